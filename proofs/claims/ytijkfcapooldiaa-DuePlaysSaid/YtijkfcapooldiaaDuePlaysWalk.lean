/- Any calls: the queue's answers are the document's. -/
import Derived.Test.YtijkfcapooldiaaRQueueDue
import Derived.Test.YtijkfcapooldiaaDueArgs
import Derived.BigQuiet
import Derived.Deep.QuietTactic
namespace Go.Proofs.Ytijkfcapooldiaa
open Go.RowKit
set_option linter.unusedVariables false
set_option maxRecDepth 100000

def QPlayR (bq br : Nat) (S : List KT) : List Asrt := [QA bq S, RQA br S]
def QPlayRel (w : World) (len bq br : Nat) (k : Value) (wr : World) : Prop := ∃ (j : Nat) (S : List KT), k = .int .i64 j ∧ j ≤ len ∧ Own w wr (QPlayR bq br S)
def QPlayMid (w : World) (g bq br : Nat) (cs : Array Value) (ok : Value) (wx : World) : Prop := ok = .bool true ∧ ∃ S : List KT, Own w wx (Cells g cs 42 :: QPlayR bq br S)
theorem q_facts {F0 : List Nat} {w0 w : World} {R : List Asrt} {bq : Nat} {S : List KT} (h : In F0 w0 w R) (i : Nat) (hA : R[i]? = some (QA bq S)) : S.length ≤ 1024 ∧ Keys1 S := by
  obtain ⟨F, hF⟩ := h.get i hA
  exact ⟨IsQ.len hF, IsQ.keys hF⟩

set_option maxHeartbeats 16000000 in
theorem walk_DuePlays (w : World) {a : Option Addr} {len cap : Nat} {cs : List CallT} (hp : ArgCalls w a len cap cs) (key : ByteArray) (hkey : key.size ≤ maxLen) :
    Calls Try.prog 7 #[.slice a len cap, .string key] w (TruePost w) := by
  have hlen : len ≤ 9223372036854775807 := by have := hp.room; have := hp.most; unfold maxLen at this; omega
  have HP := Lib.hid hp
  have HKey := Lib.hid hkey
  clear hp hkey
  go_enter Try.func7, Try.ntmps7
  go_wp2_with fail
  refine (o_new (Own.nil w)).mono ?_
  rintro e w1 ⟨bq, rfl, ho⟩
  have h1 := (ho.cells #[.slice none 0 0] 50).rownil 54 2
  have h2 := h1.imp (A' := ViewA 2 (.slice none 0 0) 0 []) 0 rfl (ViewA.framed _ _ _ _) (fun F hF => hF.view)
  have h3 := (In.join (A1 := [_, _]) (R := [_]) (h2.sel [1, 0, 2] (by decide) rfl)).imp (A' := RQA w1.heap.size []) 0 rfl (RQA.framed _ _) (fun F hF => ⟨_, hF⟩)
  have HS : Hid (QPlayRel w len bq w1.heap.size (.int .i64 0) (w1.alloc (.cells #[.slice none 0 0] 50))) := Lib.hid ⟨0, [], rfl, Nat.zero_le _, h3.sel [1, 0] (by decide) rfl⟩
  clear ho h1 h2 h3
  go_wp2_with fail
  generalize w1.heap.size = br at *
  go_loopw [7] (QPlayRel w len bq br) (fun v _ => len - (intOf v).toNat)
  case atStart => exact HS.out
  case round =>
    obtain ⟨k, S, rfl, hk, ho⟩ := hrel
    clear HS
    by_cases hlt : k < len
    · obtain ⟨ba, o, d, b, t, rfl, hb, _, hbs, c0, c1, c2⟩ := HP.out.read hlt
      rw [← ho.old hb] at c0 c1 c2
      have hlt' : (k : Int) < (len : Int) := by omega
      obtain ⟨hS1, hS2⟩ := q_facts ho 0 rfl
      have HO := Lib.hid (ho.cells #[.int .i64 d, .string b, .int .i64 t] 42)
      have HK := Lib.hid hS2
      have HO0 := Lib.hid ho
      have Hbs := Lib.hid hbs
      clear ho hS2 hlt hbs
      by_cases hk6 : k < 150
      · have hk6' : (k : Int) < 150 := by omega
        go_upto_block 2 with fail
        generalize wr.heap.size = g at *
        obtain ⟨W1, hW1⟩ : ∃ W1, W1 = wr.alloc (.cells #[.int .i64 d, .string b, .int .i64 t] 42) := ⟨_, rfl⟩
        rw [← hW1] at HO ⊢
        clear hW1 HO0
        have e1 : W1.cell? ⟨g, 1, none⟩ = some (.string b) := cell_of (HO.out.block 0 rfl) rfl
        have e2 : W1.cell? ⟨g, 2, none⟩ = some (.int .i64 t) := cell_of (HO.out.block 0 rfl) rfl
        go_cut [9] (fun ok wx => QPlayMid w g bq br #[.int .i64 d, .string b, .int .i64 t] ok wx)
        case first =>
          by_cases hd0 : d = 0
          · have hdd : (d == 0) = true := by simpa using hd0
            have HP1 := Lib.hid fun w' (h : In [] w w' (Cells g #[.int .i64 d, .string b, .int .i64 t] 42 :: [QA bq (setS S b t).1, RQA br S])) => o_rqset h 2 rfl hS1 HK.out b t
            have HQ := Lib.hid (o_set (HO.out.drewN 1) 1 rfl Hbs.out t)
            clear hd0
            generalize setS S b t = r at *
            obtain ⟨S2, n2⟩ := r
            go_wp2_with fail
            go_region_held3 (fun w' => w'.cell? ⟨g, 1, none⟩ = some (.string b) ∧ w'.cell? ⟨g, 2, none⟩ = some (.int .i64 t)) (first | exact hc2 | exact hc1 | go_keep)
              (first
                | (go_at_call 10
                   refine HQ.out.mono ?_
                   rintro e w2 ⟨rfl, ho⟩
                   have hc1 : w2.cell? ⟨g, 1, none⟩ = some (.string b) ∧ w2.cell? ⟨g, 2, none⟩ = some (.int .i64 t) := ⟨cell_of (ho.block 0 rfl) rfl, cell_of (ho.block 0 rfl) rfl⟩
                   have H1 := Lib.hid ho
                   clear ho)
                | (go_at_call 18
                   refine (HP1.out _ H1.out).mono ?_
                   rintro e w3 ⟨rfl, ho⟩
                   have hc2 : w3.cell? ⟨g, 1, none⟩ = some (.string b) ∧ w3.cell? ⟨g, 2, none⟩ = some (.int .i64 t) := ⟨cell_of (ho.block 0 rfl) rfl, cell_of (ho.block 0 rfl) rfl⟩
                   have H2 := Lib.hid ho
                   clear ho))
            have HE : Hid (QPlayMid w g bq br #[.int .i64 d, .string b, .int .i64 t] (.bool true) w3) := Lib.hid ⟨rfl, S2, H2.out⟩
            go_wp2_with fail
            go_meet
            exact HE.out
          · have hdd : (d == 0) = false := by simpa using hd0
            by_cases hd1 : d = 1
            · have hdd1 : (d == 1) = true := by simpa using hd1
              have HP1 := Lib.hid fun w' (h : In [] w w' (Cells g #[.int .i64 d, .string b, .int .i64 t] 42 :: [QA bq (delS b S), RQA br S])) => o_rqdrop h 2 rfl (by omega) HK.out b
              have HQ := Lib.hid (o_drop (HO.out.drewN 1) 1 rfl Hbs.out)
              clear hd0 hd1
              generalize delS b S = S2 at *
              generalize (atS S b).isSome = q at *
              go_wp2_with fail
              go_region_held3 (fun w' => w'.cell? ⟨g, 1, none⟩ = some (.string b)) (first | exact hc2 | exact hc1 | go_keep)
                (first
                  | (go_at_call 17
                     refine HQ.out.mono ?_
                     rintro e w2 ⟨rfl, ho⟩
                     have hc1 : w2.cell? ⟨g, 1, none⟩ = some (.string b) := cell_of (ho.block 0 rfl) rfl
                     have H1 := Lib.hid ho
                     clear ho)
                  | (go_at_call 19
                     refine (HP1.out _ H1.out).mono ?_
                     rintro e w3 ⟨rfl, ho⟩
                     have hc2 : w3.cell? ⟨g, 1, none⟩ = some (.string b) := cell_of (ho.block 0 rfl) rfl
                     have H2 := Lib.hid ho
                     clear ho))
              have HE : Hid (QPlayMid w g bq br #[.int .i64 d, .string b, .int .i64 t] (.bool true) w3) := Lib.hid ⟨rfl, S2, H2.out⟩
              go_wp2_with fail
              go_meet
              exact HE.out
            · have hdd1 : (d == 1) = false := by simpa using hd1
              have HP1 := Lib.hid fun w' v (h : In [] w w' (StrsA v (dueK S t) :: Cells g #[.int .i64 d, .string b, .int .i64 t] 42 :: [QA bq (dueR S t), RQA br S])) => o_rqdue h 3 rfl (by omega) t
              have HQ := Lib.hid (o_due (HO.out.drewN 1) 1 rfl t)
              clear hd0 hd1
              generalize dueR S t = S2 at *
              generalize dueK S t = D at *
              have HSm : Hid (∀ w' v v', In [] w w' (StrsA v' D :: StrsA v D :: Cells g #[.int .i64 d, .string b, .int .i64 t] 42 :: QPlayR bq br S2) → Calls Try.prog 15 #[v, v'] w' fun e w'' => e = .returned (.bool true) ∧ In [] w w'' (Cells g #[.int .i64 d, .string b, .int .i64 t] 42 :: QPlayR bq br S2)) :=
                Lib.hid fun w' v v' h => (o_same h 1 0 rfl rfl).mono fun e w'' ⟨he, m, hw⟩ => ⟨by rw [he]; simp, hw ▸ (h.drop.drop.drewN m)⟩
              go_wp2_with fail
              go_region_held3 (fun w' => w'.cell? ⟨g, 2, none⟩ = some (.int .i64 t)) (first | exact hc3 | exact hc2 | exact hc1 | go_keep)
                (first
                  | (go_at_call 12
                     refine HQ.out.mono ?_
                     rintro e w2 ⟨v2, rfl, ho⟩
                     have hc1 : w2.cell? ⟨g, 2, none⟩ = some (.int .i64 t) := cell_of (ho.block 1 rfl) rfl
                     have H1 := Lib.hid ho
                     clear ho)
                  | (go_at_call 20
                     refine (HP1.out _ _ H1.out).mono ?_
                     rintro e w3 ⟨v3, rfl, ho⟩
                     have hc2 : w3.cell? ⟨g, 2, none⟩ = some (.int .i64 t) := cell_of (ho.block 2 rfl) rfl
                     have H2 := Lib.hid ho
                     clear ho)
                  | (go_at_call 15
                     refine (HSm.out _ _ _ H2.out).mono ?_
                     rintro e w4 ⟨rfl, ho⟩
                     have hc3 : w4.cell? ⟨g, 2, none⟩ = some (.int .i64 t) := cell_of (ho.block 0 rfl) rfl
                     have H3 := Lib.hid ho
                     clear ho))
              have HE : Hid (QPlayMid w g bq br #[.int .i64 d, .string b, .int .i64 t] (.bool true) w4) := Lib.hid ⟨rfl, S2, H3.out⟩
              go_wp2_with fail
              go_meet
              exact HE.out
        case rest =>
          obtain ⟨rfl, S2, ho⟩ := hcut
          clear HO HK e1 e2
          have HN := Lib.hid (o_next ho 1 rfl)
          have HO2 := Lib.hid ho
          clear ho
          go_wp2_with fail
          refine HN.out.mono ?_
          intro e w2 hn
          obtain ⟨he, m0, hw2⟩ := hn
          have ho2 : In [] w w2 (Cells g #[.int .i64 d, .string b, .int .i64 t] 42 :: QPlayR bq br S2) := hw2 ▸ HO2.out.drewN m0
          clear HN HO2 hw2
          obtain ⟨v3, ho3⟩ := ho2.ex (G := fun v => Star (RQr br v S2)) 2 rfl (fun v => Framed.star RQr.framed)
          have ho4 := ho3.split 2 rfl (Cells.framed _ _ _) (ViewA.framed _ _ _ _)
          obtain ⟨F3, hr3⟩ := ho4.get 0 rfl
          obtain ⟨a3, cap3, rfl, hc3, hm3⟩ := hr3.shape
          have c3 : w2.cell? ⟨br, 0, none⟩ = some (.slice a3 S2.length cap3) := cell_of (ho4.block 3 rfl) rfl
          have HR : Hid (∀ q, QPlayRel w len bq br (.int .i64 (k + 1)) (w2.drewN q)) := Lib.hid fun q => ⟨k + 1, S2, by congr 1, by omega, (ho2.sel [1, 2] (by decide) rfl).drewN q⟩
          have HL : Hid (∀ q, Calls Try.prog 11 #[.pointer (some ⟨bq, 0, none⟩)] (w2.drewN q) fun e w' => e = .returned (.int .i64 S2.length) ∧ w' = w2.drewN q) := Lib.hid fun q => (o_len (ho2.drewN q) 1 rfl).mono fun e w' ⟨h1, h2⟩ => ⟨h1, h2.symm⟩
          unfold maxLen at hm3
          cases S2 with
          | nil =>
            subst he
            clear ho2 ho3 ho4 hr3
            simp only [List.length_nil] at *
            go_wp2_with fail
            go_quiet ((go_at_call 11; exact Calls.quiet_of_same (HL.out _)))
            go_wp2_with fail
            go_roundw
            case rel => exact HR.out _
            case measure => simp [intOf]; omega
          | cons x r =>
            subst he
            obtain ⟨gg, oo, rfl, hq⟩ := hr3.at (by simp) (by omega)
            have r0 : w2.cell? ⟨gg, oo, none⟩ = some (.string x.1) := by simpa using hq _ _ (flatQ_at (L := x :: r) (j := 0) (x := x) rfl).1
            have r1 : w2.cell? ⟨gg, oo + 1, none⟩ = some (.int .i64 x.2) := by simpa using hq _ _ (flatQ_at (L := x :: r) (j := 0) (x := x) rfl).2
            have hpos : 0 < (x :: r).length := by simp
            clear ho2 ho3 ho4 hr3 hq
            generalize (x :: r).length = n at *
            have hpos' : (0 : Int) < (n : Int) := by omega
            go_wp2_with fail
            go_quiet ((go_at_call 11; exact Calls.quiet_of_same (HL.out _)))
            go_wp2_with fail
            go_roundw
            case rel => exact HR.out _
            case measure => simp [intOf]; omega
      · have hk6' : (150 : Int) ≤ (k : Int) := by omega
        have hd6 : decide ((k : Int) < 150) = false := by simp; omega
        have HA := Lib.hid (o_at HO0.out 0 rfl HKey.out)
        clear HO HP Hbs
        go_wp2_with fail
        refine HA.out.mono ?_
        intro e w2 hn
        obtain ⟨rfl, m0, hw2⟩ := hn
        have HB : Hid (In [] w w2 (QPlayR bq br S)) := Lib.hid (hw2 ▸ HO0.out.drewN m0)
        clear hw2 HA HO0 c0 c1 c2
        have HC := Lib.hid (o_rqat HB.out 1 rfl (by omega) key)
        generalize (atS S key).getD 0 = t0 at *
        generalize (atS S key).isSome = q0 at *
        go_wp2_with fail
        refine HC.out.mono ?_
        rintro e w3 ⟨rfl, ho⟩
        have HD := Lib.hid (o_awake ho)
        clear ho HC HB
        go_wp2_with fail
        refine HD.out.mono ?_
        rintro e w5 ⟨rfl, h5⟩
        have H5 := Lib.hid h5
        clear h5
        go_wp2_with fail
        go_ret
        exact ⟨rfl, H5.out.mod⟩
    · have hge : (len : Int) ≤ (k : Int) := by omega
      obtain ⟨hS1, hS2⟩ := q_facts ho 0 rfl
      have HO0 := Lib.hid ho
      have HA := Lib.hid (o_at HO0.out 0 rfl HKey.out)
      clear HP ho hS2 hlt
      go_wp2_with fail
      refine HA.out.mono ?_
      intro e w2 hn
      obtain ⟨rfl, m0, hw2⟩ := hn
      have HB : Hid (In [] w w2 (QPlayR bq br S)) := Lib.hid (hw2 ▸ HO0.out.drewN m0)
      clear hw2 HA HO0
      have HC := Lib.hid (o_rqat HB.out 1 rfl (by omega) key)
      generalize (atS S key).getD 0 = t0 at *
      generalize (atS S key).isSome = q0 at *
      go_wp2_with fail
      refine HC.out.mono ?_
      rintro e w3 ⟨rfl, ho⟩
      have HD := Lib.hid (o_awake ho)
      clear ho HC HB
      go_wp2_with fail
      refine HD.out.mono ?_
      rintro e w5 ⟨rfl, h5⟩
      have H5 := Lib.hid h5
      clear h5
      go_wp2_with fail
      go_ret
      exact ⟨rfl, H5.out.mod⟩
end Go.Proofs.Ytijkfcapooldiaa
