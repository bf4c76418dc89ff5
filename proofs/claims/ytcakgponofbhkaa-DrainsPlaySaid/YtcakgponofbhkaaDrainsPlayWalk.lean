/- Any calls: the set's answers are the document's. -/
import Derived.Test.YtcakgponofbhkaaRDrainsOwn
namespace Go.Proofs.Ytcakgponofbhkaa
open Go.RowKit
set_option linter.unusedVariables false
set_option maxRecDepth 100000

def PlayR (bs br : Nat) (M : List BT) : List Asrt := [DrA bs M, RDA br (sortD M)]
def DPlayRel (w : World) (len bs br : Nat) (k : Value) (wr : World) : Prop := ∃ (j : Nat) (M : List BT), k = .int .i64 j ∧ j ≤ len ∧ KeysD M ∧ Own w wr (PlayR bs br M)
def DPlayMid (w : World) (g bs br : Nat) (cs : Array Value) (ok : Value) (wx : World) : Prop := ok = .bool true ∧ ∃ M : List BT, KeysD M ∧ Own w wx (Cells g cs 45 :: PlayR bs br M)
def DPlayIn (w : World) (g bs br : Nat) (D : List BT) (cs : Array Value) (v2 v3 : Value) (M : List BT) (ok k : Value) (wx : World) : Prop :=
  ∃ j : Nat, k = .int .i64 j ∧ ok = .bool true ∧ j ≤ D.length ∧ Own w wx (RowA 3 1 v3 D.length (D.map (fun x => Value.int .i64 x.1)) :: RowA 3 1 v2 D.length (D.map (fun x => Value.int .i64 x.1)) :: Cells g cs 45 :: PlayR bs br M)
def DPlayEnd (g bs br : Nat) (cs : Array Value) (v : Value) (M : List BT) : List Asrt := [RowA 28 2 v (sortD M).length (flat (sortD M)), Cells g cs 45, DrA bs M, Cells br #[v] 43]
theorem play_facts {F0 : List Nat} {w0 w : World} {R : List Asrt} {bs : Nat} {M : List BT} (h : In F0 w0 w R) (i : Nat) (hA : R[i]? = some (DrA bs M)) : M.length ≤ 1024 ∧ M.Pairwise LtTB := by
  obtain ⟨F, hF⟩ := h.get i hA
  obtain ⟨f1, f2, f3⟩ := hF.facts
  exact ⟨f2, row_lt f3 f1⟩

set_option maxHeartbeats 16000000 in
theorem walk_DrainsPlay (w : World) {a : Option Addr} {len cap : Nat} {ps : List (List Int)} (hp : ArgRows [.i64, .i64, .i64] w a len cap ps) :
    Calls Try.prog 4 #[.slice a len cap] w (TruePost w) := by
  have hlen : len ≤ 9223372036854775807 := by have := hp.room; have := hp.most; unfold maxLen at this; omega
  have HP := Lib.hid hp
  clear hp
  go_enter Try.func4, Try.ntmps4
  go_wp2_with fail
  refine (dnew (Own.nil w)).mono ?_
  rintro e w1 ⟨bs, rfl, ho⟩
  have h1 := (ho.cells #[.slice none 0 0] 43).perm (List.Perm.refl _)
  have h2 := (h1.rownil 28 2).sel [1, 0, 2] (by decide) rfl
  have h3 := (In.join (A1 := [_, _]) (R := [_]) h2).imp (A' := RDA w1.heap.size []) 0 rfl (RDA.framed _ _) (fun F hF => ⟨_, hF⟩)
  have HS : Hid (DPlayRel w len bs w1.heap.size (.int .i64 0) (w1.alloc (.cells #[.slice none 0 0] 43))) := Lib.hid ⟨0, [], rfl, Nat.zero_le _, by simp [KeysD], by have := h3.sel [1, 0] (by decide) rfl; unfold PlayR; rw [sortD_nil]; exact this⟩
  clear ho h1 h2 h3
  go_wp2_with fail
  generalize w1.heap.size = br at *
  go_loopw [5] (DPlayRel w len bs br) (fun v _ => len - (intOf v).toNat)
  case atStart => exact HS.out
  case round =>
    obtain ⟨k, M, rfl, hk, hkeys, ho⟩ := hrel
    clear HS
    by_cases hlt : k < len
    · obtain ⟨ba, o, x, rfl, hb, _, hx3, hwf, hcell⟩ := HP.out.read hlt
      match x, hx3 with
      | [d, b, t], _ =>
        have c0 := hcell 0 _ rfl
        have c1 := hcell 1 _ rfl
        have c2 := hcell 2 _ rfl
        rw [← ho.old hb] at c0 c1 c2
        simp only [List.length_cons, List.length_nil, Nat.zero_add, Nat.reduceAdd, Nat.add_zero] at c0 c1 c2
        have hlt' : (k : Int) < (len : Int) := by omega
        obtain ⟨hM1, hM2⟩ := play_facts ho 0 rfl
        have HO := Lib.hid (ho.cells #[.int .i64 d, .int .i64 b, .int .i64 t] 45)
        have HK := Lib.hid hkeys
        have HO0 := Lib.hid ho
        clear hcell hwf ho hkeys hlt
        by_cases hk6 : k < 150
        · have hk6' : (k : Int) < 150 := by omega
          go_upto_block 2 with fail
          generalize wr.heap.size = g at *
          obtain ⟨W1, hW1⟩ : ∃ W1, W1 = wr.alloc (.cells #[.int .i64 d, .int .i64 b, .int .i64 t] 45) := ⟨_, rfl⟩
          rw [← hW1] at HO ⊢
          clear hW1 HO0
          have e1 : W1.cell? ⟨g, 1, none⟩ = some (.int .i64 b) := cell_of (HO.out.block 0 rfl) rfl
          have e2 : W1.cell? ⟨g, 2, none⟩ = some (.int .i64 t) := cell_of (HO.out.block 0 rfl) rfl
          go_cut [7] (fun ok wx => DPlayMid w g bs br #[.int .i64 d, .int .i64 b, .int .i64 t] ok wx)
          case first =>
            by_cases hd0 : d = 0
            · have hdd : (d == 0) = true := by simpa using hd0
              have HP1 := Lib.hid fun w' (h : In [] w w' (Cells g #[.int .i64 d, .int .i64 b, .int .i64 t] 45 :: [DrA bs (putB M b t).1, RDA br (sortD M)])) => o_rdput h 2 rfl hM1 HK.out b t
              have HKp := Lib.hid (putB_keys HK.out b t)
              have HQ := Lib.hid (o_dput (HO.out.drewN 1) 1 rfl b t)
              clear hd0
              generalize putB M b t = r at *
              obtain ⟨M2, n2⟩ := r
              go_wp2_with fail
              go_region_held3 (fun w' => w'.cell? ⟨g, 1, none⟩ = some (.int .i64 b) ∧ w'.cell? ⟨g, 2, none⟩ = some (.int .i64 t)) (first | exact hc2 | exact hc1 | go_keep)
                (first
                  | (go_at_call 14
                     refine HQ.out.mono ?_
                     rintro e w2 ⟨rfl, ho⟩
                     have hc1 : w2.cell? ⟨g, 1, none⟩ = some (.int .i64 b) ∧ w2.cell? ⟨g, 2, none⟩ = some (.int .i64 t) := ⟨cell_of (ho.block 0 rfl) rfl, cell_of (ho.block 0 rfl) rfl⟩
                     have H1 := Lib.hid ho
                     clear ho)
                  | (go_at_call 20
                     refine (HP1.out _ H1.out).mono ?_
                     rintro e w3 ⟨rfl, ho⟩
                     have hc2 : w3.cell? ⟨g, 1, none⟩ = some (.int .i64 b) ∧ w3.cell? ⟨g, 2, none⟩ = some (.int .i64 t) := ⟨cell_of (ho.block 0 rfl) rfl, cell_of (ho.block 0 rfl) rfl⟩
                     have H2 := Lib.hid ho
                     clear ho))
              have HE : Hid (DPlayMid w g bs br #[.int .i64 d, .int .i64 b, .int .i64 t] (.bool true) w3) := Lib.hid ⟨rfl, M2, HKp.out, H2.out⟩
              go_wp2_with fail
              go_meet
              exact HE.out
            · have hdd : (d == 0) = false := by simpa using hd0
              by_cases hd1 : d = 1
              · have hdd1 : (d == 1) = true := by simpa using hd1
                have HP1 := Lib.hid fun w' (h : In [] w w' (Cells g #[.int .i64 d, .int .i64 b, .int .i64 t] 45 :: [DrA bs (delD b M), RDA br (sortD M)])) => o_rdclearM h 2 rfl hM1 HK.out b
                have HKp := Lib.hid (HK.out.del b)
                have HQ := Lib.hid (o_dclear (HO.out.drewN 1) 1 rfl b)
                clear hd0 hd1
                generalize delD b M = M2 at *
                generalize (atD M b).isSome = q at *
                go_wp2_with fail
                go_region_held3 (fun w' => w'.cell? ⟨g, 1, none⟩ = some (.int .i64 b)) (first | exact hc2 | exact hc1 | go_keep)
                  (first
                    | (go_at_call 21
                       refine HQ.out.mono ?_
                       rintro e w2 ⟨rfl, ho⟩
                       have hc1 : w2.cell? ⟨g, 1, none⟩ = some (.int .i64 b) := cell_of (ho.block 0 rfl) rfl
                       have H1 := Lib.hid ho
                       clear ho)
                    | (go_at_call 22
                       refine (HP1.out _ H1.out).mono ?_
                       rintro e w3 ⟨rfl, ho⟩
                       have hc2 : w3.cell? ⟨g, 1, none⟩ = some (.int .i64 b) := cell_of (ho.block 0 rfl) rfl
                       have H2 := Lib.hid ho
                       clear ho))
                have HE : Hid (DPlayMid w g bs br #[.int .i64 d, .int .i64 b, .int .i64 t] (.bool true) w3) := Lib.hid ⟨rfl, M2, HKp.out, H2.out⟩
                go_wp2_with fail
                go_meet
                exact HE.out
              · have hdd1 : (d == 1) = false := by simpa using hd1
                have HP1 := Lib.hid fun w' v (h : In [] w w' (RowA 3 1 v (dueD M t).length ((dueD M t).map (fun x => Value.int .i64 x.1)) :: Cells g #[.int .i64 d, .int .i64 b, .int .i64 t] 45 :: [DrA bs (dueDR M t), RDA br (sortD M)])) => o_rddue h 3 rfl hM1 HK.out hM2 t
                have HKp := Lib.hid (dueDR_keys HK.out t)
                have HQ := Lib.hid (o_ddue (HO.out.drewN 1) 1 rfl t)
                have hDl : (dueD M t).length ≤ 1024 := by
                  have := congrArg List.length (due_app M t)
                  simp at this; omega
                clear hd0 hd1
                generalize dueDR M t = M2 at *
                generalize dueD M t = D at *
                go_wp2_with fail
                go_region_held3 (fun w' => w'.cell? ⟨g, 2, none⟩ = some (.int .i64 t)) (first | exact hc2 | exact hc1 | go_keep)
                  (first
                    | (go_at_call 16
                       refine HQ.out.mono ?_
                       rintro e w2 ⟨v2, rfl, ho⟩
                       have hc1 : w2.cell? ⟨g, 2, none⟩ = some (.int .i64 t) := cell_of (ho.block 1 rfl) rfl
                       have H1 := Lib.hid ho
                       clear ho)
                    | (go_at_call 23
                       refine (HP1.out _ _ H1.out).mono ?_
                       rintro e w3 ⟨v3, rfl, ho⟩
                       have hc2 : w3.cell? ⟨g, 2, none⟩ = some (.int .i64 t) := cell_of (ho.block 2 rfl) rfl
                       have H2 := Lib.hid ho
                       clear ho))
                obtain ⟨F2, hr2⟩ := H2.out.get 1 rfl
                obtain ⟨a2, cap2, rfl, -, -, -⟩ := hr2.shape
                obtain ⟨F3, hr3⟩ := H2.out.get 0 rfl
                obtain ⟨a3, cap3, rfl, -, -, -⟩ := hr3.shape
                have HS : Hid (DPlayIn w g bs br D #[.int .i64 d, .int .i64 b, .int .i64 t] (.slice a2 D.length cap2) (.slice a3 D.length cap3) M2 (.bool true) (.int .i64 0) w3) := Lib.hid ⟨0, rfl, rfl, Nat.zero_le _, H2.out⟩
                clear hr2 hr3 H1 H2 HQ HP1
                go_wp2_with fail
                obtain ⟨wo, rfl⟩ : ∃ wo : World, wo = wr := ⟨_, rfl⟩
                go_loopw [7, 10] (DPlayIn w g bs br D #[.int .i64 d, .int .i64 b, .int .i64 t] (.slice a2 D.length cap2) (.slice a3 D.length cap3) M2) (fun _ k _ => D.length - (intOf k).toNat)
                case atStart => exact HS.out
                case round =>
                  obtain ⟨j, rfl, rfl, hj, ho⟩ := hrel
                  clear HS
                  by_cases hlt : j < D.length
                  · obtain ⟨x, hx⟩ : ∃ x, D[j]? = some x := ⟨D[j], List.getElem?_eq_getElem hlt⟩
                    obtain ⟨F2, hr2⟩ := ho.get 1 rfl
                    obtain ⟨F3, hr3⟩ := ho.get 0 rfl
                    obtain ⟨b2, rfl, q2⟩ := hr2.at.2 j (.int .i64 x.1) (by simp [hx])
                    obtain ⟨b3, rfl, q3⟩ := hr3.at.2 j (.int .i64 x.1) (by simp [hx])
                    have i1 : (j : Int) < (D.length : Int) := by omega
                    have HR : Hid (∀ m, DPlayIn w g bs br D #[.int .i64 d, .int .i64 b, .int .i64 t] (.slice (some ⟨b2, 0, none⟩) D.length cap2) (.slice (some ⟨b3, 0, none⟩) D.length cap3) M2 (.bool true) (.int .i64 (j + 1)) (wr.drewN m)) :=
                      Lib.hid fun m => ⟨j + 1, rfl, by congr 1, by omega, ho.drewN m⟩
                    clear ho hr2 hr3 hx hlt
                    go_wp2_with fail
                    go_quiet (fail)
                    go_wp2_with fail
                    go_roundw
                    case rel => exact HR.out _
                    case measure => simp [intOf]; omega
                  · have hge : (D.length : Int) ≤ (j : Int) := by omega
                    have HE : Hid (DPlayMid w g bs br #[.int .i64 d, .int .i64 b, .int .i64 t] (.bool true) wr) := Lib.hid ⟨rfl, M2, HKp.out, ho.drop.drop⟩
                    clear ho hlt
                    go_wp2_with fail
                    go_meet
                    exact HE.out
          case rest =>
            obtain ⟨rfl, M2, hk2, ho⟩ := hcut
            obtain ⟨hM3, hM4⟩ := play_facts ho 1 rfl
            have e1 : wc.cell? ⟨g, 1, none⟩ = some (.int .i64 b) := cell_of (ho.block 0 rfl) rfl
            have HU := Lib.hid (o_duntil ho 1 rfl b)
            have HRU := Lib.hid fun w' (h : In [] w w' (Cells g #[.int .i64 d, .int .i64 b, .int .i64 t] 45 :: PlayR bs br M2)) => o_rduntilM h 2 rfl hM3 hk2 b
            have Hk2 := Lib.hid hk2
            have hLs := Lib.hid (sortD_length M2)
            clear ho hk2 hM4 HO HK e2
            generalize ht0 : (atD M2 b).getD 0 = t0 at *
            generalize hq0 : (atD M2 b).isSome = q at *
            clear ht0
            have Hq := Lib.hid hq0
            clear hq0
            go_wp2_with fail
            refine HU.out.mono ?_
            rintro e w2 ⟨rfl, ho⟩
            have e2 : w2.cell? ⟨g, 1, none⟩ = some (.int .i64 b) := cell_of (ho.block 0 rfl) rfl
            have HO2 := Lib.hid ho
            clear ho HU e1
            go_wp2_with fail
            refine (HRU.out _ HO2.out).mono ?_
            rintro e w3 ⟨rfl, ho⟩
            clear HRU HO2 e2
            obtain ⟨v3, ho1⟩ := ho.ex (G := fun v => Star (RDr br v (sortD M2))) 2 rfl (fun v => Framed.star RDr.framed)
            have ho2 := ho1.split 2 rfl (Cells.framed _ _ _) (RowA.framed _ _ _ _ _)
            obtain ⟨F3, hr3⟩ := ho2.get 0 rfl
            obtain ⟨a3, cap3, rfl, -, -, -⟩ := hr3.shape
            have H3 : Hid (In [] w w3 (DPlayEnd g bs br #[.int .i64 d, .int .i64 b, .int .i64 t] (.slice a3 (sortD M2).length cap3) M2)) := Lib.hid ho2
            have e3 : w3.cell? ⟨g, 1, none⟩ = some (.int .i64 b) := cell_of (H3.out.block 1 rfl) rfl
            have e4 : w3.cell? ⟨br, 0, none⟩ = some (.slice a3 (sortD M2).length cap3) := cell_of (H3.out.block 3 rfl) rfl
            have HI : Hid (∀ w', In [] w w' (DPlayEnd g bs br #[.int .i64 d, .int .i64 b, .int .i64 t] (.slice a3 (sortD M2).length cap3) M2) → Calls Try.prog 26 #[.pointer (some ⟨bs, 0, none⟩), .int .i64 b] w' fun e w'' => e = .returned (.bool q) ∧ In [] w w'' (DPlayEnd g bs br #[.int .i64 d, .int .i64 b, .int .i64 t] (.slice a3 (sortD M2).length cap3) M2)) :=
              Lib.hid fun w' h => by have := o_dis h 2 rfl b; rw [Hq.out] at this; exact this
            have HS : Hid (∀ w' v, In [] w w' (RowA 28 2 v (sortD M2).length (flat (sortD M2)) :: DPlayEnd g bs br #[.int .i64 d, .int .i64 b, .int .i64 t] (.slice a3 (sortD M2).length cap3) M2) → Calls Try.prog 27 #[v, .slice a3 (sortD M2).length cap3] w' fun e w'' => e = .returned (.bool true) ∧ In [] w w'' (RowA 28 2 v (sortD M2).length (flat (sortD M2)) :: DPlayEnd g bs br #[.int .i64 d, .int .i64 b, .int .i64 t] (.slice a3 (sortD M2).length cap3) M2)) :=
              Lib.hid fun w' v h => by
                obtain ⟨Fa, ha⟩ := h.get 0 rfl
                obtain ⟨Fb, hb⟩ := h.get 1 rfl
                exact (samedrains ha hb (by rw [hLs.out]; omega)).mono fun e w'' ⟨he, m, hw⟩ => ⟨he, hw ▸ h.drewN m⟩
            have HL : Hid (∀ w' v, In [] w w' (RowA 28 2 v (sortD M2).length (flat (sortD M2)) :: DPlayEnd g bs br #[.int .i64 d, .int .i64 b, .int .i64 t] (.slice a3 (sortD M2).length cap3) M2) → Calls Try.prog 18 #[.pointer (some ⟨bs, 0, none⟩)] w' fun e w'' => e = .returned (.int .i64 (sortD M2).length) ∧ w' = w'') :=
              Lib.hid fun w' v h => by have := o_dlen h 3 rfl; rw [hLs.out]; exact this
            have HR : Hid (∀ w' v, In [] w w' (RowA 28 2 v (sortD M2).length (flat (sortD M2)) :: DPlayEnd g bs br #[.int .i64 d, .int .i64 b, .int .i64 t] (.slice a3 (sortD M2).length cap3) M2) → DPlayRel w len bs br (.int .i64 (k + 1)) w') :=
              Lib.hid fun w' v h => by
                refine ⟨k + 1, M2, by congr 1, by omega, Hk2.out, ?_⟩
                have h2 := In.join (A1 := [_, _]) (R := [_]) (h.sel [4, 1, 3] (by decide) rfl)
                have h3 := h2.imp (A' := RDA br (sortD M2)) 0 rfl (RDA.framed _ _) (fun F hF => ⟨_, hF⟩)
                exact h3.sel [1, 0] (by decide) rfl
            have HA : Hid (∀ w', In [] w w' (DPlayEnd g bs br #[.int .i64 d, .int .i64 b, .int .i64 t] (.slice a3 (sortD M2).length cap3) M2) → Calls Try.prog 17 #[.pointer (some ⟨bs, 0, none⟩)] w' fun e w'' => ∃ v, e = .returned v ∧ In [] w w'' (RowA 28 2 v (sortD M2).length (flat (sortD M2)) :: DPlayEnd g bs br #[.int .i64 d, .int .i64 b, .int .i64 t] (.slice a3 (sortD M2).length cap3) M2)) :=
              Lib.hid fun w' h => o_dall h 2 rfl
            clear ho ho1 ho2 hr3 hLs
            have hLn : (sortD M2).length ≤ 1024 := by rw [sortD_length]; exact hM3
            go_wp2_with fail
            go_region_held3 (fun w' => w'.cell? ⟨g, 1, none⟩ = some (.int .i64 b) ∧ w'.cell? ⟨br, 0, none⟩ = some (.slice a3 (sortD M2).length cap3)) (first | exact hc6 | exact hc5 | exact hc4 | go_keep)
              (first
                | (go_at_call 26
                   refine (HI.out _ (H3.out.drewN 1)).mono ?_
                   rintro e w4 ⟨rfl, ho⟩
                   have hc4 : w4.cell? ⟨g, 1, none⟩ = some (.int .i64 b) ∧ w4.cell? ⟨br, 0, none⟩ = some (.slice a3 (sortD M2).length cap3) := ⟨cell_of (ho.block 1 rfl) rfl, cell_of (ho.block 3 rfl) rfl⟩
                   have H4 := Lib.hid ho
                   clear ho)
                | (go_at_call 17
                   refine (HA.out _ H4.out).mono ?_
                   rintro e w5 ⟨v5, rfl, ho⟩
                   have hc5 : w5.cell? ⟨g, 1, none⟩ = some (.int .i64 b) ∧ w5.cell? ⟨br, 0, none⟩ = some (.slice a3 (sortD M2).length cap3) := ⟨cell_of (ho.block 2 rfl) rfl, cell_of (ho.block 4 rfl) rfl⟩
                   have H5 := Lib.hid ho
                   clear ho)
                | (go_at_call 27
                   refine (HS.out _ _ H5.out).mono ?_
                   rintro e w6 ⟨rfl, ho⟩
                   have hc6 : w6.cell? ⟨g, 1, none⟩ = some (.int .i64 b) ∧ w6.cell? ⟨br, 0, none⟩ = some (.slice a3 (sortD M2).length cap3) := ⟨cell_of (ho.block 2 rfl) rfl, cell_of (ho.block 4 rfl) rfl⟩
                   have H6 := Lib.hid ho
                   clear ho)
                | (go_at_call 18
                   refine (HL.out _ _ H6.out).mono ?_
                   rintro e w7 ⟨rfl, rfl⟩))
            have HE := Lib.hid (HR.out _ _ H6.out)
            clear HR H3 H4 H5 H6 HI HA HS HL
            go_wp2_with fail
            go_roundw
            case rel => exact HE.out
            case measure => simp [intOf]; omega
        · have hk6' : (150 : Int) ≤ (k : Int) := by omega
          have hd6 : decide ((k : Int) < 150) = false := by simp; omega
          have HA := Lib.hid (o_d12awake HO0.out)
          clear HO
          go_wp2_with fail
          refine HA.out.mono ?_
          rintro e w5 ⟨rfl, h5⟩
          have H5 := Lib.hid h5
          clear h5
          go_wp2_with fail
          go_ret
          exact ⟨rfl, H5.out.mod⟩
    · have hge : (len : Int) ≤ (k : Int) := by omega
      have HA := Lib.hid (o_d12awake ho)
      clear ho hlt
      go_wp2_with fail
      refine HA.out.mono ?_
      rintro e w5 ⟨rfl, h5⟩
      have H5 := Lib.hid h5
      clear h5
      go_wp2_with fail
      go_ret
      exact ⟨rfl, H5.out.mod⟩
end Go.Proofs.Ytcakgponofbhkaa
