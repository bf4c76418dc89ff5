/- The document's queue: 'Set'. -/
import Derived.Test.YtijkfcapooldiaaRQueue
namespace Go.Proofs.Ytijkfcapooldiaa
open Go.RowKit
set_option linter.unusedVariables false
set_option maxRecDepth 100000

def RQSetRel (br : Nat) (L : List KT) (x0 : KT) (v : Value) (w : World) (F : List Nat) (k : Value) (wr : World) : Prop :=
  ∃ j : Nat, k = .int .i64 j ∧ j ≤ L.length ∧ (∀ y ∈ L.take j, klt y x0 = true) ∧ In F w wr (RQr br v L)
def RQSetEnd (br : Nat) (L : List KT) (x0 : KT) (v : Value) (w : World) (F : List Nat) (k : Value) (wr : World) : Prop :=
  ∃ j : Nat, k = .int .i64 j ∧ j ≤ L.length ∧ L.take j ++ x0 :: L.drop j = ins x0 L ∧ In F w wr (RQr br v L)
theorem ins_at {x0 : KT} : ∀ {L : List KT} {j : Nat}, j ≤ L.length → (∀ y ∈ L.take j, klt y x0 = true) → (∀ y, L[j]? = some y → klt y x0 = false) → L.take j ++ x0 :: L.drop j = ins x0 L
  | [], 0, _, _, _ => rfl
  | [], j + 1, h, _, _ => by simp at h
  | z :: r, 0, _, _, h2 => by
    have := h2 z rfl
    simp [ins, this]
  | z :: r, j + 1, hj, h1, h2 => by
    have hz : klt z x0 = true := h1 z (by simp)
    have ih := ins_at (L := r) (j := j) (by simpa using hj) (fun y hy => h1 y (by simp [hy])) (fun y hy => h2 y (by simpa using hy))
    simp [ins, hz, ih]
/-- How the walk sees it. -/
theorem klt_cases (y : KT) (k : ByteArray) (t : Int) : (klt y (k, t) = true ∧ (y.2 < t ∨ (decide (y.2 < t) = false ∧ (y.2 == t) = true ∧ Op.bytesLess y.1.toList k.toList = true))) ∨
    (klt y (k, t) = false ∧ decide (y.2 < t) = false ∧ ((y.2 == t) = false ∨ ((y.2 == t) = true ∧ Op.bytesLess y.1.toList k.toList = false))) := by
  unfold klt bl
  rw [← toList_data, ← toList_data]
  by_cases h1 : y.2 < t
  · left; simp [h1]
  · simp only [h1, decide_false, Bool.false_or, false_or]
    cases h2 : (y.2 == t) <;> cases h3 : Op.bytesLess y.1.toList k.toList <;> simp [h2, h3]
theorem view_prefix {P : Program} {ST T : TypeId} {k by' : Nat} (hST : P.underlying ST = some (.slice T)) (hinf : (P.info? T).map (fun i => (i.zero.map (fun z => z.cells.size), i.size, i.bytes)) = some (some k, k, by')) {a : Option Addr} {n n' cap j : Nat} {xs : List Value} {w0 : World} {F : List Nat} (h : ViewA k (.slice a n cap) n' xs w0 F) (hj : j ≤ cap) (w : World) :
    (Instr.slice ST (.slice a n cap) none (some (.int .i64 j)) none).run P w = .ok (.slice a j cap) w := by
  obtain ⟨_, a', cap', e, _, _, h4⟩ := h
  cases e
  rcases h4 with ⟨rfl, _⟩ | ⟨g, o, rfl, _⟩
  · exact run_prefix_none hST hinf _ _ _ hj w
  · exact run_prefix_at hST hinf g o _ _ _ hj w

set_option maxHeartbeats 16000000 in
theorem rqset_ok {w : World} {br : Nat} {L : List KT} {F : List Nat} (h : RQA br L w F) (hL : L.length ≤ 2048) (hk : Keys1 L) {b : ByteArray} {t : Int} (ht : 0 ≤ t ∧ t ≤ 1099511627776) (hno : ¬ (atS L b = none ∧ 1024 ≤ L.length)) :
    Calls Try.prog 18 #[.pointer (some ⟨br, 0, none⟩), .string b, .int .i64 t] w (GV (.int .i64 0) (RQA br (ins (b, t) (delS b L))) w F) := by
  have HU := Lib.hid (o_rqat (in_one (RQA.framed br L) h) 0 rfl (by omega) b)
  have hti := time_true ht w
  have Hc : Hid ((atS L b).isSome = true ∨ ((atS L b).isSome = false ∧ decide ((1024 : Int) ≤ (L.length : Int)) = false)) := Lib.hid (by
    cases e : atS L b with
    | none => right; simp; exact Classical.byContradiction fun h => hno ⟨e, by omega⟩
    | some t => left; rfl)
  have Hk := Lib.hid hk
  have hDl : (delS b L).length ≤ 2048 := Nat.le_trans List.filter_sublist.length_le hL
  clear h ht hk hno
  go_enter Try.func18, Try.ntmps18
  go_wp2_with fail
  refine hti.mono ?_
  rintro e w1 ⟨rfl, rfl⟩
  go_wp2_with fail
  refine HU.out.mono ?_
  rintro e w1 ⟨rfl, ho⟩
  obtain ⟨v1, ho1⟩ := In.open1 (G := fun v => RQr br v L) (fun v => RQr.framed) ho
  obtain ⟨Fr, hr⟩ := ho1.get 1 rfl
  obtain ⟨a, cap, rfl, -, -⟩ := hr.shape
  have c1 : w1.cell? ⟨br, 0, none⟩ = some (.slice a L.length cap) := cell_of (ho1.block 0 rfl) rfl
  have HC := Lib.hid (o_rqdrop ho 0 rfl (by omega) Hk.out b)
  have hq := Hc.out
  clear ho ho1 hr HU Hk Hc hti
  generalize (atS L b).getD 0 = t0 at *
  generalize (atS L b).isSome = q at *
  go_upto_region 4 with fail
  go_cut [28] (fun c wx => c = .bool false ∧ wx = w1)
  case first =>
    rcases hq with rfl | ⟨rfl, hlen⟩
    all_goals
      go_wp2_with fail
      go_meet
      exact ⟨rfl, rfl⟩
  case rest =>
    obtain ⟨rfl, rfl⟩ := hcut
    go_wp2_with fail
    refine HC.out.mono ?_
    rintro e w2 ⟨rfl, ho⟩
    obtain ⟨v2, ho1⟩ := In.open1 (G := fun v => RQr br v (delS b L)) (fun v => RQr.framed) ho
    clear HC ho c1
    generalize delS b L = L2 at *
    obtain ⟨Fr, hr⟩ := ho1.get 1 rfl
    obtain ⟨a2, cap2, rfl, -, -⟩ := hr.shape
    have HS : Hid (RQSetRel br L2 (b, t) (.slice a2 L2.length cap2) w F (.int .i64 0) w2) := Lib.hid ⟨0, rfl, Nat.zero_le _, by simp, ho1⟩
    clear ho1 hr
    go_upto_block 0 with fail
    go_cut [9] (fun k wx => RQSetEnd br L2 (b, t) (.slice a2 L2.length cap2) w F k wx)
    case first =>
      go_wp2_with fail
      go_loopw [9] (RQSetRel br L2 (b, t) (.slice a2 L2.length cap2) w F) (fun k _ => L2.length - (intOf k).toNat)
      case atStart => exact HS.out
      case round =>
        obtain ⟨j, rfl, hj, hlo, ho⟩ := hrel
        clear HS
        obtain ⟨Fr, hr⟩ := ho.get 1 rfl
        have c2 : wr.cell? ⟨br, 0, none⟩ = some (.slice a2 L2.length cap2) := cell_of (ho.block 0 rfl) rfl
        by_cases hlt : j < L2.length
        · obtain ⟨x, hx⟩ : ∃ x, L2[j]? = some x := ⟨L2[j], List.getElem?_eq_getElem hlt⟩
          have hlt' : (j : Int) < (L2.length : Int) := by omega
          obtain ⟨ba, oo, rfl, hq⟩ := hr.at (by omega) (by omega)
          have r0 := hq _ _ (flatQ_at hx).1
          have r1 : wr.cell? ⟨ba, oo + j * 2 + 1, none⟩ = some (.int .i64 x.2) := hq _ _ (flatQ_at hx).2
          clear hq
          rcases klt_cases x b t with ⟨hk, hc⟩ | ⟨hk, hc0, hc⟩
          · have HR : Hid (RQSetRel br L2 (b, t) (.slice (some ⟨ba, oo, none⟩) L2.length cap2) w F (.int .i64 (j + 1)) wr) :=
              Lib.hid ⟨j + 1, by congr 1, by omega, fun y hy => by
                rw [List.take_add_one, hx] at hy
                rcases List.mem_append.1 hy with hy | hy
                · exact hlo y hy
                · simp at hy; subst hy; exact hk, ho⟩
            clear ho hr hlo hx hk
            rcases hc with hc | ⟨hc1, hc2, hc3⟩
            all_goals
              go_wp2_with fail
              go_roundw
              case rel => exact HR.out
              case measure => simp [intOf]; omega
          · have HE : Hid (RQSetEnd br L2 (b, t) (.slice (some ⟨ba, oo, none⟩) L2.length cap2) w F (.int .i64 j) wr) :=
              Lib.hid ⟨j, rfl, hj, ins_at hj hlo (fun y hy => by rw [hx] at hy; cases hy; exact hk), ho⟩
            clear ho hr hlo hx hk
            rcases hc with hc | ⟨hc1, hc2⟩
            all_goals
              go_wp2_with fail
              go_meet
              exact HE.out
        · have HE : Hid (RQSetEnd br L2 (b, t) (.slice a2 L2.length cap2) w F (.int .i64 j) wr) :=
            Lib.hid ⟨j, rfl, hj, ins_at hj hlo (fun y hy => by have := (List.getElem?_eq_some_iff.1 hy).1; omega), ho⟩
          have hge : (L2.length : Int) ≤ (j : Int) := by omega
          clear ho hr hlo hlt
          go_wp2_with fail
          go_meet
          exact HE.out
    case rest =>
      obtain ⟨j, rfl, hj, hpart, ho⟩ := hcut
      obtain ⟨Fr, hr⟩ := ho.get 1 rfl
      have Hins := Lib.hid hpart
      clear hpart HS
      have HA : Hid (In F w wc (RowA 54 2 (.slice none 0 0) 0 [] :: RQr br (.slice a2 L2.length cap2) L2)) := Lib.hid (ho.rownil _ _)
      obtain ⟨_, _, e, hcap, _⟩ := hr.shape
      cases e
      have hpre : ∀ w : World, (Instr.slice 48 (.slice a2 L2.length cap2) none (some (.int .i64 j)) none).run Try.prog w = .ok (.slice a2 j cap2) w := view_prefix Try.underlying48 infoEntry hr (by omega)
      have hsuf := run_suffix Try.underlying48 infoEntry a2 L2.length cap2 j hj
      have i0 : (0 : Int) ≤ (j : Int) := by omega
      have i1 : (j : Int) ≤ (cap2 : Int) := by omega
      have i2 : (j : Int) ≤ (L2.length : Int) := by omega
      have Hsrc : Hid (∀ {w' : World} {F' : List Nat}, ViewA 2 (.slice a2 L2.length cap2) L2.length (flatQ L2) w' F' → Src w' a2 j 2 (flatQ (L2.take j)) ∧ Src w' (sufA a2 cap2 j 2) (L2.length - j) 2 (flatQ (L2.drop j))) :=
        Lib.hid (fun h => ⟨by rw [← flatQ_take]; exact h.src hj, by rw [← flatQ_drop]; exact h.src_from hj⟩)
      have c3 : wc.cell? ⟨br, 0, none⟩ = some (.slice a2 L2.length cap2) := cell_of (HA.out.block 1 rfl) rfl
      have c4 : (wc.alloc (.cells #[.string b, .int .i64 t] 54)).cell? ⟨br, 0, none⟩ = some (.slice a2 L2.length cap2) := cell_of ((HA.out.cells _ _).block 2 rfl) rfl
      clear ho hr
      go_wp2_with fail
      go_region_law
        (first
          | (refine app_step rfl (R := RowA 54 2 (.slice none 0 0) 0 [] :: RQr br (.slice a2 L2.length cap2) L2) (by exact HA.out.drewN 1) 0 rfl (.const (.slice none 0 0)) (.tmp 83) 48 (by rfl) Try.underlying48 infoEntry (by decide) (by decide) (by rfl) (by rfl) (by obtain ⟨F', h'⟩ := (HA.out.drewN 1).get 2 rfl; exact (Hsrc.out h').1) (flatQ_one _) (by omega) ?_
             intro v1 w3 ho1 hg1
             have hc1 : w3.cell? ⟨br, 0, none⟩ = some (.slice a2 L2.length cap2) := cell_of (ho1.block 1 rfl) rfl
             have hd1 : (w3.alloc (.cells #[.string b, .int .i64 t] 54)).cell? ⟨br, 0, none⟩ = some (.slice a2 L2.length cap2) := cell_of ((ho1.cells _ _).block 2 rfl) rfl
             have H1 := Lib.hid ho1
             clear ho1 hg1)
          | (refine app_step rfl (R := Cells _ #[.string b, .int .i64 t] 54 :: RowA 54 2 (.slice none 0 0) 0 [] :: RQr br (.slice a2 L2.length cap2) L2) (by exact (HA.out.drewN 1).cells _ _) 1 rfl (.const (.slice none 0 0)) (.tmp 83) 48 (by rfl) Try.underlying48 infoEntry (by decide) (by decide) (by rfl) (by rfl) (by obtain ⟨F', h'⟩ := ((HA.out.drewN 1).cells #[.string b, .int .i64 t] 54).get 3 rfl; exact (Hsrc.out h').1) (flatQ_one _) (by omega) ?_
             intro v1 w3 ho1 hg1
             have hc1 : w3.cell? ⟨br, 0, none⟩ = some (.slice a2 L2.length cap2) := cell_of (ho1.block 2 rfl) rfl
             have H2 := Lib.hid ho1
             clear ho1 hg1)
          | (refine app_step rfl (by first | exact H2.out | exact H1.out.cells _ _) 1 rfl (.tmp 84) (.tmp 88) 48 (by rfl) Try.underlying48 infoEntry (by decide) (by decide) (by rfl) (by rfl) (by first | exact Src.of_block (H2.out.block 0 rfl) rfl | exact Src.of_block ((H1.out.cells #[.string b, .int .i64 t] 54).block 0 rfl) rfl) (fun u hu => by simp at hu; rcases hu with rfl | rfl <;> rfl) (by omega) ?_
             intro v2 w4 ho2 hg2
             have hc2 : w4.cell? ⟨br, 0, none⟩ = some (.slice a2 L2.length cap2) := cell_of (ho2.block 2 rfl) rfl
             have H3 := Lib.hid ho2
             clear ho2 hg2)
          | (refine app_step rfl (by exact H3.out) 1 rfl (.tmp 89) (.tmp 95) 48 (by rfl) Try.underlying48 infoEntry (by decide) (by decide) (by rfl) (by rfl) (by obtain ⟨F', h'⟩ := H3.out.get 3 rfl; exact (Hsrc.out h').2) (flatQ_one _) (by omega) ?_
             intro v3 w5 ho3 hg3
             have hc3 : w5.cell? ⟨br, 0, none⟩ = some (.slice a2 L2.length cap2) := cell_of (ho3.block 2 rfl) rfl
             have hf3 : w5.frozen? ⟨br, 0, none⟩ = false := free_of (ho3.block 2 rfl)
             obtain ⟨F3, hr3⟩ := ho3.get 1 rfl
             obtain ⟨a3, cap3, rfl, -, -, -⟩ := hr3.shape
             clear hr3
             have H4 := Lib.hid ho3
             clear ho3 hg3))
      all_goals
        have HG : Hid (GV (.int .i64 0) (RQA br (ins (b, t) L2)) w F (.returned (.int .i64 0)) (w5.setCell ⟨br, 0, none⟩ (.slice a3 (0 + j + 1 + (L2.length - j)) cap3))) := by
          have h2 := H4.out.put 2 rfl 0 (.slice a3 (0 + j + 1 + (L2.length - j)) cap3)
          obtain ⟨e1, e2⟩ := flatQ_app3 L2 (b, t) j hj
          rw [e1, e2, Hins.out] at h2
          rw [e2, Hins.out]
          have h3 := (h2.sel [2, 1] (by decide) rfl).imp (A' := ViewA 2 (.slice a3 (ins (b, t) L2).length cap3) (ins (b, t) L2).length (flatQ (ins (b, t) L2))) 1 rfl (ViewA.framed _ _ _ _) (fun F hF => hF.view)
          exact Lib.hid (GV.mk h3 (fun F' hs => ⟨_, hs⟩))
        rw [show 0 + j + 1 + (L2.length - j) = j + 1 + (L2.length - j) by omega] at HG
        go_wp2_with fail
        go_ret
        exact HG.out
end Go.Proofs.Ytijkfcapooldiaa
