/- Rows.PathPlaysSaid -/
import Derived.Test.YtgapbecddgfkmaaGreatPY31
namespace Go.Proofs.YtgapbecddgfkmaaGreat
open Go.RowKit
set_option linter.unusedVariables false
set_option maxHeartbeats 64000000
set_option maxRecDepth 100000
attribute [-go_sem] run_eql_struct
def atIx (L : List Fl) (t : Tup) : Int := match L.findIdx? (fun x => decide (x.t = t)) with
  | some i => i
  | none => -1
theorem atIx_cases (L : List Fl) (t : Tup) : (atIx L t = -1 ∧ ∀ x ∈ L, x.t ≠ t) ∨ (∃ (i : Nat) (x : Fl), atIx L t = i ∧ L[i]? = some x ∧ x.t = t ∧ ∀ y ∈ L.take i, y.t ≠ t) := by
  unfold atIx
  cases h : L.findIdx? (fun x => decide (x.t = t)) with
  | none =>
    left
    refine ⟨rfl, fun x hx => ?_⟩
    have := List.findIdx?_eq_none_iff.1 h x hx
    simpa using this
  | some i =>
    right
    obtain ⟨hi, h1, h2⟩ := List.findIdx?_eq_some_iff_getElem.1 h
    refine ⟨i, L[i], rfl, List.getElem?_eq_getElem hi, by simpa using h1, fun y hy => ?_⟩
    obtain ⟨j, hj, rfl⟩ := List.mem_iff_getElem.1 hy
    rw [List.length_take] at hj
    rw [List.getElem_take]
    have := h2 j (by omega)
    simpa using this
theorem atIx_hit {L : List Fl} {t : Tup} {j : Nat} {x : Fl} (hx : L[j]? = some x) (he : x.t = t) (hno : ∀ y ∈ L.take j, y.t ≠ t) : atIx L t = j := by
  rcases atIx_cases L t with ⟨_, h⟩ | ⟨i, y, e, hy, hyt, hn⟩
  · exact absurd he (h x (List.mem_of_getElem? hx))
  · rw [e]
    congr 1
    rcases Nat.lt_trichotomy i j with h | h | h
    · have : y ∈ L.take j := List.mem_of_getElem? (i := i) (by rw [List.getElem?_take, if_pos h]; exact hy)
      exact absurd hyt (hno y this)
    · exact h
    · have : x ∈ L.take i := List.mem_of_getElem? (i := j) (by rw [List.getElem?_take, if_pos h]; exact hx)
      exact absurd he (hn x this)
theorem atIx_none {L : List Fl} {t : Tup} (h : ∀ x ∈ L, x.t ≠ t) : atIx L t = -1 := by
  rcases atIx_cases L t with ⟨e, _⟩ | ⟨i, y, e, hy, hyt, hn⟩
  · exact e
  · exact absurd hyt (h y (List.mem_of_getElem? hy))
theorem atF_ix {L : List Fl} {t : Tup} : (atIx L t = -1 ∧ atF L t = none) ∨ (∃ (i : Nat) (x : Fl), atIx L t = i ∧ L[i]? = some x ∧ x.t = t ∧ atF L t = some x ∧ ∀ y ∈ L.take i, y.t ≠ t) := by
  rcases atIx_cases L t with ⟨e, h⟩ | ⟨i, y, e, hy, hyt, hn⟩
  · exact Or.inl ⟨e, atF_none.2 h⟩
  · refine Or.inr ⟨i, y, e, hy, hyt, ?_, hn⟩
    have hL : L = L.take i ++ y :: L.drop (i + 1) := by
      obtain ⟨hj, rfl⟩ := List.getElem?_eq_some_iff.1 hy
      rw [← List.drop_eq_getElem_cons hj, List.take_append_drop]
    have : atF (L.take i ++ y :: L.drop (i + 1)) t = some y := by
      unfold atF
      rw [List.find?_append]
      have h0 : (L.take i).find? (fun x => decide (x.t = t)) = none := by
        rw [List.find?_eq_none]; intro z hz; simpa using hn z hz
      rw [h0, List.find?_cons]
      simp [hyt]
    rw [← hL] at this; exact this
def RAtRel (bt : Nat) (most wait : Int) (v : Value) (L : List Fl) (tb : Nat) (t : Tup) (F0 : List Nat) (w0 : World) (k : Value) (wr : World) : Prop :=
  ∃ j : Nat, k = .int .i64 j ∧ j ≤ L.length ∧ (∀ y ∈ L.take j, y.t ≠ t) ∧ In F0 w0 wr (Cells tb (encT t) 24 :: RFr bt most wait v L)
theorem rf_at {w : World} {bt : Nat} {most wait : Int} {L : List Fl} {F : List Nat} (h : RFA bt most wait L w F) (hl : L.length ≤ 1000000) (t : Tup) :
    Calls Tryz.prog 88 #[.pointer (some ⟨bt, 0, none⟩), .agg (encT t)] w (GV (.int .i64 (atIx L t)) (RFA bt most wait L) w F) := by
  obtain ⟨v, h⟩ := h
  have HB := Lib.hid ((In.start RFr.framed h).cells (encT t) 24)
  obtain ⟨a, cap, rfl⟩ := RFr.val (In.start RFr.framed h)
  have c0 : (w.alloc (.cells (encT t) 24)).cell? ⟨bt, 0, none⟩ = some (.slice a L.length cap) := cell_of (HB.out.block 1 rfl) rfl
  have HS : Hid (RAtRel bt most wait (.slice a L.length cap) L w.heap.size t F w (.int .i64 0) (w.alloc (.cells (encT t) 24))) := Lib.hid ⟨0, rfl, Nat.zero_le _, by simp, HB.out⟩
  have hm : Tryz.prog.eqGuardType Tryz.prog.depth 24 = false := by kernel_rfl
  clear h HB
  go_enter Tryz.func88, Tryz.ntmps88
  go_wp2_with fail
  clear c0
  generalize w.heap.size = tb at *
  go_loopw [5, 6, 12] (fun _ _ k wr => RAtRel bt most wait (.slice a L.length cap) L tb t F w k wr) (fun _ _ k _ => L.length - (intOf k).toNat)
  case atStart => exact HS.out
  case round =>
    obtain ⟨j, rfl, hj, hno, ho⟩ := hrel
    clear HS
    by_cases hlt : j < L.length
    · obtain ⟨x, hx⟩ : ∃ x, L[j]? = some x := ⟨L[j], List.getElem?_eq_getElem hlt⟩
      obtain ⟨g, rfl, hc⟩ := flow_at_row ho 2 rfl (by omega)
      obtain ⟨x0, x1, x2, x3, x4, x5, x6, x7⟩ := hc j x hx
      have hB := (ho.alloc (.cells (encF x) 49)).block 0 rfl
      have t0 := cell_of (o := 0) hB rfl
      have t1 := cell_of (o := 1) hB rfl
      have t2 := cell_of (o := 2) hB rfl
      have t3 := cell_of (o := 3) hB rfl
      have t4 := cell_of (o := 4) hB rfl
      have i1 : (j : Int) < (L.length : Int) := by omega
      have HTE := Lib.hid (tup_eq x.t t)
      by_cases he : x.t = t
      · have hq : ∀ w, (binOp .eql 24 (.agg (encT x.t)) (.agg (encT t))).run Tryz.prog w = .ok (.bool true) w := fun w => by rw [HTE.out]; simp [he]
        have HG : Hid (GV (.int .i64 (atIx L t)) (RFA bt most wait L) w F (.returned (.int .i64 j)) (wr.alloc (.cells (encF x) 49))) := Lib.hid (by
          rw [atIx_hit hx he hno]
          exact GV.mk (ho.drop.alloc _) (fun F' hs => ⟨_, hs⟩))
        clear ho hc hx hB hno he HTE hlt
        go_wp2_with fail
        go_ret
        exact HG.out
      · have hq : ∀ w, (binOp .eql 24 (.agg (encT x.t)) (.agg (encT t))).run Tryz.prog w = .ok (.bool false) w := fun w => by rw [HTE.out]; simp [he]
        have HR : Hid (RAtRel bt most wait (.slice (some ⟨g, 0, none⟩) L.length cap) L tb t F w (.int .i64 (j + 1)) (wr.alloc (.cells (encF x) 49))) := Lib.hid ⟨j + 1, by congr 1, by omega, fun y hy => by
          rw [List.take_add_one, hx] at hy
          rcases List.mem_append.1 hy with hy | hy
          · exact hno y hy
          · simp at hy; subst hy; exact he, ho.alloc _⟩
        clear ho hc hx hB hno he HTE hlt
        go_wp2_with fail
        go_roundw
        case rel => exact HR.out
        case measure => simp [intOf]; omega
    · have hge : (L.length : Int) ≤ (j : Int) := by omega
      have HG : Hid (GV (.int .i64 (atIx L t)) (RFA bt most wait L) w F (.returned (.int .i64 (-1))) wr) := Lib.hid (by
        rw [List.take_of_length_le (by omega)] at hno
        rw [atIx_none hno]
        exact GV.mk ho.drop (fun F' hs => ⟨_, hs⟩))
      clear ho hno hlt
      go_wp2_with fail
      go_ret
      exact HG.out
section
variable {F0 : List Nat} {w0 w : World} {R : List Asrt} {bt : Nat} {most wait : Int} {L : List Fl}
theorem o_rfat (h : In F0 w0 w R) (i : Nat) (hA : R[i]? = some (RFA bt most wait L)) (hl : L.length ≤ 1000000) (t : Tup) :
    Calls Tryz.prog 88 #[.pointer (some ⟨bt, 0, none⟩), .agg (encT t)] w fun e w' => e = .returned (.int .i64 (atIx L t)) ∧ In F0 w0 w' R := by
  have c := own_val (A' := RFA bt most wait L) (r := .int .i64 (atIx L t)) h i hA (RFA.framed _ _ _ _) fun F hF => rf_at hF hl t
  rwa [set_same hA] at c
end
end Go.Proofs.YtgapbecddgfkmaaGreat
