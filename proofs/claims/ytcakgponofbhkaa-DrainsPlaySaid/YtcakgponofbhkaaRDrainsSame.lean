/- The document's rows of backends that drain, held against each other. -/
import Derived.Test.YtcakgponofbhkaaRDrainsDue
import Derived.Test.YtcakgponofbhkaaFlat
namespace Go.Proofs.Ytcakgponofbhkaa
open Go.RowKit
set_option linter.unusedVariables false
set_option maxRecDepth 100000

theorem drain_neq (a b : Int) (w : World) : (binOp .neq 28 (.agg #[.int .i64 a, .int .i64 b]) (.agg #[.int .i64 a, .int .i64 b])).run Try.prog w = .ok (.bool false) w := by
  have u3 := Try.underlying3
  have u2 := Try.underlying2
  have a3 := Try.isAgg3
  have z3 := Try.sizeOf3
  have a2 := Try.isAgg2
  have z2 := Try.sizeOf2
  have hS : Try.prog.underlying 28 = some (.struct (Try.prog.fieldsOf 28)) := by kernel_rfl
  have hp : Try.prog.stoodInHeld 28 = false := by kernel_rfl
  rw [run_neq_struct, show (10000 : Nat) = 9999 + 1 from rfl, run_equalIn_agg w 9999 28 _ _ hS hp]
  simp only [Program.fieldsOf, Try.underlying28]
  go_simp
def RSameRel (w : World) (n : Nat) (k : Value) (wr : World) : Prop := ∃ (j m : Nat), k = .int .i64 j ∧ j ≤ n ∧ wr = w.drewN m
set_option maxHeartbeats 4000000 in
theorem samedrains {w : World} {v v' : Value} {L : List BT} {F F' : List Nat} (h : RowA 28 2 v L.length (flat L) w F) (h' : RowA 28 2 v' L.length (flat L) w F') (hL : L.length ≤ 4096) :
    Calls Try.prog 27 #[v, v'] w fun e w' => e = .returned (.bool true) ∧ ∃ m, w' = w.drewN m := by
  obtain ⟨a, cap, rfl, -, -, hc⟩ := h.shape
  obtain ⟨a', cap', rfl, -, -, hc'⟩ := h'.shape
  have HC := Lib.hid hc
  have HC' := Lib.hid hc'
  have HS : Hid (RSameRel w L.length (.int .i64 0) w) := Lib.hid ⟨0, 0, rfl, Nat.zero_le _, rfl⟩
  have hne := drain_neq
  have hm : Try.prog.eqGuardType Try.prog.depth 28 = false := by kernel_rfl
  clear h h' hc hc'
  go_enter Try.func27, Try.ntmps27
  go_wp2_with fail
  go_loopw [13] (RSameRel w L.length) (fun k _ => L.length - (intOf k).toNat)
  case atStart => exact HS.out
  case round =>
    obtain ⟨j, m, rfl, hj, rfl⟩ := hrel
    clear HS
    by_cases hlt : j < L.length
    · obtain ⟨x, hx⟩ : ∃ x, L[j]? = some x := ⟨L[j], List.getElem?_eq_getElem hlt⟩
      obtain ⟨b, rfl, c0⟩ := HC.out (j * 2) _ (flat_at hx).1
      obtain ⟨b1, e1, c1⟩ := HC.out (j * 2 + 1) _ (flat_at hx).2
      obtain ⟨b', rfl, d0⟩ := HC'.out (j * 2) _ (flat_at hx).1
      obtain ⟨b2, e2, d1⟩ := HC'.out (j * 2 + 1) _ (flat_at hx).2
      cases e1; cases e2
      have i1 : (j : Int) < (L.length : Int) := by omega
      have HR : Hid (∀ q, RSameRel w L.length (.int .i64 (j + 1)) (w.drewN q)) := Lib.hid fun q => ⟨j + 1, q, by congr 1, by omega, rfl⟩
      clear hx hlt
      go_wp2_with fail
      go_quiet (fail)
      go_wp2_with fail
      go_roundw
      case rel => exact HR.out _
      case measure => simp [intOf]; omega
    · have hge : (L.length : Int) ≤ (j : Int) := by omega
      clear hlt
      go_wp2_with fail
      go_ret
      exact ⟨rfl, _, rfl⟩
end Go.Proofs.Ytcakgponofbhkaa
