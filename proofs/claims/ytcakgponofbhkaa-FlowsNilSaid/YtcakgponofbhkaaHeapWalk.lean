/- The methods of the heap's own type: which of two is due first; two exchanged; how many there are. -/
import Derived.Test.YtcakgponofbhkaaRows
import Derived.Test.YtcakgponofbhkaaHeapRep
import Derived.ProofKit
import Derived.Deep.QuietTactic
import Derived.BigQuiet
import Derived.BigRegion
import Derived.WalkLawsBesides
import Derived.WalkSpells
import Derived.Outline
namespace Go.Proofs.Ytcakgponofbhkaa
open Go.RowKit
set_option linter.unusedVariables false
set_option maxRecDepth 100000

theorem toList_data (s : ByteArray) : s.toList = s.data.toList := ByteArray.toList_eq s

section
variable {w : World} {bl n cap i j bi bj : Nat} {ki kj : ByteArray} {ti tj : Int}
set_option maxHeartbeats 400000 in
theorem less_lt (hi : i < n) (hj : j < n) (hn : n ≤ 4096)
    (ci : w.cell? ⟨bl, i, none⟩ = some (.pointer (some ⟨bi, 0, none⟩))) (cj : w.cell? ⟨bl, j, none⟩ = some (.pointer (some ⟨bj, 0, none⟩)))
    (ki1 : w.cell? ⟨bi, 1, none⟩ = some (.int .i64 ti)) (kj1 : w.cell? ⟨bj, 1, none⟩ = some (.int .i64 tj)) (h : ti < tj) :
    Calls Try.prog 153 #[.slice (some ⟨bl,0,none⟩) n cap, .int .i64 i, .int .i64 j] w fun e w' => e = .returned (.bool true) ∧ ∃ m, w' = w.drewN m := by
  go_enter Try.func153, Try.ntmps153
  go_wp2_with fail
  go_quiet (fail)
  go_wp2_with fail
  go_ret
  exact ⟨rfl, _, rfl⟩

set_option maxHeartbeats 400000 in
theorem less_gt (hi : i < n) (hj : j < n) (hn : n ≤ 4096)
    (ci : w.cell? ⟨bl, i, none⟩ = some (.pointer (some ⟨bi, 0, none⟩))) (cj : w.cell? ⟨bl, j, none⟩ = some (.pointer (some ⟨bj, 0, none⟩)))
    (ki1 : w.cell? ⟨bi, 1, none⟩ = some (.int .i64 ti)) (kj1 : w.cell? ⟨bj, 1, none⟩ = some (.int .i64 tj)) (h : tj < ti) :
    Calls Try.prog 153 #[.slice (some ⟨bl,0,none⟩) n cap, .int .i64 i, .int .i64 j] w fun e w' => e = .returned (.bool false) ∧ ∃ m, w' = w.drewN m := by
  have h1 : decide (ti < tj) = false := by simp; omega
  have h2 : (ti == tj) = false := by simp; omega
  go_enter Try.func153, Try.ntmps153
  go_wp2_with fail
  go_quiet (fail)
  go_wp2_with fail
  go_ret
  exact ⟨rfl, _, rfl⟩

set_option maxHeartbeats 400000 in
theorem less_eq (hi : i < n) (hj : j < n) (hn : n ≤ 4096)
    (ci : w.cell? ⟨bl, i, none⟩ = some (.pointer (some ⟨bi, 0, none⟩))) (cj : w.cell? ⟨bl, j, none⟩ = some (.pointer (some ⟨bj, 0, none⟩)))
    (ki1 : w.cell? ⟨bi, 1, none⟩ = some (.int .i64 ti)) (kj1 : w.cell? ⟨bj, 1, none⟩ = some (.int .i64 ti))
    (ki0 : w.cell? ⟨bi, 0, none⟩ = some (.string ki)) (kj0 : w.cell? ⟨bj, 0, none⟩ = some (.string kj)) :
    Calls Try.prog 153 #[.slice (some ⟨bl,0,none⟩) n cap, .int .i64 i, .int .i64 j] w fun e w' => e = .returned (.bool (Op.bytesLess ki.toList kj.toList)) ∧ ∃ m, w' = w.drewN m := by
  go_enter Try.func153, Try.ntmps153
  go_wp2_with fail
  go_quiet (fail)
  go_wp2_with fail
  go_ret
  exact ⟨rfl, _, rfl⟩

set_option maxHeartbeats 1000000 in
theorem swap_raw (hi : i < n) (hj : j < n) (hij : i ≠ j) (hn : n ≤ 4096)
    (ci : w.cell? ⟨bl, i, none⟩ = some (.pointer (some ⟨bi, 0, none⟩))) (cj : w.cell? ⟨bl, j, none⟩ = some (.pointer (some ⟨bj, 0, none⟩)))
    (fi : w.frozen? ⟨bl, i, none⟩ = false) (fj : w.frozen? ⟨bl, j, none⟩ = false)
    (xi : w.cell? ⟨bi, 2, none⟩ = some (.int .i64 ti)) (xj : w.cell? ⟨bj, 2, none⟩ = some (.int .i64 tj))
    (gi : w.frozen? ⟨bi, 2, none⟩ = false) (gj : w.frozen? ⟨bj, 2, none⟩ = false) (nij : bi ≠ bj) (ni : bl ≠ bi) (nj : bl ≠ bj) :
    Calls Try.prog 154 #[.slice (some ⟨bl,0,none⟩) n cap, .int .i64 i, .int .i64 j] w fun e w' => e = .returned (.tuple #[]) ∧
      ∃ m, w' = ((((w.setCell ⟨bl, i, none⟩ (.pointer (some ⟨bj, 0, none⟩))).setCell ⟨bl, j, none⟩ (.pointer (some ⟨bi, 0, none⟩))).setCell ⟨bj, 2, none⟩ (.int .i64 i)).setCell ⟨bi, 2, none⟩ (.int .i64 j)).drewN m := by
  have a1 : (⟨bl, i, none⟩ : Addr) ≠ ⟨bl, j, none⟩ := fun e => hij (Addr.mk.inj e).2.1
  have a2 : (⟨bl, j, none⟩ : Addr) ≠ ⟨bl, i, none⟩ := fun e => hij (Addr.mk.inj e).2.1.symm
  have a3 : (⟨bi, 2, none⟩ : Addr) ≠ ⟨bj, 2, none⟩ := fun e => nij (Addr.mk.inj e).1
  have a4 : (⟨bj, 2, none⟩ : Addr) ≠ ⟨bi, 2, none⟩ := fun e => nij (Addr.mk.inj e).1.symm
  have a5 : (⟨bl, i, none⟩ : Addr) ≠ ⟨bi, 2, none⟩ := fun e => ni (Addr.mk.inj e).1
  have a6 : (⟨bl, i, none⟩ : Addr) ≠ ⟨bj, 2, none⟩ := fun e => nj (Addr.mk.inj e).1
  have a7 : (⟨bl, j, none⟩ : Addr) ≠ ⟨bi, 2, none⟩ := fun e => ni (Addr.mk.inj e).1
  have a8 : (⟨bl, j, none⟩ : Addr) ≠ ⟨bj, 2, none⟩ := fun e => nj (Addr.mk.inj e).1
  go_enter Try.func154, Try.ntmps154
  go_wp2_with fail
  go_region
  go_wp2_with fail
  go_region
  go_wp2_with fail
  go_end0
  exact ⟨rfl, 2, rfl⟩
end

end Go.Proofs.Ytcakgponofbhkaa
