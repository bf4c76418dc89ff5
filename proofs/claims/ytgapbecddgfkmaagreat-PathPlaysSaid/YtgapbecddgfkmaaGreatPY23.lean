/- Rows.PathPlaysSaid -/
import Derived.Test.YtgapbecddgfkmaaGreatPY7
import Derived.Laws.StructEq
import Derived.Test.YtgapbecddgfkmaaGreatPY16
namespace Go.Proofs.YtgapbecddgfkmaaGreat
open Go.RowKit
set_option linter.unusedVariables false
set_option maxHeartbeats 64000000
set_option maxRecDepth 100000
theorem fl_ext {s t : Fl} : s = t ↔ s.t = t.t ∧ s.bk = t.bk ∧ s.gen = t.gen ∧ s.seen = t.seen := by
  obtain ⟨a1, a2, a3, a4⟩ := s
  obtain ⟨b1, b2, b3, b4⟩ := t
  simp
theorem fl_eq (s t : Fl) (w : World) : (binOp .eql 49 (.agg (encF s)) (.agg (encF t))).run Tryz.prog w = .ok (.bool (decide (s = t))) w := by
  rw [run_eql_struct, run_equalIn_agg]
  · go_simp
    rw [show decide (s = t) = decide ((s.t.src = t.t.src ∧ s.t.dst = t.t.dst ∧ s.t.proto = t.t.proto ∧ s.t.sport = t.t.sport ∧ s.t.dport = t.t.dport) ∧ s.bk = t.bk ∧ s.gen = t.gen ∧ s.seen = t.seen) from decide_eq_decide.2 (by rw [fl_ext, tup_ext])]
    repeat' split
    all_goals simp_all
  · kernel_rfl
  · kernel_rfl
attribute [-go_sem] run_eql_struct
end Go.Proofs.YtgapbecddgfkmaaGreat
