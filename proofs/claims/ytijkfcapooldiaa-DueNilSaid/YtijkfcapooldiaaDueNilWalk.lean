/- A queue that there isn't. -/
import Derived.Test.YtijkfcapooldiaaDueLaws
namespace Go.Proofs.Ytijkfcapooldiaa
open Go.RowKit
set_option linter.unusedVariables false

set_option maxRecDepth 100000 in
set_option maxHeartbeats 1000000 in
theorem walk_DueNil (w : World) (k : ByteArray) (hk : k.size ≤ maxLen) (t : Int) (ht : (Lit.int .i64 t).wf = true) : Calls Try.prog 8 #[.string k, .int .i64 t] w (TruePost w) := by
  clear hk ht
  go_enter Try.func8, Try.ntmps8
  go_wp2_with fail
  refine (qat_nil _ _).mono ?_
  rintro e w1 ⟨rfl, m1, rfl⟩
  go_wp2_with fail
  refine (qnext_nil _).mono ?_
  rintro e w2 ⟨rfl, m2, rfl⟩
  go_wp2_with fail
  refine (qset_nil _ _ _).mono ?_
  rintro e w2 ⟨rfl, rfl⟩
  go_wp2_with fail
  refine (qdrop_nil _ _).mono ?_
  rintro e w2 ⟨rfl, rfl⟩
  go_wp2_with fail
  refine (qdue_nil _ _).mono ?_
  rintro e w2 ⟨rfl, rfl⟩
  go_wp2_with fail
  refine (qlen_nil _).mono ?_
  rintro e w2 ⟨rfl, rfl⟩
  go_wp2_with fail
  refine (awake_any _).mono ?_
  rintro e w2 ⟨rfl, hm⟩
  have HM := Lib.hid hm
  clear hm
  go_wp2_with fail
  go_ret
  exact ⟨rfl, ((Mod.refl [] w).drewN (m1 + m2)).trans' HM.out⟩
end Go.Proofs.Ytijkfcapooldiaa
