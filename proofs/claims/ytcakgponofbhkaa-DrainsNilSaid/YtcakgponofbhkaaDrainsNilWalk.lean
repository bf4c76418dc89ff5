/- A set that there isn't. -/
import Derived.Test.YtcakgponofbhkaaDrainsAwake
namespace Go.Proofs.Ytcakgponofbhkaa
open Go.RowKit
set_option linter.unusedVariables false
set_option maxRecDepth 100000

set_option maxHeartbeats 2000000 in
theorem walk_DrainsNil (w : World) (b : Int) (hb : (Lit.int .i64 b).wf = true) (t : Int) (ht : (Lit.int .i64 t).wf = true) : Calls Try.prog 5 #[.int .i64 b, .int .i64 t] w (TruePost w) := by
  clear hb ht
  go_enter Try.func5, Try.ntmps5
  go_wp2_with fail
  refine (duntil_nil _ _).mono ?_
  rintro e w1 ⟨rfl, rfl⟩
  go_wp2_with fail
  refine (dput_nil _ _ _).mono ?_
  rintro e w1 ⟨rfl, rfl⟩
  go_wp2_with fail
  refine (dclear_nil _ _).mono ?_
  rintro e w1 ⟨rfl, m, rfl⟩
  go_wp2_with fail
  refine (dis_nil _ _).mono ?_
  rintro e w1 ⟨rfl, rfl⟩
  go_wp2_with fail
  refine (ddue_nil _ _).mono ?_
  rintro e w1 ⟨rfl, rfl⟩
  go_wp2_with fail
  refine (dall_nil _).mono ?_
  rintro e w1 ⟨rfl, rfl⟩
  go_wp2_with fail
  refine (dlen_nil _).mono ?_
  rintro e w1 ⟨rfl, rfl⟩
  go_wp2_with fail
  refine (d12awake _).mono ?_
  rintro e w2 ⟨rfl, hm⟩
  have HM := Lib.hid hm
  clear hm
  go_wp2_with fail
  go_ret
  exact ⟨rfl, ((Mod.refl [] w).drewN m).trans' HM.out⟩
end Go.Proofs.Ytcakgponofbhkaa
