/- A table of flows that there isn't: all, and those of a backend. -/
import Derived.Test.YtcakgponofbhkaaFlowSame
namespace Go.Proofs.Ytcakgponofbhkaa
open Go.RowKit
set_option linter.unusedVariables false
set_option maxRecDepth 100000

theorem fall_nil (w : World) : Calls Try.prog 32 #[.pointer none] w fun e w' => e = .returned (.slice none 0 0) ∧ w = w' := by
  go_enter Try.func32, Try.ntmps32
  go_wp2_with fail
  go_ret
  exact ⟨rfl, rfl⟩
def ZeroRel (w : World) (k : Value) (wr : World) : Prop := k = .int .i64 0 ∧ wr = w
theorem index_nil (v : Value) (w : World) : Calls Try.prog 91 #[.slice none 0 0, v] w fun e w' => e = .returned (.int .i64 (-1)) ∧ w = w' := by
  have HS : Hid (ZeroRel w (.int .i64 0) w) := Lib.hid ⟨rfl, rfl⟩
  go_enter Try.func91, Try.ntmps91
  go_wp2_with fail
  go_loopw [8] (ZeroRel w) (fun _ _ => 0)
  case atStart => exact HS.out
  case round =>
    obtain ⟨rfl, rfl⟩ := hrel
    clear HS
    go_wp2_with fail
    go_ret
    exact ⟨rfl, rfl⟩
theorem delete_nil (v : Value) (w : World) : Calls Try.prog 70 #[.slice none 0 0, v] w fun e w' => (∃ c, e = .returned (.slice none 0 c)) ∧ w = w' := by
  go_enter Try.func70, Try.ntmps70
  go_wp2_with fail
  refine (index_nil _ _).mono ?_
  rintro e w1 ⟨rfl, rfl⟩
  go_wp2_with fail
  go_ret
  exact ⟨⟨_, rfl⟩, rfl⟩
theorem fof_nil (b : Int) (w : World) : Calls Try.prog 39 #[.pointer none, .int .i64 b] w fun e w' => (∃ c, e = .returned (.slice none 0 c)) ∧ Mod [] w w' := by
  have HM : Hid (∀ o : Obj, Mod [] w (w.alloc o)) := Lib.hid fun o => (Mod.refl _ _).alloc _
  go_enter Try.func39, Try.ntmps39
  go_wp2_with fail
  refine (fall_nil _).mono ?_
  rintro e w1 ⟨rfl, rfl⟩
  go_wp2_with fail
  refine (delete_nil _ _).mono ?_
  rintro e w1 ⟨⟨c, rfl⟩, rfl⟩
  go_wp2_with fail
  go_ret
  exact ⟨⟨_, rfl⟩, HM.out _⟩
end Go.Proofs.Ytcakgponofbhkaa
