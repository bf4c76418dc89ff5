/- Calls of the layer of drains that came in. -/
import Derived.Test.YtcakgponofbhkaaFlat
import Derived.Test.YtcakgponofbhkaaDrainsRep
namespace Go.Proofs.Ytcakgponofbhkaa
open Go.RowKit
set_option linter.unusedVariables false
set_option maxRecDepth 100000
theorem flatD12 {H : Type} {enc : TypeId × Value → H} : FlatT enc Try.prog 45 [.i64, .i64, .i64] := by
  refine flat_struct Try.underlying45 [(_, [.i64]), (_, [.i64]), (_, [.i64])] rfl ⟨rfl, by kernel_rfl, rfl, by kernel_rfl, rfl, by kernel_rfl, trivial⟩ ?_ (by kernel_rfl)
  intro p hp
  simp only [List.mem_cons, List.not_mem_nil, or_false] at hp
  rcases hp with rfl | rfl | rfl
  · exact flat_int (by kernel_rfl)
  · exact flat_int (by kernel_rfl)
  · exact flat_int (by kernel_rfl)
theorem openD12 {H : Type} {enc : TypeId × Value → H} {w : World} {base : Nat} {spare : Nat → Bool} {held : Bool} {a : Option Addr} {len cap : Nat} {d : DataW H} {p : List MemPlace}
    (h : DataW.Trod enc Try.prog w base spare held 40 (.slice a len cap) d p) : ∃ ps, ArgRows [.i64, .i64, .i64] w a len cap ps :=
  openArgRows Try.underlying40 flatD12 (by kernel_rfl) (by decide) h
end Go.Proofs.Ytcakgponofbhkaa
