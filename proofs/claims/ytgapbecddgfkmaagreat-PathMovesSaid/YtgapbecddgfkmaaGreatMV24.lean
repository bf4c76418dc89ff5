/- Rows.PathMovesSaid -/
import Derived.Test.YtgapbecddgfkmaaGreatMV8
namespace Go.Proofs.YtgapbecddgfkmaaGreat
open Go.RowKit Go.ChangeShapes Go.WideShapes Go.Deep
set_option linter.unusedVariables false
set_option maxHeartbeats 64000000
set_option maxRecDepth 100000
theorem tp_one {ns : List Int} (hl : ns.length = 5) (hw : wfK [.u32, .u32, .i64, .i64, .i64] ns) : ∃ t : Tup, encK [.u32, .u32, .i64, .i64, .i64] ns = (encT t).toList ∧ WfT t := by
  match ns, hl, hw with
  | [a, b, c, d, e], _, hw =>
    obtain ⟨a0, a1⟩ := litR_u32 (hw 0 _ _ rfl rfl)
    obtain ⟨b0, b1⟩ := litR_u32 (hw 1 _ _ rfl rfl)
    obtain ⟨c0, c1⟩ := litR_i64 (hw 2 _ _ rfl rfl)
    obtain ⟨d0, d1⟩ := litR_i64 (hw 3 _ _ rfl rfl)
    obtain ⟨e0, e1⟩ := litR_i64 (hw 4 _ _ rfl rfl)
    exact ⟨⟨a, b, c, d, e⟩, rfl, ⟨a0, a1, b0, b1, c0, by show c ≤ _; omega, d0, by show d ≤ _; omega, e0, by show e ≤ _; omega⟩⟩
theorem openTup {H : Type} {enc : TypeId × Value → H} {w : World} {base b0 : Nat} {r : Reach} {spare : Nat → Bool} {held : Bool} {v : Value} {d : DataW H} {p : List MemPlace}
    (hv : Value.okWide Tryz.prog w r b0 24 v) (h : DataW.Trod enc Tryz.prog w base spare held 24 v d p) : ∃ t : Tup, v = .agg (encT t) ∧ WfT t := by
  obtain ⟨cs, rfl, hsz⟩ := okWide_struct Tryz.underlying24 hv
  obtain ⟨n, h⟩ := h
  obtain ⟨ns, n1, n2, n3⟩ := flatTupR _ _ _ _ _ _ _ h
  obtain ⟨t, e, wf⟩ := tp_one n1 n3
  refine ⟨t, ?_, wf⟩
  have e2 : cs.toList = (encT t).toList := by rw [← e]; exact n2
  rw [Array.toList_inj.1 e2]
end Go.Proofs.YtgapbecddgfkmaaGreat
