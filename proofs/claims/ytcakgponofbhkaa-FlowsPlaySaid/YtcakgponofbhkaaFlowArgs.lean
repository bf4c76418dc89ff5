/- Flows that came in. -/
import Derived.Test.YtcakgponofbhkaaFlat
import Derived.Test.YtcakgponofbhkaaFlowOps
namespace Go.Proofs.Ytcakgponofbhkaa
open Go.RowKit Go.WideShapes
set_option linter.unusedVariables false
set_option maxRecDepth 100000

theorem flatTup {H : Type} {enc : TypeId × Value → H} : FlatT enc Try.prog 57 [.u32, .u32, .i64, .i64, .i64] := by
  refine flat_struct Try.underlying57 [(_, [.u32]), (_, [.u32]), (_, [.i64]), (_, [.i64]), (_, [.i64])] rfl ⟨rfl, by kernel_rfl, rfl, by kernel_rfl, rfl, by kernel_rfl, rfl, by kernel_rfl, rfl, by kernel_rfl, trivial⟩ ?_ (by kernel_rfl)
  intro p hp
  simp only [List.mem_cons, List.not_mem_nil, or_false] at hp
  rcases hp with rfl | rfl | rfl | rfl | rfl
  all_goals exact flat_int (by kernel_rfl)
theorem flatFl {H : Type} {enc : TypeId × Value → H} : FlatT enc Try.prog 59 [.u32, .u32, .i64, .i64, .i64, .i64, .i64, .i64] := by
  refine flat_struct Try.underlying59 [(_, [.u32, .u32, .i64, .i64, .i64]), (_, [.i64]), (_, [.i64]), (_, [.i64])] rfl ⟨rfl, by kernel_rfl, rfl, by kernel_rfl, rfl, by kernel_rfl, rfl, by kernel_rfl, trivial⟩ ?_ (by kernel_rfl)
  intro p hp
  simp only [List.mem_cons, List.not_mem_nil, or_false] at hp
  rcases hp with rfl | rfl | rfl | rfl
  · exact flatTup
  all_goals exact flat_int (by kernel_rfl)
/-- A flow's numbers fit their types. -/
structure WfF (f : Fl) : Prop where
  t : WfT f.t
  b0 : -9223372036854775808 ≤ f.bk
  b1 : f.bk < 9223372036854775808
  g0 : -9223372036854775808 ≤ f.gen
  g1 : f.gen < 9223372036854775808
  s0 : -9223372036854775808 ≤ f.seen
  s1 : f.seen < 9223372036854775808
theorem lit_i64 {n : Int} (h : (Lit.int .i64 n).wf = true) : -9223372036854775808 ≤ n ∧ n < 9223372036854775808 := by
  simp [Lit.wf, IntKind.min, IntKind.max, IntKind.signed, IntKind.bits] at h
  omega
theorem lit_u32 {n : Int} (h : (Lit.int .u32 n).wf = true) : 0 ≤ n ∧ n < 4294967296 := by
  simp [Lit.wf, IntKind.min, IntKind.max, IntKind.signed, IntKind.bits] at h
  omega
theorem fl_of {ns : List Int} (hl : ns.length = 8) (hw : wfK [.u32, .u32, .i64, .i64, .i64, .i64, .i64, .i64] ns) : ∃ f : Fl, ns = [f.t.src, f.t.dst, f.t.proto, f.t.sport, f.t.dport, f.bk, f.gen, f.seen] ∧ encK [.u32, .u32, .i64, .i64, .i64, .i64, .i64, .i64] ns = (encF f).toList ∧ WfF f := by
  match ns, hl, hw with
  | [a, b, c, d, e, f, g, h], _, hw =>
    obtain ⟨a0, a1⟩ := lit_u32 (hw 0 _ _ rfl rfl)
    obtain ⟨b0, b1⟩ := lit_u32 (hw 1 _ _ rfl rfl)
    obtain ⟨c0, c1⟩ := lit_i64 (hw 2 _ _ rfl rfl)
    obtain ⟨d0, d1⟩ := lit_i64 (hw 3 _ _ rfl rfl)
    obtain ⟨e0, e1⟩ := lit_i64 (hw 4 _ _ rfl rfl)
    obtain ⟨f0, f1⟩ := lit_i64 (hw 5 _ _ rfl rfl)
    obtain ⟨g0, g1⟩ := lit_i64 (hw 6 _ _ rfl rfl)
    obtain ⟨h0, h1⟩ := lit_i64 (hw 7 _ _ rfl rfl)
    exact ⟨⟨⟨a, b, c, d, e⟩, f, g, h⟩, rfl, rfl, ⟨⟨a0, a1, b0, b1, c0, by show c ≤ _; omega, d0, by show d ≤ _; omega, e0, by show e ≤ _; omega⟩, f0, f1, g0, g1, h0, h1⟩⟩
theorem openFlow {H : Type} {enc : TypeId × Value → H} {w : World} {base b0 : Nat} {r : Reach} {spare : Nat → Bool} {held : Bool} {v : Value} {d : DataW H} {p : List MemPlace}
    (hv : Value.okWide Try.prog w r b0 59 v) (h : DataW.Trod enc Try.prog w base spare held 59 v d p) : ∃ f : Fl, v = .agg (encF f) ∧ WfF f := by
  obtain ⟨cs, rfl, hsz⟩ := okWide_struct Try.underlying59 hv
  obtain ⟨n, h⟩ := h
  obtain ⟨ns, n1, n2, n3⟩ := flatFl _ _ _ _ _ _ _ h
  obtain ⟨f, _, e, wf⟩ := fl_of n1 n3
  refine ⟨f, ?_, wf⟩
  have e2 : cs.toList = (encF f).toList := by rw [← e]; exact n2
  rw [Array.toList_inj.1 e2]
theorem openFlows {H : Type} {enc : TypeId × Value → H} {w : World} {base : Nat} {spare : Nat → Bool} {held : Bool} {a : Option Addr} {len cap : Nat} {d : DataW H} {p : List MemPlace}
    (h : DataW.Trod enc Try.prog w base spare held 51 (.slice a len cap) d p) : ∃ ps, ArgRows [.u32, .u32, .i64, .i64, .i64, .i64, .i64, .i64] w a len cap ps :=
  openArgRows Try.underlying51 flatFl (by kernel_rfl) (by decide) h
end Go.Proofs.Ytcakgponofbhkaa
