/- Tuples as keys of maps. -/
import Derived.Test.YtcakgponofbhkaaTup
import Derived.Test.YtcakgponofbhkaaBase
import Derived.DeepKeys4
namespace Go.Proofs.Ytcakgponofbhkaa
open Go.RowKit
open Go.Maps (Keyed)
set_option linter.unusedVariables false
set_option maxRecDepth 100000

theorem laidOutT : laidOutB Try.prog = true := by kernel_rfl
theorem tupLaw : Keyed Try.prog 57 := Keyed.of_law (deep_law_laid laidOutT (m := 3) (by omega) (of_decide_eq_true (by kernel_rfl)) (by kernel_rfl) (by kernel_rfl))
theorem wf_u32 {n : Int} (h0 : 0 ≤ n) (h1 : n < 4294967296) : (Lit.int .u32 n).wf = true := by
  simp [Lit.wf, IntKind.min, IntKind.max, IntKind.signed, IntKind.bits]; omega
theorem wf_i64 {n : Int} (h0 : -9223372036854775808 ≤ n) (h1 : n ≤ 9223372036854775807) : (Lit.int .i64 n).wf = true := by
  simp [Lit.wf, IntKind.min, IntKind.max, IntKind.signed, IntKind.bits]; omega
theorem keyOf_five {P : Program} {T tu ti : TypeId} {f0 f1 f2 f3 f4 : Field} (hu : P.underlying T = some (.struct #[f0, f1, f2, f3, f4])) (u1 : P.underlying tu = some (.int .u32)) (u2 : P.underlying ti = some (.int .i64))
    (e0 : f0.type = tu ∧ f0.offset = 0) (e1 : f1.type = tu ∧ f1.offset = 1) (e2 : f2.type = ti ∧ f2.offset = 2) (e3 : f3.type = ti ∧ f3.offset = 3) (e4 : f4.type = ti ∧ f4.offset = 4)
    (hn : #[f0, f1, f2, f3, f4].all (·.name != "_") = true) (c1 : P.cellsOf tu = 1) (c2 : P.cellsOf ti = 1) (c3 : P.cellsOf T = 5) (k1 : P.keyType T = true) (hs : 0 < P.types.size)
    {a b c d e : Int} (w1 : (Lit.int .u32 a).wf = true) (w2 : (Lit.int .u32 b).wf = true) (w3 : (Lit.int .i64 c).wf = true) (w4 : (Lit.int .i64 d).wf = true) (w5 : (Lit.int .i64 e).wf = true) :
    ∃ l, keyOf P T (.agg #[.int .u32 a, .int .u32 b, .int .i64 c, .int .i64 d, .int .i64 e]) = some l := by
  obtain ⟨m, hm⟩ : ∃ m, P.types.size = m + 1 := ⟨P.types.size - 1, by omega⟩
  unfold keyOf
  rw [hu]
  simp only [k1, Value.formed, hu, c3, hm, Program.keyLits, Value.cells, List.size_toArray, List.length_cons, List.length_nil, Nat.zero_add, Nat.reduceAdd, beq_self_eq_true, Bool.and_self, if_true, and_self,
    List.mapM_cons, List.mapM_nil, e0, e1, e2, e3, e4, c1, c2, u1, u2, w1, w2, w3, w4, w5, List.drop, List.take]
  rw [if_pos ⟨trivial, hn⟩]
  exact ⟨_, rfl⟩
theorem keyOf_tup {t : Tup} (h : WfT t) : ∃ l, keyOf Try.prog 57 (.agg (encT t)) = some l :=
  keyOf_five Try.underlying57 Try.underlying55 Try.underlying3 ⟨rfl, rfl⟩ ⟨rfl, rfl⟩ ⟨rfl, rfl⟩ ⟨rfl, rfl⟩ ⟨rfl, rfl⟩ (by decide +kernel) (by kernel_rfl) (by kernel_rfl) (by kernel_rfl) (by kernel_rfl) (of_decide_eq_true (by kernel_rfl))
    (wf_u32 h.s0 h.s1) (wf_u32 h.d0 h.d1) (wf_i64 h.p0 h.p1) (wf_i64 h.sp0 h.sp1) (wf_i64 h.dp0 h.dp1)
end Go.Proofs.Ytcakgponofbhkaa
