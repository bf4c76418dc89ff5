/- Frames in a row of the call's own whose bytes came in. -/
import Derived.Test.YtogclkhpbjfadaaGreatSame
import Derived.Test.YtogclkhpbjfadaaGreatArgDeep
namespace Go.Proofs.YtogclkhpbjfadaaGreat
open Go.RowKit
set_option linter.unusedVariables false
set_option maxRecDepth 100000

theorem frsA_shape {v : Value} {fs : List FrD} {w : World} {F : List Nat} (h : FrsA v fs w F) : ∃ a c, v = .slice a fs.length c := by
  obtain ⟨vs, hl, F1, F2, h1, _⟩ := h
  obtain ⟨a, c, e, -, -, -⟩ := h1.shape
  exact ⟨a, c, e⟩
theorem frArg_at {W w : World} {R : List Asrt} {a : Option Addr} {n n' c : Nat} {fs : List FrD} {vs : List Value} {F : List Nat} (ho : Own W w R) (h : RowA 40 3 (.slice a n c) n' (flatFr fs vs) w F) (hl : vs.length = fs.length) (hb : ∀ (j : Nat) (f : FrD) (v : Value), fs[j]? = some f → vs[j]? = some v → AB W v f.body) : FrAt w a fs := by
  intro k f hf
  obtain ⟨v, hv⟩ : ∃ v, vs[k]? = some v := ⟨vs[k]'(by have := (List.getElem?_eq_some_iff.1 hf).1; omega), List.getElem?_eq_getElem _⟩
  obtain ⟨A, cc, rfl, hs, _, _⟩ := (hb k f v hf hv).ex
  obtain ⟨e0, e1, e2⟩ := flatFr_at hl hf hv
  obtain ⟨g, rfl, c0⟩ := h.at.2 _ _ e0
  obtain ⟨g', hg', c1⟩ := h.at.2 _ _ e1
  cases hg'
  obtain ⟨g', hg', c2⟩ := h.at.2 _ _ e2
  cases hg'
  have hs' := hs.old ho
  exact ⟨g, 0, A, cc, rfl, by simpa using c0, by simpa using c1, by simpa using c2, hs', src_none hs'⟩
end Go.Proofs.YtogclkhpbjfadaaGreat
