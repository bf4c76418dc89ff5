/- Pairs of numbers that came in, as a row. -/
import Derived.Test.YtcakgponofbhkaaArgs
import Derived.Test.YtcakgponofbhkaaDrainsRep
namespace Go.Proofs.Ytcakgponofbhkaa
open Go.RowKit Go.ChangeShapes
set_option linter.unusedVariables false
set_option maxRecDepth 100000

structure ArgPairs (w : World) (a : Option Addr) (len cap : Nat) (ps : List BT) : Prop where
  length : ps.length = len
  room : len ≤ cap
  most : cap ≤ maxLen
  wf : ∀ c ∈ ps, (Lit.int .i64 c.1).wf = true ∧ (Lit.int .i64 c.2).wf = true
  at' : len = 0 ∨ ∃ b o, a = some ⟨b, o, none⟩ ∧ b < w.heap.size ∧ ∀ i (hi : i < ps.length), w.cell? ⟨b, o + (i * 2), none⟩ = some (.int .i64 ps[i].1) ∧ w.cell? ⟨b, o + (i * 2 + 1), none⟩ = some (.int .i64 ps[i].2)
theorem ArgPairs.read {w : World} {a : Option Addr} {len cap : Nat} {ps : List BT} (h : ArgPairs w a len cap ps) {i : Nat} (hi : i < len) :
    ∃ (b o : Nat) (n t : Int), a = some ⟨b, o, none⟩ ∧ b < w.heap.size ∧ ps[i]? = some (n, t) ∧ ((Lit.int .i64 n).wf = true ∧ (Lit.int .i64 t).wf = true) ∧ w.cell? ⟨b, o + i * 2, none⟩ = some (.int .i64 n) ∧ w.cell? ⟨b, o + i * 2 + 1, none⟩ = some (.int .i64 t) := by
  have hl := h.length
  rcases h.at' with h0 | ⟨b, o, rfl, hb, hc⟩
  · omega
  · obtain ⟨c0, c1⟩ := hc i (by omega)
    exact ⟨b, o, _, _, rfl, hb, List.getElem?_eq_getElem (by omega), h.wf _ (List.getElem_mem (by omega)), c0, c1⟩
theorem openDrains {H : Type} {enc : TypeId × Value → H} {w : World} {base : Nat} {spare : Nat → Bool} {held : Bool} {a : Option Addr} {len cap : Nat} {d : DataW H} {p : List MemPlace}
    (h : DataW.Trod enc Try.prog w base spare held 22 (.slice a len cap) d p) : ∃ ps, ArgPairs w a len cap ps := by
  obtain ⟨h1, h2, h3⟩ := openRows Try.underlying22 Try.underlying28 (by kernel_rfl) (by kernel_rfl) (by decide) h
  rcases h3 with h3 | ⟨b, o, n, rfl, hb, h3⟩
  · subst h3; exact ⟨[], rfl, h1, h2, by simp, Or.inl rfl⟩
  · have one : ∀ i, i < len → ∃ c : BT, ((Lit.int .i64 c.1).wf = true ∧ (Lit.int .i64 c.2).wf = true) ∧ w.cell? ⟨b, o + (i * 2), none⟩ = some (.int .i64 c.1) ∧ w.cell? ⟨b, o + (i * 2 + 1), none⟩ = some (.int .i64 c.2) := by
      intro i hi
      obtain ⟨v0, y0, c0, t0⟩ := h3 i hi 0 _ rfl
      obtain ⟨v1, y1, c1, t1⟩ := h3 i hi 1 _ rfl
      obtain ⟨n0, e0, _, w0⟩ := DataW.trod_int Try.underlying3 t0
      obtain ⟨n1, e1, _, w1⟩ := DataW.trod_int Try.underlying2 t1
      simp only [List.cons.injEq, and_true] at e0 e1
      subst e0; subst e1
      exact ⟨(n0, n1), ⟨w0, w1⟩, c0, c1⟩
    obtain ⟨cs, hl, hc⟩ := exists_list len one
    refine ⟨cs, hl, h1, h2, ?_, Or.inr ⟨b, o, rfl, hb, fun i hi => (hc i hi).2⟩⟩
    intro c hcm
    obtain ⟨i, hi, rfl⟩ := List.mem_iff_getElem.1 hcm
    exact (hc i hi).1
end Go.Proofs.Ytcakgponofbhkaa
