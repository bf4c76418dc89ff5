/- Calls of the layer of flows that came in. -/
import Derived.Test.YtcakgponofbhkaaFlowPlain
namespace Go.Proofs.Ytcakgponofbhkaa
open Go.RowKit
set_option linter.unusedVariables false
set_option maxRecDepth 100000

theorem flatD11 {H : Type} {enc : TypeId × Value → H} : FlatT enc Try.prog 69 [.i64, .u32, .u32, .i64, .i64, .i64, .i64, .i64, .i64, .i64] := by
  refine flat_struct Try.underlying69 [(_, [.i64]), (_, [.u32, .u32, .i64, .i64, .i64, .i64, .i64, .i64]), (_, [.i64])] rfl ⟨rfl, by kernel_rfl, rfl, by kernel_rfl, rfl, by kernel_rfl, trivial⟩ ?_ (by kernel_rfl)
  intro p hp
  simp only [List.mem_cons, List.not_mem_nil, or_false] at hp
  rcases hp with rfl | rfl | rfl
  · exact flat_int (by kernel_rfl)
  · exact flatFl
  · exact flat_int (by kernel_rfl)
structure Cl where
  d : Int
  f : Fl
  now : Int
abbrev encC (c : Cl) : Array Value := #[.int .i64 c.d, .int .u32 c.f.t.src, .int .u32 c.f.t.dst, .int .i64 c.f.t.proto, .int .i64 c.f.t.sport, .int .i64 c.f.t.dport, .int .i64 c.f.bk, .int .i64 c.f.gen, .int .i64 c.f.seen, .int .i64 c.now]
structure WfC (c : Cl) : Prop where
  f : WfF c.f
  n0 : -9223372036854775808 ≤ c.now
  n1 : c.now < 9223372036854775808
def ClAt (w : World) (b o : Nat) (c : Cl) : Prop := w.cell? ⟨b, o, none⟩ = some (.int .i64 c.d) ∧ w.cell? ⟨b, o + 1, none⟩ = some (.int .u32 c.f.t.src) ∧ w.cell? ⟨b, o + 2, none⟩ = some (.int .u32 c.f.t.dst) ∧ w.cell? ⟨b, o + 3, none⟩ = some (.int .i64 c.f.t.proto) ∧ w.cell? ⟨b, o + 4, none⟩ = some (.int .i64 c.f.t.sport) ∧ w.cell? ⟨b, o + 5, none⟩ = some (.int .i64 c.f.t.dport) ∧ w.cell? ⟨b, o + 6, none⟩ = some (.int .i64 c.f.bk) ∧ w.cell? ⟨b, o + 7, none⟩ = some (.int .i64 c.f.gen) ∧ w.cell? ⟨b, o + 8, none⟩ = some (.int .i64 c.f.seen) ∧ w.cell? ⟨b, o + 9, none⟩ = some (.int .i64 c.now)
theorem ClAt.of {w : World} {b o : Nat} {c : Cl} (h : ∀ (j : Nat) (u : Value), (encC c)[j]? = some u → w.cell? ⟨b, o + j, none⟩ = some u) : ClAt w b o c :=
  ⟨h 0 _ rfl, h 1 _ rfl, h 2 _ rfl, h 3 _ rfl, h 4 _ rfl, h 5 _ rfl, h 6 _ rfl, h 7 _ rfl, h 8 _ rfl, h 9 _ rfl⟩
theorem ClAt.old {w0 w : World} {R : List Asrt} (h : Own w0 w R) {b o : Nat} {c : Cl} (hb : b < w0.heap.size) (hx : ClAt w0 b o c) : ClAt w b o c := by
  obtain ⟨a0, a1, a2, a3, a4, a5, a6, a7, a8, a9⟩ := hx
  exact ⟨(h.old hb _).trans a0, (h.old hb _).trans a1, (h.old hb _).trans a2, (h.old hb _).trans a3, (h.old hb _).trans a4, (h.old hb _).trans a5, (h.old hb _).trans a6, (h.old hb _).trans a7, (h.old hb _).trans a8, (h.old hb _).trans a9⟩
theorem o_cl {F0 : List Nat} {w0 w : World} {R : List Asrt} {fb : Nat} {c : Cl} (h : In F0 w0 w R) (i : Nat) (hA : R[i]? = some (Cells fb (encC c) 69)) : ClAt w fb 0 c :=
  ClAt.of (fun j u hu => by rw [Nat.zero_add]; exact cell_of (h.block i hA) hu)
theorem cl_of {ns : List Int} (hl : ns.length = 10) (hw : wfK [.i64, .u32, .u32, .i64, .i64, .i64, .i64, .i64, .i64, .i64] ns) : ∃ c : Cl, encK [.i64, .u32, .u32, .i64, .i64, .i64, .i64, .i64, .i64, .i64] ns = (encC c).toList ∧ WfC c := by
  match ns, hl, hw with
  | [d, a, b, c, e, f, g, h, i, n], _, hw =>
    have hw8 : wfK [.u32, .u32, .i64, .i64, .i64, .i64, .i64, .i64] [a, b, c, e, f, g, h, i] := fun j k m h1 h2 => by
      have hj : j < 8 := by have := (List.getElem?_eq_some_iff.1 h1).1; simpa using this
      refine hw (j + 1) k m ?_ ?_
      · show ([IntKind.u32, .u32, .i64, .i64, .i64, .i64, .i64, .i64] ++ [.i64])[j]? = some k
        rw [List.getElem?_append_left (by simpa using hj)]; exact h1
      · show ([a, b, c, e, f, g, h, i] ++ [n])[j]? = some m
        rw [List.getElem?_append_left (by simpa using hj)]; exact h2
    obtain ⟨x, e1, e2, wf⟩ := fl_of rfl hw8
    obtain ⟨n0, n1⟩ := lit_i64 (hw 9 _ _ rfl rfl)
    simp only [List.cons.injEq] at e1
    obtain ⟨rfl, rfl, rfl, rfl, rfl, rfl, rfl, rfl, -⟩ := e1
    exact ⟨⟨d, x, n⟩, rfl, wf, n0, n1⟩
/-- A slice of calls that came in. -/
structure ArgCl (w : World) (a : Option Addr) (len cap : Nat) (L : List Cl) : Prop where
  length : L.length = len
  room : len ≤ cap
  most : cap ≤ maxLen
  wf : ∀ x ∈ L, WfC x
  at' : len = 0 ∨ ∃ b o, a = some ⟨b, o, none⟩ ∧ b < w.heap.size ∧ ∀ (i : Nat) (x : Cl), L[i]? = some x → ClAt w b (o + i * 10) x
theorem ArgCl.of {w : World} {a : Option Addr} {len cap : Nat} {ps : List (List Int)} (h : ArgRows [.i64, .u32, .u32, .i64, .i64, .i64, .i64, .i64, .i64, .i64] w a len cap ps) : ∃ L, ArgCl w a len cap L := by
  have one : ∀ i, i < ps.length → ∃ f : Cl, encK [.i64, .u32, .u32, .i64, .i64, .i64, .i64, .i64, .i64, .i64] (ps.getD i []) = (encC f).toList ∧ WfC f := fun i hi => by
    obtain ⟨h1, h2⟩ := h.shape ps[i] (List.getElem_mem hi)
    obtain ⟨f, e, wf⟩ := cl_of h1 h2
    exact ⟨f, by simpa [List.getD, hi] using e, wf⟩
  obtain ⟨L, hl, hL⟩ := exists_list ps.length one
  refine ⟨L, by rw [hl, h.length], h.room, h.most, fun x hx => ?_, ?_⟩
  · obtain ⟨i, hi, rfl⟩ := List.mem_iff_getElem.1 hx
    exact (hL i hi).2
  · rcases h.at' with h0 | ⟨b, o, rfl, hb, hc⟩
    · exact Or.inl h0
    · refine Or.inr ⟨b, o, rfl, hb, fun i x hx => ?_⟩
      obtain ⟨hi, rfl⟩ := List.getElem?_eq_some_iff.1 hx
      have e := (hL i hi).1
      have hi' : i < ps.length := by omega
      have hp : ps[i]? = some ps[i] := List.getElem?_eq_getElem hi'
      have e' : encK [.i64, .u32, .u32, .i64, .i64, .i64, .i64, .i64, .i64, .i64] ps[i] = (encC L[i]).toList := by simpa [List.getD, hi'] using e
      exact ClAt.of fun c u hu => by
        rw [Nat.add_assoc]; exact hc i _ hp c u (by rw [e', Array.getElem?_toList]; exact hu)
theorem openCl {H : Type} {enc : TypeId × Value → H} {w : World} {base : Nat} {spare : Nat → Bool} {held : Bool} {a : Option Addr} {len cap : Nat} {d : DataW H} {p : List MemPlace}
    (h : DataW.Trod enc Try.prog w base spare held 66 (.slice a len cap) d p) : ∃ L, ArgCl w a len cap L := by
  obtain ⟨ps, hp⟩ := openArgRows Try.underlying66 flatD11 (by kernel_rfl) (by decide) h
  exact ArgCl.of hp
theorem ArgCl.read {w : World} {a : Option Addr} {len cap : Nat} {L : List Cl} (h : ArgCl w a len cap L) {i : Nat} (hi : i < len) : ∃ b o x, a = some ⟨b, o, none⟩ ∧ b < w.heap.size ∧ L[i]? = some x ∧ WfC x ∧ ClAt w b (o + i * 10) x := by
  have hl := h.length
  rcases h.at' with h0 | ⟨b, o, rfl, hb, hc⟩
  · omega
  · have hx : L[i]? = some L[i] := List.getElem?_eq_getElem (by omega)
    exact ⟨b, o, _, rfl, hb, hx, h.wf _ (List.getElem_mem _), hc i _ hx⟩
end Go.Proofs.Ytcakgponofbhkaa
