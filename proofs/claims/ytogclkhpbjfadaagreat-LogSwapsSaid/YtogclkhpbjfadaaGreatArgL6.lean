/- Arguments of the log's laws: rows of frames, calls. -/
import Derived.Test.YtogclkhpbjfadaaGreatArgDeep
namespace Go.Proofs.YtogclkhpbjfadaaGreat
open Go.RowKit Go.ChangeShapes Go.WideShapes Go.Deep
set_option linter.unusedVariables false
set_option maxRecDepth 100000

theorem meas_lt {n j : Nat} (h : (j : Int) < (n : Int)) : n - (intOf (.int .i64 ((j : Int) + 1))).toNat < n - (intOf (.int .i64 (j : Int))).toNat := by
  simp only [intOf]; omega
/-- A frame that came in: any numbers. -/
structure FrI where
  kind : Int
  ver : Int
  body : List UInt8
def FrIAt (w : World) (g o : Nat) (f : FrI) : Prop := w.cell? ⟨g, o, none⟩ = some (.int .i64 f.kind) ∧ w.cell? ⟨g, o + 1, none⟩ = some (.int .i64 f.ver) ∧ ∃ v, w.cell? ⟨g, o + 2, none⟩ = some v ∧ AB w v f.body
/-- A slice of things of k cells each. -/
structure ArgStr {α : Type} (k : Nat) (Rd : World → Nat → Nat → α → Prop) (w : World) (v : Value) (L : List α) : Prop where
  ex : ∃ a c, v = .slice a L.length c ∧ L.length ≤ c ∧ c ≤ maxLen ∧ ∀ i x, L[i]? = some x → ∃ g o, a = some ⟨g, o, none⟩ ∧ Rd w g (o + i * k) x
abbrev ArgFrs := ArgStr 3 FrIAt
structure CallI where
  act : Int
  n : Int
  b : List UInt8
  rows : List FrI
def CallIAt (w : World) (g o : Nat) (c : CallI) : Prop := w.cell? ⟨g, o, none⟩ = some (.int .i64 c.act) ∧ w.cell? ⟨g, o + 1, none⟩ = some (.int .i64 c.n) ∧ (∃ v, w.cell? ⟨g, o + 2, none⟩ = some v ∧ AB w v c.b) ∧ ∃ v, w.cell? ⟨g, o + 3, none⟩ = some v ∧ ArgFrs w v c.rows
abbrev ArgCalls6 := ArgStr 4 CallIAt
section
variable {H : Type} {enc : TypeId × Value → H} {w : World} {base : Nat} {spare : Nat → Bool} {held : Bool}
theorem openStr {P : Program} {T E : TypeId} {fs : Array Field} {α : Type} {Rd : World → Nat → Nat → α → Prop} (ht : P.underlying T = some (.slice E)) (he : P.underlying E = some (.struct fs)) (hone : oneCellFields P fs = true) (hC : P.cellsOf E = fs.size) (hpos : 0 < fs.size)
    (one : ∀ b o n, (∀ j f, fs[j]? = some f → ∃ v y, w.cell? ⟨b, o + j, none⟩ = some v ∧ DataW.trod enc P w base spare held n f.type [v] = some y) → ∃ x, Rd w b o x) {fuel : Nat} {cs : List Value} {y : DataW H × List MemPlace}
    (h : DataW.trod enc P w base spare held fuel T cs = some y) : ∃ v L, cs = [v] ∧ ArgStr fs.size Rd w v L := by
  obtain ⟨a, len, cap, rfl⟩ := Go.Joins.slice_form ht h
  have hT : DataW.Trod enc P w base spare held T (.slice a len cap) y.1 y.2 := ⟨fuel, by simpa [Value.cells] using h⟩
  obtain ⟨h1, h2, h3⟩ := openRows ht he hone hC hpos hT
  rcases h3 with rfl | ⟨b, o, n, rfl, hb, hc⟩
  · exact ⟨_, [], rfl, a, cap, rfl, h1, h2, by simp⟩
  · obtain ⟨L, hL, hp⟩ := exists_list (p := fun i x => Rd w b (o + i * fs.size) x) len (fun i hi => one b (o + i * fs.size) n (fun j f hj => by
      have := hc i hi j f hj
      rw [← Nat.add_assoc] at this; exact this))
    refine ⟨_, L, rfl, some ⟨b, o, none⟩, cap, by rw [hL], by omega, h2, fun i x hx => ?_⟩
    obtain ⟨hi, rfl⟩ := List.getElem?_eq_some_iff.1 hx
    exact ⟨b, o, rfl, hp i hi⟩
theorem openFrames {fuel : Nat} {cs : List Value} {y : DataW H × List MemPlace} (h : DataW.trod enc Tryz.prog w base spare held fuel 33 cs = some y) : ∃ v L, cs = [v] ∧ ArgFrs w v L := by
  refine openStr (Rd := FrIAt) Tryz.underlying33 Tryz.underlying40 (by kernel_rfl) (by kernel_rfl) (by decide) (fun b o n hf => ?_) h
  obtain ⟨v0, y0, c0, t0⟩ := hf 0 _ rfl
  obtain ⟨v1, y1, c1, t1⟩ := hf 1 _ rfl
  obtain ⟨v2, y2, c2, t2⟩ := hf 2 _ rfl
  obtain ⟨n0, e0, -, -⟩ := DataW.trod_int (k := .i64) (by kernel_rfl) t0
  obtain ⟨n1, e1, -, -⟩ := DataW.trod_int (k := .i64) (by kernel_rfl) t1
  obtain ⟨v, bs, e2, hb⟩ := openAB Tryz.underlying23 Tryz.underlying5 (by kernel_rfl) t2
  cases e0; cases e1; cases e2
  exact ⟨⟨n0, n1, bs⟩, c0, c1, _, c2, hb⟩
theorem openCalls6 {fuel : Nat} {cs : List Value} {y : DataW H × List MemPlace} (h : DataW.trod enc Tryz.prog w base spare held fuel 42 cs = some y) : ∃ v L, cs = [v] ∧ ArgCalls6 w v L := by
  refine openStr (Rd := CallIAt) Tryz.underlying42 Tryz.underlying46 (by kernel_rfl) (by kernel_rfl) (by decide) (fun b o n hf => ?_) h
  obtain ⟨v0, y0, c0, t0⟩ := hf 0 _ rfl
  obtain ⟨v1, y1, c1, t1⟩ := hf 1 _ rfl
  obtain ⟨v2, y2, c2, t2⟩ := hf 2 _ rfl
  obtain ⟨v3, y3, c3, t3⟩ := hf 3 _ rfl
  obtain ⟨n0, e0, -, -⟩ := DataW.trod_int (k := .i64) (by kernel_rfl) t0
  obtain ⟨n1, e1, -, -⟩ := DataW.trod_int (k := .i64) (by kernel_rfl) t1
  obtain ⟨v, bs, e2, hb⟩ := openAB Tryz.underlying23 Tryz.underlying5 (by kernel_rfl) t2
  obtain ⟨vr, rs, e3, hr⟩ := openFrames t3
  cases e0; cases e1; cases e2; cases e3
  exact ⟨⟨n0, n1, bs, rs⟩, c0, c1, ⟨_, c2, hb⟩, _, c3, hr⟩
theorem openCalls6A {a : Option Addr} {len cap : Nat} {d : DataW H} {p : List MemPlace} (h : DataW.Trod enc Tryz.prog w base spare held 42 (.slice a len cap) d p) : ∃ L, ArgCalls6 w (.slice a len cap) L := by
  obtain ⟨fuel, hf⟩ := h
  obtain ⟨v, L, e, hL⟩ := openCalls6 hf
  simp [Value.cells] at e
  subst e
  exact ⟨L, hL⟩
theorem openFramesA {a : Option Addr} {len cap : Nat} {d : DataW H} {p : List MemPlace} (h : DataW.Trod enc Tryz.prog w base spare held 33 (.slice a len cap) d p) : ∃ L, ArgFrs w (.slice a len cap) L := by
  obtain ⟨fuel, hf⟩ := h
  obtain ⟨v, L, e, hL⟩ := openFrames hf
  simp [Value.cells] at e
  subst e
  exact ⟨L, hL⟩
theorem openIntsA {a : Option Addr} {len cap : Nat} {d : DataW H} {p : List MemPlace} (h : DataW.Trod enc Tryz.prog w base spare held 43 (.slice a len cap) d p) : ∃ zs, ArgInts .i64 w a len cap zs :=
  openInts Tryz.underlying43 Tryz.underlying3 (by kernel_rfl) h
end
section
variable {w0 w : World} {R : List Asrt}
theorem FrIAt.old (h : Own w0 w R) {g o : Nat} {f : FrI} (hf : FrIAt w0 g o f) : FrIAt w g o f := by
  obtain ⟨h0, h1, v, h2, h3⟩ := hf
  exact ⟨cell_old h h0, cell_old h h1, v, cell_old h h2, h3.old h⟩
theorem ArgFrs.old (h : Own w0 w R) {v : Value} {L : List FrI} (hf : ArgFrs w0 v L) : ArgFrs w v L := by
  obtain ⟨a, c, h1, h2, h3, h4⟩ := hf.ex
  exact ⟨a, c, h1, h2, h3, fun i x hx => by
    obtain ⟨g, o, e, hr⟩ := h4 i x hx
    exact ⟨g, o, e, FrIAt.old h hr⟩⟩
theorem CallIAt.old (h : Own w0 w R) {g o : Nat} {c : CallI} (hc : CallIAt w0 g o c) : CallIAt w g o c := by
  obtain ⟨h0, h1, ⟨v, h2, h3⟩, v', h4, h5⟩ := hc
  exact ⟨cell_old h h0, cell_old h h1, ⟨v, cell_old h h2, h3.old h⟩, v', cell_old h h4, ArgFrs.old h h5⟩
end
end Go.Proofs.YtogclkhpbjfadaaGreat
