/- Arguments that are slices: what their cells hold. -/
import Derived.Test.YtogclkhpbjfadaaGreatBase
import Derived.ProofKit
import Derived.SliceStrings
import Derived.Deep.Slices
import Derived.Deep.Fields
namespace Go.Proofs.YtogclkhpbjfadaaGreat
open Go.RowKit Go.ChangeShapes Go.WideShapes Go.Deep
set_option linter.unusedVariables false
set_option maxRecDepth 100000

theorem exists_list {α : Type} {p : Nat → α → Prop} : ∀ (n : Nat), (∀ i, i < n → ∃ x, p i x) → ∃ l : List α, l.length = n ∧ ∀ i (hi : i < l.length), p i l[i]
  | 0, _ => ⟨[], rfl, fun i hi => by simp at hi⟩
  | n + 1, h => by
    obtain ⟨l, hl, hp⟩ := exists_list n (fun i hi => h i (by omega))
    obtain ⟨x, hx⟩ := h n (by omega)
    refine ⟨l ++ [x], by simp [hl], fun i hi => ?_⟩
    by_cases hin : i < l.length
    · rw [List.getElem_append_left hin]; exact hp i hin
    · have : i = l.length := by simp at hi; omega
      subst this
      simpa [hl] using hx

/-- A slice of texts that came in. -/
structure ArgStrs (w : World) (a : Option Addr) (len cap : Nat) (ss : List ByteArray) : Prop where
  length : ss.length = len
  room : len ≤ cap
  most : cap ≤ maxLen
  small : ∀ s ∈ ss, s.size ≤ maxLen
  at' : len = 0 ∨ ∃ b o, a = some ⟨b, o, none⟩ ∧ b < w.heap.size ∧ ∀ i (hi : i < ss.length), w.cell? ⟨b, o + i, none⟩ = some (.string ss[i])
/-- A slice of integers that came in. -/
structure ArgInts (k : IntKind) (w : World) (a : Option Addr) (len cap : Nat) (zs : List Int) : Prop where
  length : zs.length = len
  room : len ≤ cap
  most : cap ≤ maxLen
  small : ∀ n ∈ zs, (Lit.int k n).wf = true
  at' : len = 0 ∨ ∃ b o, a = some ⟨b, o, none⟩ ∧ b < w.heap.size ∧ ∀ i (hi : i < zs.length), w.cell? ⟨b, o + i, none⟩ = some (.int k zs[i])

section
variable {H : Type} {enc : TypeId × Value → H} {P : Program} {w : World} {base : Nat} {spare : Nat → Bool} {held : Bool}

theorem addr_none {a : Addr} {v : Value} (h : w.cell? (a.add 0) = some v) : a = ⟨a.block, a.off, none⟩ := by
  have : a.add 0 = a := by simp [Addr.add]
  rw [this] at h
  have := World.cell?_spot h
  cases a; simp at this; simp [this]
theorem add_plain (b o i : Nat) : (⟨b, o, none⟩ : Addr).add i = ⟨b, o + i, none⟩ := by
  unfold Addr.add; split
  · simp
  · rfl

theorem openStrings {T E : TypeId} (ht : P.underlying T = some (.slice E)) (he : P.underlying E = some .string) (hc : P.cellsOf E = 1) {a : Option Addr} {len cap : Nat} {d : DataW H} {p : List MemPlace}
    (h : DataW.Trod enc P w base spare held T (.slice a len cap) d p) : ∃ ss, ArgStrs w a len cap ss := by
  obtain ⟨fuel, hf⟩ := h
  rcases open_strings ht he hc hf with ⟨hcs, _⟩ | ⟨x, l, c, ss, hcs, _, hl, hm, hz, _, hcell, hws⟩
  · simp [Value.cells] at hcs
    obtain ⟨rfl, rfl, rfl⟩ := hcs
    exact ⟨[], rfl, Nat.le_refl _, Nat.zero_le _, by simp, Or.inl rfl⟩
  · simp [Value.cells] at hcs
    obtain ⟨rfl, rfl, rfl⟩ := hcs
    have hle : len ≤ ss.length := by rw [hz]; split <;> omega
    refine ⟨ss.take len, by simp; omega, hl, hm, fun s hs => hws s (List.mem_of_mem_take hs), ?_⟩
    by_cases h0 : len = 0
    · exact Or.inl h0
    · have h1 := hcell 0 (by omega)
      have e := addr_none h1
      rw [e] at hcell ⊢
      refine Or.inr ⟨_, _, rfl, ?_, fun i hi => ?_⟩
      · have := World.block_lt_of_cell? _ _ h1; simpa [Addr.add] using this
      · have hi' : i < ss.length := by simp at hi; omega
        have := hcell i hi'
        rw [add_plain] at this
        rw [this]; simp [hi']

theorem openInts {T E : TypeId} {k : IntKind} (ht : P.underlying T = some (.slice E)) (he : P.underlying E = some (.int k)) (hc : P.cellsOf E = 1) {a : Option Addr} {len cap : Nat} {d : DataW H} {p : List MemPlace}
    (h : DataW.Trod enc P w base spare held T (.slice a len cap) d p) : ∃ zs, ArgInts k w a len cap zs := by
  obtain ⟨fuel, hf⟩ := h
  rcases open_ints ht he hc hf with ⟨hcs, _⟩ | ⟨x, l, c, zs, hcs, _, hl, hm, hz, _, hcell, hws⟩
  · simp [Value.cells] at hcs
    obtain ⟨rfl, rfl, rfl⟩ := hcs
    exact ⟨[], rfl, Nat.le_refl _, Nat.zero_le _, by simp, Or.inl rfl⟩
  · simp [Value.cells] at hcs
    obtain ⟨rfl, rfl, rfl⟩ := hcs
    have hle : len ≤ zs.length := by rw [hz]; split <;> omega
    refine ⟨zs.take len, by simp; omega, hl, hm, fun s hs => hws s (List.mem_of_mem_take hs), ?_⟩
    by_cases h0 : len = 0
    · exact Or.inl h0
    · have h1 := hcell 0 (by omega)
      have e := addr_none h1
      rw [e] at hcell ⊢
      refine Or.inr ⟨_, _, rfl, ?_, fun i hi => ?_⟩
      · have := World.block_lt_of_cell? _ _ h1; simpa [Addr.add] using this
      · have hi' : i < zs.length := by simp at hi; omega
        have := hcell i hi'
        rw [add_plain] at this
        rw [this]; simp [hi']

/-- A slice of structs that came in: the cells of each, and each field's own reading. -/
theorem openRows {T E : TypeId} {fs : Array Field} (ht : P.underlying T = some (.slice E)) (he : P.underlying E = some (.struct fs)) (hone : oneCellFields P fs = true) (hC : P.cellsOf E = fs.size) (hpos : 0 < fs.size) {a : Option Addr} {len cap : Nat} {d : DataW H} {p : List MemPlace}
    (h : DataW.Trod enc P w base spare held T (.slice a len cap) d p) :
    len ≤ cap ∧ cap ≤ maxLen ∧ (len = 0 ∨ ∃ b o n, a = some ⟨b, o, none⟩ ∧ b < w.heap.size ∧
      ∀ i, i < len → ∀ j f, fs[j]? = some f → ∃ v y, w.cell? ⟨b, o + (i * fs.size + j), none⟩ = some v ∧ DataW.trod enc P w base spare held n f.type [v] = some y) := by
  obtain ⟨fuel, hf⟩ := h
  rcases open_slice ht hf with ⟨hcs, _⟩ | ⟨x, l, c, m, n, D, Pl, hcs, _, hl, hm, hmm, _, hi⟩
  · simp [Value.cells] at hcs
    obtain ⟨rfl, rfl, rfl⟩ := hcs
    exact ⟨Nat.le_refl _, Nat.zero_le _, Or.inl rfl⟩
  · simp [Value.cells] at hcs
    obtain ⟨rfl, rfl, rfl⟩ := hcs
    refine ⟨hl, hm, ?_⟩
    by_cases h0 : len = 0
    · exact Or.inl h0
    · have hle : len ≤ m := by rw [hmm]; split <;> omega
      have one : ∀ i, i < len → ∀ j f, fs[j]? = some f → ∃ v y, w.cell? (x.add (i * fs.size + j)) = some v ∧ DataW.trod enc P w base spare held (n - 1) f.type [v] = some y := by
        intro i hil j f hj
        obtain ⟨cs', hc, ht'⟩ := hi i (by omega)
        rw [hC] at hc
        obtain ⟨xs, n', rfl, _, hlen, hxl, hfld⟩ := DataW.trod_struct he ht'
        obtain ⟨_, hcl, hat⟩ := World.cells?_some hc
        have hjl : j < fs.size := (Array.getElem?_eq_some_iff.1 hj).1
        obtain ⟨ho, hk⟩ := hone_of hone j f hj
        have h1 := hfld j f hj
        rw [ho, hk] at h1
        have hjc : j < cs'.length := by omega
        have e1 : (cs'.drop j).take 1 = [cs'[j]] := by
          rw [List.drop_eq_getElem_cons hjc]; rfl
        rw [e1, List.getElem?_eq_getElem (by omega : j < xs.length)] at h1
        refine ⟨cs'[j], _, ?_, h1⟩
        rw [← Go.Deep.add_add, hat j hjl, List.getElem?_eq_getElem hjc]
      obtain ⟨v0, y0, c0, _⟩ := one 0 (by omega) 0 fs[0] (by simp [hpos])
      have e := addr_none (a := x) (by simpa using c0)
      rw [e] at one ⊢
      refine Or.inr ⟨_, _, n - 1, rfl, ?_, fun i hil j f hj => ?_⟩
      · have := World.block_lt_of_cell? _ _ c0; simpa [Addr.add] using this
      · have := one i hil j f hj
        rw [add_plain] at this
        exact this
end
end Go.Proofs.YtogclkhpbjfadaaGreat
