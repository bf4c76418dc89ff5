/- Arguments with depth: slices of bytes, of byte slices; how they are read later. -/
import Derived.Test.YtogclkhpbjfadaaGreatArgs
import Derived.Test.YtogclkhpbjfadaaGreatOct
import Derived.Lib.SmallJoins
namespace Go.Proofs.YtogclkhpbjfadaaGreat
open Go.RowKit Go.ChangeShapes Go.WideShapes Go.Deep
set_option linter.unusedVariables false
set_option maxRecDepth 100000

/-- A slice of bytes that came in. -/
structure AB (w : World) (v : Value) (bs : List UInt8) : Prop where
  ex : ∃ a c, v = .slice a bs.length c ∧ Src w a bs.length 1 (u8s bs) ∧ bs.length ≤ c ∧ c ≤ maxLen
/-- A slice of things of one cell each. -/
structure ArgCellsOf {α : Type} (Rd : World → Value → α → Prop) (w : World) (a : Option Addr) (len cap : Nat) (L : List α) : Prop where
  length : L.length = len
  room : len ≤ cap
  most : cap ≤ maxLen
  at' : ∀ i x, L[i]? = some x → ∃ g o v, a = some ⟨g, o, none⟩ ∧ w.cell? ⟨g, o + i, none⟩ = some v ∧ Rd w v x
abbrev ArgBss := ArgCellsOf AB
section
variable {H : Type} {enc : TypeId × Value → H} {P : Program} {w : World} {base : Nat} {spare : Nat → Bool} {held : Bool}
theorem openAB {T E : TypeId} (ht : P.underlying T = some (.slice E)) (he : P.underlying E = some (.int .u8)) (hc : P.cellsOf E = 1) {fuel : Nat} {cs : List Value} {y : DataW H × List MemPlace}
    (h : DataW.trod enc P w base spare held fuel T cs = some y) : ∃ v bs, cs = [v] ∧ AB w v bs := by
  rcases open_ints ht he hc h with ⟨hcs, _⟩ | ⟨x, l, c, zs, hcs, _, hl, hm, hz, _, hcell, hws⟩
  · exact ⟨_, [], hcs, none, 0, rfl, Src.nil _ _ _, Nat.le_refl _, Nat.zero_le _⟩
  · have hle : l ≤ zs.length := by rw [hz]; split <;> omega
    refine ⟨_, (zs.take l).map (fun z => UInt8.ofNat z.toNat), hcs, some x, c, by simp; omega, ⟨by simp [u8s], fun h0 => ?_⟩, by simp; omega, hm⟩
    refine ⟨x, rfl, fun j u hu => ?_⟩
    have hlen : ((zs.take l).map (fun z => UInt8.ofNat z.toNat)).length = l := by simp; omega
    have hj : j < l := by
      have := (List.getElem?_eq_some_iff.1 hu).1
      rw [u8s_length, hlen] at this; exact this
    have h1 := hcell j (by omega)
    rw [h1]
    have hw : (Lit.int .u8 zs[j]).wf = true := hws _ (List.getElem_mem (by omega))
    have hb : 0 ≤ zs[j] ∧ zs[j] < 256 := by
      have hmin : IntKind.u8.min = 0 := rfl
      have hmax : IntKind.u8.max = 255 := rfl
      simp only [Lit.wf, Bool.and_eq_true, decide_eq_true_eq] at hw
      rw [hmin, hmax] at hw
      omega
    have hgl : (u8s ((zs.take l).map (fun z => UInt8.ofNat z.toNat)))[j]? = some (.int .u8 zs[j]) := by
      simp only [u8s, List.map_map, List.getElem?_map, List.getElem?_take, hj, if_true, List.getElem?_eq_getElem (show j < zs.length by omega), Option.map_some, Function.comp]
      congr 2
      rw [UInt8.toNat_ofNat']
      omega
    rw [hgl] at hu
    rw [← hu]
    congr 2
    rw [List.getD_eq_getElem?_getD, List.getElem?_eq_getElem (show j < zs.length by omega)]; rfl
theorem openCells {α : Type} {Rd : World → Value → α → Prop} {T E : TypeId} (ht : P.underlying T = some (.slice E)) (hc : P.cellsOf E = 1) (hone : ∀ n v y, DataW.trod enc P w base spare held n E [v] = some y → ∃ x, Rd w v x) {a : Option Addr} {len cap fuel : Nat} {y : DataW H × List MemPlace}
    (h : DataW.trod enc P w base spare held fuel T [.slice a len cap] = some y) : ∃ L, ArgCellsOf Rd w a len cap L := by
  rcases open_slice1 ht hc h with ⟨hcs, _⟩ | ⟨x, l, c, m, n, V, D, Pl, hcs, _, hl, hm, hmm, _, hi⟩
  · simp at hcs
    obtain ⟨rfl, rfl, rfl⟩ := hcs
    exact ⟨[], rfl, Nat.le_refl _, Nat.zero_le _, by simp⟩
  · simp at hcs
    obtain ⟨rfl, rfl, rfl⟩ := hcs
    have hle : len ≤ m := by rw [hmm]; split <;> omega
    obtain ⟨L, hL, hp⟩ := exists_list (p := fun i z => Rd w (V i) z) len (fun i hil => hone _ _ _ (hi i (by omega)).2)
    refine ⟨L, hL, hl, hm, fun i z hz => ?_⟩
    obtain ⟨hil, rfl⟩ := List.getElem?_eq_some_iff.1 hz
    have h0 := (hi 0 (by omega)).1
    have e := addr_none h0
    have h1 := (hi i (by omega)).1
    refine ⟨x.block, x.off, V i, by rw [← e], ?_, hp i hil⟩
    rw [e] at h1
    rw [add_plain] at h1
    exact h1
theorem openBss {T E B : TypeId} (ht : P.underlying T = some (.slice E)) (he : P.underlying E = some (.slice B)) (hb : P.underlying B = some (.int .u8)) (hc : P.cellsOf E = 1) (hcb : P.cellsOf B = 1) {a : Option Addr} {len cap : Nat} {d : DataW H} {p : List MemPlace}
    (h : DataW.Trod enc P w base spare held T (.slice a len cap) d p) : ∃ L, ArgBss w a len cap L := by
  obtain ⟨fuel, hf⟩ := h
  refine openCells ht hc (fun n v y hy => ?_) (by simpa [Value.cells] using hf)
  obtain ⟨v', bs, e, hb⟩ := openAB he hb hcb hy
  cases e
  exact ⟨bs, hb⟩
theorem openBytes {T B : TypeId} (he : P.underlying T = some (.slice B)) (hb : P.underlying B = some (.int .u8)) (hcb : P.cellsOf B = 1) {a : Option Addr} {len cap : Nat} {d : DataW H} {p : List MemPlace}
    (h : DataW.Trod enc P w base spare held T (.slice a len cap) d p) : ∃ bs, AB w (.slice a len cap) bs := by
  obtain ⟨fuel, hf⟩ := h
  obtain ⟨v', bs, e, hb⟩ := openAB he hb hcb hf
  simp [Value.cells] at e
  subst e
  exact ⟨bs, hb⟩
end
section
variable {w0 w : World} {R : List Asrt}
theorem cell_old (h : Own w0 w R) {a : Addr} {v : Value} (hc : w0.cell? a = some v) : w.cell? a = some v := by
  have hb := World.block_lt_of_cell? _ _ hc
  rw [← hc]
  exact World.cell?_of_block (h.mod.block _ hb (by simp))
theorem Src.old (h : Own w0 w R) {A : Option Addr} {n k : Nat} {xs : List Value} (hs : Src w0 A n k xs) : Src w A n k xs :=
  ⟨hs.len, fun h0 => by
    obtain ⟨ad, e, hc⟩ := hs.at' h0
    exact ⟨ad, e, fun j u hu => cell_old h (hc j u hu)⟩⟩
theorem AB.old (h : Own w0 w R) {v : Value} {bs : List UInt8} (hs : AB w0 v bs) : AB w v bs := by
  obtain ⟨a, c, h1, h2, h3, h4⟩ := hs.ex
  exact ⟨a, c, h1, h2.old h, h3, h4⟩
theorem src_none {w : World} {A : Option Addr} {bs : List UInt8} (h : Src w A bs.length 1 (u8s bs)) : A = none → bs.length = 0 := fun e => by
  subst e
  rcases Nat.eq_zero_or_pos bs.length with h0 | h0
  · exact h0
  · obtain ⟨ad, e, _⟩ := h.at' h0
    cases e
end
end Go.Proofs.YtogclkhpbjfadaaGreat
