/- The heap of keys in memory: an array of pointers to items, each item with its key, its time and its place; what an exchange of two does to it. -/
import Derived.Test.YtcakgponofbhkaaMem
import Derived.Test.YtcakgponofbhkaaHeapPlain
namespace Go.Proofs.Ytcakgponofbhkaa
set_option linter.unusedVariables false
set_option maxRecDepth 100000

/-- An item: its block, its key, its time. -/
structure It where
  blk : Nat
  key : ByteArray
  tm : Int
instance : Inhabited It := ⟨⟨0, ByteArray.empty, 0⟩⟩
abbrev It.kt (x : It) : KT := (x.key, x.tm)
def ith (L : List It) (i : Nat) : It := L.getD i default
def gk (L : List It) (i : Nat) : KT := (ith L i).kt
abbrev blks (L : List It) : List Nat := L.map It.blk

/-- Two exchanged. -/
def swl (L : List It) (i j : Nat) : List It := (L.set i (ith L j)).set j (ith L i)
theorem swl_length (L : List It) (i j : Nat) : (swl L i j).length = L.length := by simp [swl]
theorem ith_swl {L : List It} {i j : Nat} (hi : i < L.length) (hj : j < L.length) (k : Nat) :
    ith (swl L i j) k = if k = j then ith L i else if k = i then ith L j else ith L k := by
  simp only [swl, ith, List.getD_eq_getElem?_getD, List.getElem?_set, List.length_set]
  by_cases h1 : k = j
  · subst h1; simp [hj]
  · by_cases h2 : k = i
    · subst h2; simp [h1, Ne.symm h1, hi]
    · simp [h1, h2, Ne.symm h1, Ne.symm h2]
theorem gk_swl {L : List It} {i j : Nat} (hi : i < L.length) (hj : j < L.length) : gk (swl L i j) = swf (gk L) i j := by
  funext k
  unfold gk swf
  rw [ith_swl hi hj]
  split
  · rfl
  · split <;> rfl
theorem swl_perm {L : List It} {i j : Nat} (hi : i < L.length) (hj : j < L.length) : (swl L i j).Perm L := by
  have := List.set_set_perm (as := L) hi hj
  simpa [swl, ith, List.getD_eq_getElem?_getD, hi, hj] using this
theorem ith_lt {L : List It} {i : Nat} (h : i < L.length) : ith L i = L[i] := by simp [ith, h]

/-- THE HEAP IN MEMORY: at bq the slice of the array at ba with n elements, its items L. -/
structure HS (w : World) (bq ba n cap : Nat) (L : List It) : Prop where
  cell : w.cell? ⟨bq, 0, none⟩ = some (.slice (some ⟨ba, 0, none⟩) n cap)
  len : n = L.length
  room : n ≤ cap
  capm : cap ≤ maxLen
  most : n ≤ 1024
  nodup : (bq :: ba :: blks L).Nodup
  arr : ∃ C, w.heap[ba]? = some (.cells C 122 (0, 0)) ∧ C.size = cap ∧ ∀ i, i < n → C[i]? = some (.pointer (some ⟨(ith L i).blk, 0, none⟩))
  item : ∀ i, i < n → ∃ T, w.heap[(ith L i).blk]? = some (.cells #[.string (ith L i).key, .int .i64 (ith L i).tm, .int .i64 i] T (0, 0))

theorem ith_mem {L : List It} {i : Nat} (h : i < L.length) : ith L i ∈ L := by
  rw [ith_lt h]; exact List.getElem_mem h
theorem blk_mem {L : List It} {i : Nat} (h : i < L.length) : (ith L i).blk ∈ blks L := List.mem_map_of_mem (ith_mem h)
theorem nodup_ne {α : Type} : ∀ {l : List α}, l.Nodup → ∀ {i j : Nat} (hi : i < l.length) (hj : j < l.length), i ≠ j → l[i] ≠ l[j]
  | [], _, i, j, hi, _, _ => by simp at hi
  | x :: l, hn, i, j, hi, hj, hij => by
    obtain ⟨h1, h2⟩ := List.nodup_cons.1 hn
    cases i with
    | zero =>
      cases j with
      | zero => omega
      | succ j => intro e; simp at e; exact h1 (e ▸ List.getElem_mem _)
    | succ i =>
      cases j with
      | zero => intro e; simp at e; exact h1 (e ▸ List.getElem_mem _)
      | succ j => simpa using nodup_ne h2 (by simpa using hi) (by simpa using hj) (by omega)
theorem blk_ne {L : List It} (hn : (blks L).Nodup) {i j : Nat} (hi : i < L.length) (hj : j < L.length) (hij : i ≠ j) : (ith L i).blk ≠ (ith L j).blk := by
  have := nodup_ne hn (i := i) (j := j) (by simpa using hi) (by simpa using hj) hij
  simpa [ith_lt hi, ith_lt hj] using this

theorem HS.nb {w : World} {bq ba n cap : Nat} {L : List It} (h : HS w bq ba n cap L) : (blks L).Nodup := by
  have := h.nodup; simp at this; exact this.2.2
theorem HS.qa {w : World} {bq ba n cap : Nat} {L : List It} (h : HS w bq ba n cap L) : bq ≠ ba := by
  have := h.nodup; simp at this; exact this.1.1
theorem HS.ab {w : World} {bq ba n cap : Nat} {L : List It} (h : HS w bq ba n cap L) : ba ∉ blks L := by
  have := (List.nodup_cons.1 (List.nodup_cons.1 h.nodup).2).1; exact this
theorem HS.qb {w : World} {bq ba n cap : Nat} {L : List It} (h : HS w bq ba n cap L) : bq ∉ blks L := by
  have := (List.nodup_cons.1 h.nodup).1; intro h'; exact this (List.mem_cons_of_mem _ h')
theorem HS.ptr {w : World} {bq ba n cap : Nat} {L : List It} (h : HS w bq ba n cap L) {i : Nat} (hi : i < n) : w.cell? ⟨ba, i, none⟩ = some (.pointer (some ⟨(ith L i).blk, 0, none⟩)) := by
  obtain ⟨C, hb, _, hc⟩ := h.arr; exact cell_of hb (hc i hi)
theorem HS.afree {w : World} {bq ba n cap : Nat} {L : List It} (h : HS w bq ba n cap L) (i : Nat) : w.frozen? ⟨ba, i, none⟩ = false := by
  obtain ⟨C, hb, _, hc⟩ := h.arr; exact free_of hb
theorem HS.key {w : World} {bq ba n cap : Nat} {L : List It} (h : HS w bq ba n cap L) {i : Nat} (hi : i < n) : w.cell? ⟨(ith L i).blk, 0, none⟩ = some (.string (ith L i).key) := by
  obtain ⟨T, hb⟩ := h.item i hi; exact cell_of hb rfl
theorem HS.tm {w : World} {bq ba n cap : Nat} {L : List It} (h : HS w bq ba n cap L) {i : Nat} (hi : i < n) : w.cell? ⟨(ith L i).blk, 1, none⟩ = some (.int .i64 (ith L i).tm) := by
  obtain ⟨T, hb⟩ := h.item i hi; exact cell_of hb rfl
theorem HS.ix {w : World} {bq ba n cap : Nat} {L : List It} (h : HS w bq ba n cap L) {i : Nat} (hi : i < n) : w.cell? ⟨(ith L i).blk, 2, none⟩ = some (.int .i64 i) := by
  obtain ⟨T, hb⟩ := h.item i hi; exact cell_of hb rfl
theorem HS.ifree {w : World} {bq ba n cap : Nat} {L : List It} (h : HS w bq ba n cap L) {i : Nat} (hi : i < n) (o : Nat) : w.frozen? ⟨(ith L i).blk, o, none⟩ = false := by
  obtain ⟨T, hb⟩ := h.item i hi; exact free_of hb
theorem HS.drewN {w : World} {bq ba n cap : Nat} {L : List It} (h : HS w bq ba n cap L) (m : Nat) : HS (w.drewN m) bq ba n cap L :=
  ⟨h.cell, h.len, h.room, h.capm, h.most, h.nodup, h.arr, h.item⟩

/-- What the exchange of two writes. -/
theorem HS.swap {w : World} {bq ba n cap : Nat} {L : List It} (h : HS w bq ba n cap L) {i j : Nat} (hi : i < n) (hj : j < n) (hij : i ≠ j) :
    HS ((((w.setCell ⟨ba, i, none⟩ (.pointer (some ⟨(ith L j).blk, 0, none⟩))).setCell ⟨ba, j, none⟩ (.pointer (some ⟨(ith L i).blk, 0, none⟩))).setCell
      ⟨(ith L j).blk, 2, none⟩ (.int .i64 i)).setCell ⟨(ith L i).blk, 2, none⟩ (.int .i64 j)) bq ba n cap (swl L i j) := by
  have hl := h.len
  have hiL : i < L.length := by omega
  have hjL : j < L.length := by omega
  have hp := swl_perm hiL hjL
  have ai : ba ≠ (ith L i).blk := fun e => h.ab (e ▸ blk_mem hiL)
  have aj : ba ≠ (ith L j).blk := fun e => h.ab (e ▸ blk_mem hjL)
  have qi : bq ≠ (ith L i).blk := fun e => h.qb (e ▸ blk_mem hiL)
  have qj : bq ≠ (ith L j).blk := fun e => h.qb (e ▸ blk_mem hjL)
  have ij : (ith L i).blk ≠ (ith L j).blk := blk_ne h.nb hiL hjL hij
  obtain ⟨C, hb, hC, hc⟩ := h.arr
  refine ⟨?_, by rw [swl_length]; exact hl, h.room, h.capm, h.most, ?_, ?_, ?_⟩
  · rw [World.cell?_setCell_other _ _ _ _ (by simp), World.cell?_setCell_other _ _ _ _ (by simp),
      World.cell?_setCell_other _ _ _ _ (by simp [h.qa.symm]), World.cell?_setCell_other _ _ _ _ (by simp [h.qa.symm])]
    exact h.cell
  · exact ((((hp.map It.blk).cons ba).cons bq).nodup_iff).2 h.nodup
  · refine ⟨(C.setIfInBounds i (.pointer (some ⟨(ith L j).blk, 0, none⟩))).setIfInBounds j (.pointer (some ⟨(ith L i).blk, 0, none⟩)), ?_, by simp [hC], fun k hk => ?_⟩
    · rw [hp_setCell_other (by exact ai), hp_setCell_other (by exact aj)]
      exact hp_setCell_same (hp_setCell_same hb)
    · rw [ith_swl hiL hjL]
      have hkC : k < C.size := by have := h.room; omega
      simp only [Array.getElem?_setIfInBounds, Array.size_setIfInBounds]
      by_cases e1 : k = j
      · subst e1; simp [hkC]
      · by_cases e2 : k = i
        · subst e2; simp [hkC, Ne.symm e1, e1]
        · simp [Ne.symm e1, Ne.symm e2, e1, e2]; exact hc k hk
  · intro k hk
    have hkL : k < L.length := by omega
    rw [ith_swl hiL hjL]
    by_cases e1 : k = j
    · subst e1
      obtain ⟨Ti, hbi⟩ := h.item i hi
      refine ⟨Ti, ?_⟩
      rw [if_pos rfl, hp_setCell_same (C := #[.string (ith L i).key, .int .i64 (ith L i).tm, .int .i64 i]) (T := Ti) (fz := (0, 0))]
      · simp
      · rw [hp_setCell_other (by exact ij), hp_setCell_other (by exact ai.symm), hp_setCell_other (by exact ai.symm)]; exact hbi
    · by_cases e2 : k = i
      · subst e2
        obtain ⟨Tj, hbj⟩ := h.item j hj
        refine ⟨Tj, ?_⟩
        rw [if_neg e1, if_pos rfl, hp_setCell_other (by exact ij.symm), hp_setCell_same (C := #[.string (ith L j).key, .int .i64 (ith L j).tm, .int .i64 j]) (T := Tj) (fz := (0, 0))]
        · simp
        · rw [hp_setCell_other (by exact aj.symm), hp_setCell_other (by exact aj.symm)]; exact hbj
      · obtain ⟨Tk, hbk⟩ := h.item k hk
        refine ⟨Tk, ?_⟩
        have ak : ba ≠ (ith L k).blk := fun e => h.ab (e ▸ blk_mem hkL)
        rw [if_neg e1, if_neg e2, hp_setCell_other (by exact blk_ne h.nb hkL hiL e2), hp_setCell_other (by exact blk_ne h.nb hkL hjL e1), hp_setCell_other (by exact ak.symm), hp_setCell_other (by exact ak.symm)]
        exact hbk

abbrev ptrV (x : It) : Value := .pointer (some ⟨x.blk, 0, none⟩)
/-- As a row that the call owns. -/
theorem HS.owns {w : World} {bq ba n cap : Nat} {L : List It} (h : HS w bq ba n cap L) : w.ownsRow 0 122 1 (.slice (some ⟨ba, 0, none⟩) n cap) n (L.map ptrV) := by
  obtain ⟨C, hb, hC, hc⟩ := h.arr
  have hl := h.len
  refine ⟨by simp [hl], Or.inr ⟨ba, cap, C, rfl, Nat.zero_le _, hb, h.room, h.capm, by omega, ?_⟩⟩
  have hr := h.room
  apply List.ext_getElem?
  intro i
  rw [List.getElem?_take]
  by_cases hi : i < n
  · rw [if_pos (by omega)]
    have := hc i hi
    rw [Array.getElem?_toList, this, List.getElem?_map, List.getElem?_eq_getElem (by omega), Option.map_some, ith_lt (by omega)]
  · rw [if_neg (by omega), List.getElem?_eq_none (by simp; omega)]
/-- .. and back. -/
theorem HS.of_owns {w : World} {bq ba n cap : Nat} {L : List It} (ho : w.ownsRow 0 122 1 (.slice (some ⟨ba, 0, none⟩) n cap) n (L.map ptrV))
    (hc : w.cell? ⟨bq, 0, none⟩ = some (.slice (some ⟨ba, 0, none⟩) n cap)) (hm : n ≤ 1024) (hn : (bq :: ba :: blks L).Nodup)
    (hi : ∀ i, i < n → ∃ T, w.heap[(ith L i).blk]? = some (.cells #[.string (ith L i).key, .int .i64 (ith L i).tm, .int .i64 i] T (0, 0))) : HS w bq ba n cap L := by
  obtain ⟨h1, h2⟩ := ho
  have hl : n = L.length := by simpa using h1.symm
  rcases h2 with ⟨h2, _⟩ | ⟨g, cap', cur, h2, _, hb, hr, hcm, hs, ht⟩
  · cases h2
  · simp only [Value.slice.injEq, Option.some.injEq, Addr.mk.injEq, and_true, true_and] at h2
    obtain ⟨rfl, rfl⟩ := h2
    refine ⟨hc, hl, hr, hcm, hm, hn, ⟨cur, hb, by omega, fun i hi => ?_⟩, hi⟩
    have h3 : (cur.toList.take (n * 1))[i]? = (L.map ptrV)[i]? := by rw [ht]
    have h4 : i < L.length := by omega
    rw [List.getElem?_take, if_pos (by omega), Array.getElem?_toList] at h3
    rw [h3, List.getElem?_map, List.getElem?_eq_getElem h4, Option.map_some, ith_lt h4]

end Go.Proofs.Ytcakgponofbhkaa
