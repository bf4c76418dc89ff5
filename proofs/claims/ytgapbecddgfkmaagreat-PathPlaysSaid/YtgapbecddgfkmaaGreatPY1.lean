/- Rows.PathPlaysSaid -/
import Derived.WalkKit
import Derived.Below
import Derived.Deep.Draws
import Derived.Lib.Hide
import GoSem.Op.String
import Derived.Test.YtgapbecddgfkmaaGreatRows
import Derived.ProofKit
import Derived.Deep.QuietTactic
import Derived.BigQuiet
import Derived.BigRegion
import Derived.WalkLawsBesides
import Derived.WalkSpells
import Derived.Outline
import Derived.Maps.AppendAt
import Derived.OwnWalk
import Derived.Maps.Keyed
import Derived.Maps.OwnSet
namespace Go.Proofs.YtgapbecddgfkmaaGreat
open Go.RowKit
open Go.RowKit Go.MapKept Go.WideShapes
open Go.ChangeMaps (setBlock)
open Go.Maps (Keyed)
set_option linter.unusedVariables false
set_option maxHeartbeats 64000000
set_option maxRecDepth 100000
theorem hp_setCell_other {w : World} {a : Addr} {v : Value} {b : Nat} (h : b ≠ a.block) : (w.setCell a v).heap[b]? = w.heap[b]? := Below.heap_setCell w a v b h
theorem hp_setCell_same {w : World} {b o : Nat} {v : Value} {C : Array Value} {T : TypeId} {fz : Nat × Nat} (h : w.heap[b]? = some (.cells C T fz)) :
    (w.setCell ⟨b, o, none⟩ v).heap[b]? = some (.cells (C.setIfInBounds o v) T fz) := by
  simp only [World.setCell, Array.getElem?_modify]
  simp [h]
theorem hp_alloc_new {w : World} {o : Obj} : (w.alloc o).heap[w.heap.size]? = some o := by
  show (w.heap.push o)[w.heap.size]? = some o
  simp
theorem hp_alloc_at {w : World} {o : Obj} {k : Nat} (h : k = w.heap.size) : (w.alloc o).heap[k]? = some o := by subst h; exact hp_alloc_new
theorem hp_alloc_old {w : World} {o : Obj} {b : Nat} (h : b < w.heap.size) : (w.alloc o).heap[b]? = w.heap[b]? := Below.heap_alloc w o b h
theorem hp_lt {w : World} {b : Nat} {o : Obj} (h : w.heap[b]? = some o) : b < w.heap.size := (Array.getElem?_eq_some_iff.1 h).1
theorem cell_of {w : World} {b o : Nat} {C : Array Value} {T : TypeId} {fz : Nat × Nat} {v : Value} (h : w.heap[b]? = some (.cells C T fz)) (hv : C[o]? = some v) : w.cell? ⟨b, o, none⟩ = some v := by
  simp [World.cell?, h, hv]
theorem free_of {w : World} {b o : Nat} {C : Array Value} {T : TypeId} (h : w.heap[b]? = some (.cells C T (0, 0))) : w.frozen? ⟨b, o, none⟩ = false := by
  simp [World.frozen?, h]
structure Mod (F : List Nat) (w w' : World) : Prop where
  os : w'.os = w.os
  tape : w'.tape = w.tape
  output : w'.output = w.output
  size : w.heap.size ≤ w'.heap.size
  block : ∀ b, b < w.heap.size → b ∉ F → w'.heap[b]? = w.heap[b]?
theorem Mod.refl (F : List Nat) (w : World) : Mod F w w := ⟨rfl, rfl, rfl, Nat.le_refl _, fun _ _ _ => rfl⟩
theorem Mod.mono {F G : List Nat} {w w' : World} (h : Mod F w w') (hs : ∀ b ∈ F, b ∈ G) : Mod G w w' :=
  ⟨h.os, h.tape, h.output, h.size, fun b hb hn => h.block b hb (fun hf => hn (hs b hf))⟩
theorem Mod.trans {F G : List Nat} {a b c : World} (h : Mod F a b) (k : Mod G b c) (hs : ∀ x ∈ G, x ∈ F ∨ a.heap.size ≤ x) : Mod F a c :=
  ⟨k.os.trans h.os, k.tape.trans h.tape, k.output.trans h.output, Nat.le_trans h.size k.size, fun x hx hn =>
    (k.block x (Nat.lt_of_lt_of_le hx h.size) (fun hg => by rcases hs x hg with h1 | h1; exact hn h1; omega)).trans (h.block x hx hn)⟩
theorem Mod.trans' {F : List Nat} {a b c : World} (h : Mod F a b) (k : Mod F b c) : Mod F a c := h.trans k (fun _ hx => Or.inl hx)
theorem Mod.setCell {F : List Nat} {a w : World} (h : Mod F a w) {p : Addr} (hp : p.block ∈ F ∨ a.heap.size ≤ p.block) (u : Value) : Mod F a (w.setCell p u) :=
  ⟨h.os, h.tape, h.output, by simpa using h.size, fun b hb hn => by
    rw [hp_setCell_other (by rintro rfl; rcases hp with h1 | h1; exact hn h1; omega)]; exact h.block b hb hn⟩
theorem Mod.alloc {F : List Nat} {a w : World} (h : Mod F a w) (o : Obj) : Mod F a (w.alloc o) :=
  ⟨h.os, h.tape, h.output, by simp; have := h.size; omega, fun b hb hn => by
    rw [hp_alloc_old (Nat.lt_of_lt_of_le hb h.size)]; exact h.block b hb hn⟩
theorem Mod.drewN {F : List Nat} {a w : World} (h : Mod F a w) (n : Nat) : Mod F a (w.drewN n) := ⟨h.os, h.tape, h.output, h.size, h.block⟩
theorem Mod.below {F : List Nat} {w w' : World} {B : Nat} (h : Mod F w w') (hB : B ≤ w.heap.size) (hF : ∀ b ∈ F, B ≤ b) : Below B w w' :=
  ⟨h.os, h.tape, h.output, h.size, fun k hk => h.block k (by omega) (fun hf => by have := hF k hf; omega)⟩
theorem Mod.of_grown {F : List Nat} {a w w' : World} {row : Option Nat} (h : Mod F a w) (hg : w.grownBy w' row) (hr : ∀ k, row = some k → k ∈ F ∨ a.heap.size ≤ k) : Mod F a w' :=
  ⟨hg.os.trans h.os, hg.tape.trans h.tape, hg.output.trans h.output, Nat.le_trans h.size hg.size, fun b hb hn => by
    rw [hg.block b (Nat.lt_of_lt_of_le hb h.size) (fun e => by rcases hr b e.symm with h1 | h1; exact hn h1; omega)]; exact h.block b hb hn⟩
def Grew (F F' : List Nat) (w : World) : Prop := ∀ b ∈ F', b ∈ F ∨ w.heap.size ≤ b
theorem Grew.refl (F : List Nat) (w : World) : Grew F F w := fun _ h => Or.inl h
def Apart (F G : List Nat) : Prop := ∀ b ∈ F, b ∉ G
theorem Apart.grew {F F' G : List Nat} {w : World} (h : Apart F G) (hg : Grew F F' w) (hG : ∀ b ∈ G, b < w.heap.size) : Apart F' G := fun b hb hbG => by
  rcases hg b hb with h1 | h1
  · exact h b h1 hbG
  · have := hG b hbG; omega
/-! ### the order of texts -/
abbrev bl (x y : List UInt8) : Bool := Op.bytesLess x y
theorem bl_cons (a b : UInt8) (x y : List UInt8) : bl (a :: x) (b :: y) = (a < b || (a == b && bl x y)) := by simp [bl, Op.bytesLess]
theorem bl_irrefl : ∀ x : List UInt8, bl x x = false
  | [] => by simp [bl, Op.bytesLess]
  | a :: x => by rw [bl_cons, bl_irrefl x]; simp
theorem bl_trans : ∀ x y z : List UInt8, bl x y = true → bl y z = true → bl x z = true
  | [], _, [], _, h => by cases ‹List UInt8› <;> simp [bl, Op.bytesLess] at h
  | [], _, _ :: _, _, _ => by simp [bl, Op.bytesLess]
  | _ :: _, [], _, h, _ => by simp [bl, Op.bytesLess] at h
  | _ :: _, _ :: _, [], _, h => by simp [bl, Op.bytesLess] at h
  | a :: x, b :: y, c :: z, h1, h2 => by
    rw [bl_cons] at *
    simp only [Bool.or_eq_true, decide_eq_true_eq, Bool.and_eq_true, beq_iff_eq] at *
    rcases h1 with h1 | ⟨rfl, h1⟩
    · rcases h2 with h2 | ⟨rfl, h2⟩
      · exact Or.inl (UInt8.lt_trans h1 h2)
      · exact Or.inl h1
    · rcases h2 with h2 | ⟨rfl, h2⟩
      · exact Or.inl h2
      · exact Or.inr ⟨rfl, bl_trans x y z h1 h2⟩
theorem bl_total : ∀ x y : List UInt8, bl x y = false → bl y x = false → x = y
  | [], [], _, _ => rfl
  | [], _ :: _, h, _ => by simp [bl, Op.bytesLess] at h
  | _ :: _, [], _, h => by simp [bl, Op.bytesLess] at h
  | a :: x, b :: y, h1, h2 => by
    rw [bl_cons] at h1 h2
    simp only [Bool.or_eq_false_iff, decide_eq_false_iff_not, Bool.and_eq_false_iff, beq_eq_false_iff_ne] at h1 h2
    have e : a = b := UInt8.le_antisymm (UInt8.not_lt.1 h2.1) (UInt8.not_lt.1 h1.1)
    subst e
    have k1 : bl x y = false := by rcases h1.2 with h | h; exact absurd rfl h; exact h
    have k2 : bl y x = false := by rcases h2.2 with h | h; exact absurd rfl h; exact h
    rw [bl_total x y k1 k2]
/-! ### keys with times -/
abbrev KT := ByteArray × Int
def klt (a b : KT) : Bool := decide (a.2 < b.2) || (a.2 == b.2 && bl a.1.data.toList b.1.data.toList)
theorem klt_irrefl (a : KT) : klt a a = false := by simp [klt, bl_irrefl]
theorem klt_trans {a b c : KT} (h1 : klt a b = true) (h2 : klt b c = true) : klt a c = true := by
  simp only [klt, Bool.or_eq_true, decide_eq_true_eq, Bool.and_eq_true, beq_iff_eq] at *
  rcases h1 with h1 | ⟨e1, h1⟩ <;> rcases h2 with h2 | ⟨e2, h2⟩
  · left; omega
  · left; omega
  · left; omega
  · right; exact ⟨by omega, bl_trans _ _ _ h1 h2⟩
theorem ba_ext {a b : ByteArray} (h : a.data.toList = b.data.toList) : a = b := by
  cases a; cases b; simp at h; simp [h]
theorem klt_total {a b : KT} (h1 : klt a b = false) (h2 : klt b a = false) : a = b := by
  simp only [klt, Bool.or_eq_false_iff, decide_eq_false_iff_not, Bool.and_eq_false_iff, beq_eq_false_iff_ne] at h1 h2
  have e : a.2 = b.2 := by omega
  have k1 : bl a.1.data.toList b.1.data.toList = false := by rcases h1.2 with h | h; exact absurd e h; exact h
  have k2 : bl b.1.data.toList a.1.data.toList = false := by rcases h2.2 with h | h; exact absurd e.symm h; exact h
  exact Prod.ext (ba_ext (bl_total _ _ k1 k2)) e
theorem klt_of_lt {a b : KT} (h : a.2 < b.2) : klt a b = true := by simp [klt, h]
theorem klt_of_eq {a b : KT} (h : a.2 = b.2) : klt a b = bl a.1.data.toList b.1.data.toList := by simp [klt, h]
theorem klt_of_gt {a b : KT} (h : b.2 < a.2) : klt a b = false := by
  simp only [klt, Bool.or_eq_false_iff, decide_eq_false_iff_not, Bool.and_eq_false_iff, beq_eq_false_iff_ne]
  exact ⟨by omega, Or.inl (by omega)⟩
abbrev kle (a b : KT) : Prop := klt b a = false
theorem kle_refl (a : KT) : kle a a := klt_irrefl a
theorem kle_of_lt {a b : KT} (h : klt a b = true) : kle a b := by
  cases h2 : klt b a
  · exact h2
  · have := klt_trans h h2; rw [klt_irrefl] at this; cases this
theorem kle_trans {a b c : KT} (h1 : kle a b) (h2 : kle b c) : kle a c := by
  cases h : klt c a
  · exact h
  · cases h3 : klt a b
    · have := klt_total h3 h1; subst this; unfold kle at h2; rw [h] at h2; cases h2
    · have := klt_trans h h3; unfold kle at h2; rw [this] at h2; cases h2
/-! ### the heap -/
abbrev par (c : Nat) : Nat := (c - 1) / 2
def HeapP (n : Nat) (g : Nat → KT) : Prop := ∀ c, 0 < c → c < n → kle (g (par c)) (g c)
structure ExceptP (n : Nat) (g : Nat → KT) (i : Nat) : Prop where
  rest : ∀ c, 0 < c → c < n → c ≠ i → par c ≠ i → kle (g (par c)) (g c)
  over : ∀ c, 0 < c → c < n → par c = i → 0 < i → kle (g (par i)) (g c)
def KidsP (n : Nat) (g : Nat → KT) (i : Nat) : Prop := ∀ c, 0 < c → c < n → par c = i → kle (g i) (g c)
def ParP (g : Nat → KT) (i : Nat) : Prop := 0 < i → kle (g (par i)) (g i)
def swf (g : Nat → KT) (i j : Nat) : Nat → KT := fun k => if k = j then g i else if k = i then g j else g k
theorem HeapP.except {n : Nat} {g : Nat → KT} (h : HeapP n g) (i : Nat) (hi : i < n) : ExceptP n g i :=
  ⟨fun c h0 h1 _ _ => h c h0 h1, fun c h0 h1 e hi0 => kle_trans (h i hi0 hi) (by have := h c h0 h1; rwa [e] at this)⟩
theorem heap_of {n : Nat} {g : Nat → KT} {i : Nat} (h : ExceptP n g i) (k : KidsP n g i) (p : ParP g i) : HeapP n g := fun c h0 h1 => by
  by_cases e : c = i
  · subst e; exact p h0
  · by_cases e2 : par c = i
    · rw [e2]; exact k c h0 h1 e2
    · exact h.rest c h0 h1 e e2
theorem ExceptP.other {n : Nat} {g g' : Nat → KT} {i : Nat} (h : ExceptP n g i) (e : ∀ k, k < n → k ≠ i → g' k = g k) : ExceptP n g' i :=
  ⟨fun c h0 h1 h2 h3 => by rw [e c h1 h2, e _ (by unfold par; omega) h3]; exact h.rest c h0 h1 h2 h3,
   fun c h0 h1 h2 h3 => by
    have hp : par i ≠ i := by unfold par; omega
    have hc : c ≠ i := by rintro rfl; unfold par at h2; omega
    rw [e _ (by unfold par at *; omega) hp, e _ h1 hc]; exact h.over c h0 h1 h2 h3⟩
theorem up_step {n : Nat} {g : Nat → KT} {j : Nat} (h : ExceptP n g j) (k : KidsP n g j) (hj : 0 < j) (hn : j < n) (hl : klt (g j) (g (par j)) = true) :
    ExceptP n (swf g (par j) j) (par j) ∧ KidsP n (swf g (par j) j) (par j) := by
  have hpj : par j < j := by unfold par; omega
  refine ⟨⟨fun c h0 h1 h2 h3 => ?_, fun c h0 h1 h2 h3 => ?_⟩, fun c h0 h1 h2 => ?_⟩
  · unfold swf
    rw [if_neg h3, if_neg h2]
    have hcj : c ≠ j := by rintro rfl; exact h3 rfl
    rw [if_neg hcj]
    by_cases e : par c = j
    · rw [if_pos e]; exact h.over c h0 h1 e hj
    · rw [if_neg e]; exact h.rest c h0 h1 hcj e
  · unfold swf
    have e1 : par (par j) ≠ j := by unfold par; omega
    have e2 : par (par j) ≠ par j := by unfold par at *; omega
    rw [if_neg e1, if_neg e2]
    have hpp : kle (g (par (par j))) (g (par j)) := h.rest _ h3 (by omega) (by omega) e1
    by_cases e : c = j
    · rw [if_pos e]; exact hpp
    · rw [if_neg e]
      have hc : c ≠ par j := by intro e'; rw [e'] at h2; exact e2 h2
      rw [if_neg hc]
      exact kle_trans hpp (by have := h.rest c h0 h1 e (by rw [h2]; omega); rwa [h2] at this)
  · unfold swf
    rw [if_neg (by omega : par j ≠ j), if_pos rfl]
    by_cases e : c = j
    · rw [if_pos e]; exact kle_of_lt hl
    · rw [if_neg e]
      have hc : c ≠ par j := by rintro rfl; unfold par at *; omega
      rw [if_neg hc]
      have := h.rest c h0 h1 e (by rw [h2]; omega)
      rw [h2] at this
      exact kle_trans (kle_of_lt hl) this
theorem up_stop {n : Nat} {g : Nat → KT} {j : Nat} (h : ExceptP n g j) (k : KidsP n g j) (hs : j = 0 ∨ klt (g j) (g (par j)) = false) : HeapP n g :=
  heap_of h k (fun h0 => by rcases hs with h1 | h1; omega; exact h1)
theorem down_step {n : Nat} {g : Nat → KT} {i i0 j : Nat} (h : ExceptP n g i) (hj0 : 0 < j) (hj : j < n) (hp : par j = i)
    (hmin : ∀ c, 0 < c → c < n → par c = i → kle (g j) (g c)) (hl : klt (g j) (g i) = true) (hpar : i ≠ i0 → ParP g i) :
    ExceptP n (swf g i j) j ∧ (j ≠ i0 → ParP (swf g i j) j) := by
  have hij : i < j := by unfold par at hp; omega
  refine ⟨⟨fun c h0 h1 h2 h3 => ?_, fun c h0 h1 h2 _ => ?_⟩, fun _ _ => ?_⟩
  · unfold swf
    rw [if_neg h3, if_neg h2]
    by_cases e : c = i
    · subst e
      rw [if_neg (by unfold par; omega), if_pos rfl]
      exact h.over j hj0 hj hp h0
    · rw [if_neg e]
      by_cases e2 : par c = i
      · rw [if_pos e2]; exact hmin c h0 h1 e2
      · rw [if_neg e2]; exact h.rest c h0 h1 e e2
  · unfold swf
    rw [hp, if_neg (by omega), if_pos rfl]
    have hcj : c ≠ j := by rintro rfl; unfold par at h2; omega
    have hci : c ≠ i := by rintro rfl; unfold par at h2; omega
    rw [if_neg hcj, if_neg hci]
    have := h.rest c h0 h1 hci (by rw [h2]; omega)
    rwa [h2] at this
  · unfold swf
    rw [hp, if_neg (by omega), if_pos rfl, if_pos rfl]
    exact kle_of_lt hl
structure It where
  blk : Nat
  key : ByteArray
  tm : Int
instance : Inhabited It := ⟨⟨0, ByteArray.empty, 0⟩⟩
abbrev It.kt (x : It) : KT := (x.key, x.tm)
def ith (L : List It) (i : Nat) : It := L.getD i default
def gk (L : List It) (i : Nat) : KT := (ith L i).kt
abbrev blks (L : List It) : List Nat := L.map It.blk
def swl (L : List It) (i j : Nat) : List It := (L.set i (ith L j)).set j (ith L i)
theorem swl_length (L : List It) (i j : Nat) : (swl L i j).length = L.length := by simp [swl]
theorem ith_swl {L : List It} {i j : Nat} (hi : i < L.length) (hj : j < L.length) (k : Nat) :
    ith (swl L i j) k = if k = j then ith L i else if k = i then ith L j else ith L k := by
  simp only [swl, ith, List.getD_eq_getElem?_getD, List.getElem?_set, List.length_set]
  by_cases h1 : k = j
  · subst h1; simp [hj]
  · by_cases h2 : k = i
    · subst h2; simp [h1, Ne.symm h1, hi]
    · simp [h1, h2, Ne.symm h1, Ne.symm h2]
theorem gk_swl {L : List It} {i j : Nat} (hi : i < L.length) (hj : j < L.length) : gk (swl L i j) = swf (gk L) i j := by
  funext k
  unfold gk swf
  rw [ith_swl hi hj]
  split
  · rfl
  · split <;> rfl
theorem swl_perm {L : List It} {i j : Nat} (hi : i < L.length) (hj : j < L.length) : (swl L i j).Perm L := by
  have := List.set_set_perm («as» := L) hi hj
  simpa [swl, ith, List.getD_eq_getElem?_getD, hi, hj] using this
theorem ith_lt {L : List It} {i : Nat} (h : i < L.length) : ith L i = L[i] := by simp [ith, h]
structure HS (w : World) (bq ba n cap : Nat) (L : List It) : Prop where
  cell : w.cell? ⟨bq, 0, none⟩ = some (.slice (some ⟨ba, 0, none⟩) n cap)
  len : n = L.length
  room : n ≤ cap
  capm : cap ≤ maxLen
  most : n ≤ 1024
  nodup : (bq :: ba :: blks L).Nodup
  arr : ∃ C, w.heap[ba]? = some (.cells C 195 (0, 0)) ∧ C.size = cap ∧ ∀ i, i < n → C[i]? = some (.pointer (some ⟨(ith L i).blk, 0, none⟩))
  item : ∀ i, i < n → ∃ T, w.heap[(ith L i).blk]? = some (.cells #[.string (ith L i).key, .int .i64 (ith L i).tm, .int .i64 i] T (0, 0))
theorem ith_mem {L : List It} {i : Nat} (h : i < L.length) : ith L i ∈ L := by
  rw [ith_lt h]; exact List.getElem_mem h
theorem blk_mem {L : List It} {i : Nat} (h : i < L.length) : (ith L i).blk ∈ blks L := List.mem_map_of_mem (ith_mem h)
theorem nodup_ne {α : Type} : ∀ {l : List α}, l.Nodup → ∀ {i j : Nat} (hi : i < l.length) (hj : j < l.length), i ≠ j → l[i] ≠ l[j]
  | [], _, i, j, hi, _, _ => by simp at hi
  | x :: l, hn, i, j, hi, hj, hij => by
    obtain ⟨h1, h2⟩ := List.nodup_cons.1 hn
    cases i with
    | zero =>
      cases j with
      | zero => omega
      | succ j => intro e; simp at e; exact h1 (e ▸ List.getElem_mem _)
    | succ i =>
      cases j with
      | zero => intro e; simp at e; exact h1 (e ▸ List.getElem_mem _)
      | succ j => simpa using nodup_ne h2 (by simpa using hi) (by simpa using hj) (by omega)
theorem blk_ne {L : List It} (hn : (blks L).Nodup) {i j : Nat} (hi : i < L.length) (hj : j < L.length) (hij : i ≠ j) : (ith L i).blk ≠ (ith L j).blk := by
  have := nodup_ne hn (i := i) (j := j) (by simpa using hi) (by simpa using hj) hij
  simpa [ith_lt hi, ith_lt hj] using this
theorem HS.nb {w : World} {bq ba n cap : Nat} {L : List It} (h : HS w bq ba n cap L) : (blks L).Nodup := by
  have := h.nodup; simp at this; exact this.2.2
theorem HS.qa {w : World} {bq ba n cap : Nat} {L : List It} (h : HS w bq ba n cap L) : bq ≠ ba := by
  have := h.nodup; simp at this; exact this.1.1
theorem HS.ab {w : World} {bq ba n cap : Nat} {L : List It} (h : HS w bq ba n cap L) : ba ∉ blks L := by
  have := (List.nodup_cons.1 (List.nodup_cons.1 h.nodup).2).1; exact this
theorem HS.qb {w : World} {bq ba n cap : Nat} {L : List It} (h : HS w bq ba n cap L) : bq ∉ blks L := by
  have := (List.nodup_cons.1 h.nodup).1; intro h'; exact this (List.mem_cons_of_mem _ h')
theorem HS.ptr {w : World} {bq ba n cap : Nat} {L : List It} (h : HS w bq ba n cap L) {i : Nat} (hi : i < n) : w.cell? ⟨ba, i, none⟩ = some (.pointer (some ⟨(ith L i).blk, 0, none⟩)) := by
  obtain ⟨C, hb, _, hc⟩ := h.arr; exact cell_of hb (hc i hi)
theorem HS.afree {w : World} {bq ba n cap : Nat} {L : List It} (h : HS w bq ba n cap L) (i : Nat) : w.frozen? ⟨ba, i, none⟩ = false := by
  obtain ⟨C, hb, _, hc⟩ := h.arr; exact free_of hb
theorem HS.key {w : World} {bq ba n cap : Nat} {L : List It} (h : HS w bq ba n cap L) {i : Nat} (hi : i < n) : w.cell? ⟨(ith L i).blk, 0, none⟩ = some (.string (ith L i).key) := by
  obtain ⟨T, hb⟩ := h.item i hi; exact cell_of hb rfl
theorem HS.tm {w : World} {bq ba n cap : Nat} {L : List It} (h : HS w bq ba n cap L) {i : Nat} (hi : i < n) : w.cell? ⟨(ith L i).blk, 1, none⟩ = some (.int .i64 (ith L i).tm) := by
  obtain ⟨T, hb⟩ := h.item i hi; exact cell_of hb rfl
theorem HS.ix {w : World} {bq ba n cap : Nat} {L : List It} (h : HS w bq ba n cap L) {i : Nat} (hi : i < n) : w.cell? ⟨(ith L i).blk, 2, none⟩ = some (.int .i64 i) := by
  obtain ⟨T, hb⟩ := h.item i hi; exact cell_of hb rfl
theorem HS.ifree {w : World} {bq ba n cap : Nat} {L : List It} (h : HS w bq ba n cap L) {i : Nat} (hi : i < n) (o : Nat) : w.frozen? ⟨(ith L i).blk, o, none⟩ = false := by
  obtain ⟨T, hb⟩ := h.item i hi; exact free_of hb
theorem HS.drewN {w : World} {bq ba n cap : Nat} {L : List It} (h : HS w bq ba n cap L) (m : Nat) : HS (w.drewN m) bq ba n cap L :=
  ⟨h.cell, h.len, h.room, h.capm, h.most, h.nodup, h.arr, h.item⟩
theorem HS.swap {w : World} {bq ba n cap : Nat} {L : List It} (h : HS w bq ba n cap L) {i j : Nat} (hi : i < n) (hj : j < n) (hij : i ≠ j) :
    HS ((((w.setCell ⟨ba, i, none⟩ (.pointer (some ⟨(ith L j).blk, 0, none⟩))).setCell ⟨ba, j, none⟩ (.pointer (some ⟨(ith L i).blk, 0, none⟩))).setCell
      ⟨(ith L j).blk, 2, none⟩ (.int .i64 i)).setCell ⟨(ith L i).blk, 2, none⟩ (.int .i64 j)) bq ba n cap (swl L i j) := by
  have hl := h.len
  have hiL : i < L.length := by omega
  have hjL : j < L.length := by omega
  have hp := swl_perm hiL hjL
  have ai : ba ≠ (ith L i).blk := fun e => h.ab (e ▸ blk_mem hiL)
  have aj : ba ≠ (ith L j).blk := fun e => h.ab (e ▸ blk_mem hjL)
  have qi : bq ≠ (ith L i).blk := fun e => h.qb (e ▸ blk_mem hiL)
  have qj : bq ≠ (ith L j).blk := fun e => h.qb (e ▸ blk_mem hjL)
  have ij : (ith L i).blk ≠ (ith L j).blk := blk_ne h.nb hiL hjL hij
  obtain ⟨C, hb, hC, hc⟩ := h.arr
  refine ⟨?_, by rw [swl_length]; exact hl, h.room, h.capm, h.most, ?_, ?_, ?_⟩
  · rw [World.cell?_setCell_other _ _ _ _ (by simp), World.cell?_setCell_other _ _ _ _ (by simp),
      World.cell?_setCell_other _ _ _ _ (by simp [h.qa.symm]), World.cell?_setCell_other _ _ _ _ (by simp [h.qa.symm])]
    exact h.cell
  · exact ((((hp.map It.blk).cons ba).cons bq).nodup_iff).2 h.nodup
  · refine ⟨(C.setIfInBounds i (.pointer (some ⟨(ith L j).blk, 0, none⟩))).setIfInBounds j (.pointer (some ⟨(ith L i).blk, 0, none⟩)), ?_, by simp [hC], fun k hk => ?_⟩
    · rw [hp_setCell_other (by exact ai), hp_setCell_other (by exact aj)]
      exact hp_setCell_same (hp_setCell_same hb)
    · rw [ith_swl hiL hjL]
      have hkC : k < C.size := by have := h.room; omega
      simp only [Array.getElem?_setIfInBounds, Array.size_setIfInBounds]
      by_cases e1 : k = j
      · subst e1; simp [hkC]
      · by_cases e2 : k = i
        · subst e2; simp [hkC, Ne.symm e1, e1]
        · simp [Ne.symm e1, Ne.symm e2, e1, e2]; exact hc k hk
  · intro k hk
    have hkL : k < L.length := by omega
    rw [ith_swl hiL hjL]
    by_cases e1 : k = j
    · subst e1
      obtain ⟨Ti, hbi⟩ := h.item i hi
      refine ⟨Ti, ?_⟩
      rw [if_pos rfl, hp_setCell_same (C := #[.string (ith L i).key, .int .i64 (ith L i).tm, .int .i64 i]) (T := Ti) (fz := (0, 0))]
      · simp
      · rw [hp_setCell_other (by exact ij), hp_setCell_other (by exact ai.symm), hp_setCell_other (by exact ai.symm)]; exact hbi
    · by_cases e2 : k = i
      · subst e2
        obtain ⟨Tj, hbj⟩ := h.item j hj
        refine ⟨Tj, ?_⟩
        rw [if_neg e1, if_pos rfl, hp_setCell_other (by exact ij.symm), hp_setCell_same (C := #[.string (ith L j).key, .int .i64 (ith L j).tm, .int .i64 j]) (T := Tj) (fz := (0, 0))]
        · simp
        · rw [hp_setCell_other (by exact aj.symm), hp_setCell_other (by exact aj.symm)]; exact hbj
      · obtain ⟨Tk, hbk⟩ := h.item k hk
        refine ⟨Tk, ?_⟩
        have ak : ba ≠ (ith L k).blk := fun e => h.ab (e ▸ blk_mem hkL)
        rw [if_neg e1, if_neg e2, hp_setCell_other (by exact blk_ne h.nb hkL hiL e2), hp_setCell_other (by exact blk_ne h.nb hkL hjL e1), hp_setCell_other (by exact ak.symm), hp_setCell_other (by exact ak.symm)]
        exact hbk
abbrev ptrV (x : It) : Value := .pointer (some ⟨x.blk, 0, none⟩)
theorem HS.owns {w : World} {bq ba n cap : Nat} {L : List It} (h : HS w bq ba n cap L) : w.ownsRow 0 195 1 (.slice (some ⟨ba, 0, none⟩) n cap) n (L.map ptrV) := by
  obtain ⟨C, hb, hC, hc⟩ := h.arr
  have hl := h.len
  refine ⟨by simp [hl], Or.inr ⟨ba, cap, C, rfl, Nat.zero_le _, hb, h.room, h.capm, by omega, ?_⟩⟩
  have hr := h.room
  apply List.ext_getElem?
  intro i
  rw [List.getElem?_take]
  by_cases hi : i < n
  · rw [if_pos (by omega)]
    have := hc i hi
    rw [Array.getElem?_toList, this, List.getElem?_map, List.getElem?_eq_getElem (by omega), Option.map_some, ith_lt (by omega)]
  · rw [if_neg (by omega), List.getElem?_eq_none (by simp; omega)]
theorem HS.of_owns {w : World} {bq ba n cap : Nat} {L : List It} (ho : w.ownsRow 0 195 1 (.slice (some ⟨ba, 0, none⟩) n cap) n (L.map ptrV))
    (hc : w.cell? ⟨bq, 0, none⟩ = some (.slice (some ⟨ba, 0, none⟩) n cap)) (hm : n ≤ 1024) (hn : (bq :: ba :: blks L).Nodup)
    (hi : ∀ i, i < n → ∃ T, w.heap[(ith L i).blk]? = some (.cells #[.string (ith L i).key, .int .i64 (ith L i).tm, .int .i64 i] T (0, 0))) : HS w bq ba n cap L := by
  obtain ⟨h1, h2⟩ := ho
  have hl : n = L.length := by simpa using h1.symm
  rcases h2 with ⟨h2, _⟩ | ⟨g, cap', cur, h2, _, hb, hr, hcm, hs, ht⟩
  · cases h2
  · simp only [Value.slice.injEq, Option.some.injEq, Addr.mk.injEq, and_true, true_and] at h2
    obtain ⟨rfl, rfl⟩ := h2
    refine ⟨hc, hl, hr, hcm, hm, hn, ⟨cur, hb, by omega, fun i hi => ?_⟩, hi⟩
    have h3 : (cur.toList.take (n * 1))[i]? = (L.map ptrV)[i]? := by rw [ht]
    have h4 : i < L.length := by omega
    rw [List.getElem?_take, if_pos (by omega), Array.getElem?_toList] at h3
    rw [h3, List.getElem?_map, List.getElem?_eq_getElem h4, Option.map_some, ith_lt h4]
theorem toList_data (s : ByteArray) : s.toList = s.data.toList := ByteArray.toList_eq s
section
variable {w : World} {bl n cap i j bi bj : Nat} {ki kj : ByteArray} {ti tj : Int}
theorem less_lt (hi : i < n) (hj : j < n) (hn : n ≤ 4096)
    (ci : w.cell? ⟨bl, i, none⟩ = some (.pointer (some ⟨bi, 0, none⟩))) (cj : w.cell? ⟨bl, j, none⟩ = some (.pointer (some ⟨bj, 0, none⟩)))
    (ki1 : w.cell? ⟨bi, 1, none⟩ = some (.int .i64 ti)) (kj1 : w.cell? ⟨bj, 1, none⟩ = some (.int .i64 tj)) (h : ti < tj) :
    Calls Tryz.prog 188 #[.slice (some ⟨bl,0,none⟩) n cap, .int .i64 i, .int .i64 j] w fun e w' => e = .returned (.bool true) ∧ ∃ m, w' = w.drewN m := by
  go_enter Tryz.func188, Tryz.ntmps188
  go_wp2_with fail
  go_quiet (fail)
  go_wp2_with fail
  go_ret
  exact ⟨rfl, _, rfl⟩
theorem less_gt (hi : i < n) (hj : j < n) (hn : n ≤ 4096)
    (ci : w.cell? ⟨bl, i, none⟩ = some (.pointer (some ⟨bi, 0, none⟩))) (cj : w.cell? ⟨bl, j, none⟩ = some (.pointer (some ⟨bj, 0, none⟩)))
    (ki1 : w.cell? ⟨bi, 1, none⟩ = some (.int .i64 ti)) (kj1 : w.cell? ⟨bj, 1, none⟩ = some (.int .i64 tj)) (h : tj < ti) :
    Calls Tryz.prog 188 #[.slice (some ⟨bl,0,none⟩) n cap, .int .i64 i, .int .i64 j] w fun e w' => e = .returned (.bool false) ∧ ∃ m, w' = w.drewN m := by
  have h1 : decide (ti < tj) = false := by simp; omega
  have h2 : (ti == tj) = false := by simp; omega
  go_enter Tryz.func188, Tryz.ntmps188
  go_wp2_with fail
  go_quiet (fail)
  go_wp2_with fail
  go_ret
  exact ⟨rfl, _, rfl⟩
theorem less_eq (hi : i < n) (hj : j < n) (hn : n ≤ 4096)
    (ci : w.cell? ⟨bl, i, none⟩ = some (.pointer (some ⟨bi, 0, none⟩))) (cj : w.cell? ⟨bl, j, none⟩ = some (.pointer (some ⟨bj, 0, none⟩)))
    (ki1 : w.cell? ⟨bi, 1, none⟩ = some (.int .i64 ti)) (kj1 : w.cell? ⟨bj, 1, none⟩ = some (.int .i64 ti))
    (ki0 : w.cell? ⟨bi, 0, none⟩ = some (.string ki)) (kj0 : w.cell? ⟨bj, 0, none⟩ = some (.string kj)) :
    Calls Tryz.prog 188 #[.slice (some ⟨bl,0,none⟩) n cap, .int .i64 i, .int .i64 j] w fun e w' => e = .returned (.bool (Op.bytesLess ki.toList kj.toList)) ∧ ∃ m, w' = w.drewN m := by
  go_enter Tryz.func188, Tryz.ntmps188
  go_wp2_with fail
  go_quiet (fail)
  go_wp2_with fail
  go_ret
  exact ⟨rfl, _, rfl⟩
theorem swap_raw (hi : i < n) (hj : j < n) (hij : i ≠ j) (hn : n ≤ 4096)
    (ci : w.cell? ⟨bl, i, none⟩ = some (.pointer (some ⟨bi, 0, none⟩))) (cj : w.cell? ⟨bl, j, none⟩ = some (.pointer (some ⟨bj, 0, none⟩)))
    (fi : w.frozen? ⟨bl, i, none⟩ = false) (fj : w.frozen? ⟨bl, j, none⟩ = false)
    (xi : w.cell? ⟨bi, 2, none⟩ = some (.int .i64 ti)) (xj : w.cell? ⟨bj, 2, none⟩ = some (.int .i64 tj))
    (gi : w.frozen? ⟨bi, 2, none⟩ = false) (gj : w.frozen? ⟨bj, 2, none⟩ = false) (nij : bi ≠ bj) (ni : bl ≠ bi) (nj : bl ≠ bj) :
    Calls Tryz.prog 189 #[.slice (some ⟨bl,0,none⟩) n cap, .int .i64 i, .int .i64 j] w fun e w' => e = .returned (.tuple #[]) ∧
      ∃ m, w' = ((((w.setCell ⟨bl, i, none⟩ (.pointer (some ⟨bj, 0, none⟩))).setCell ⟨bl, j, none⟩ (.pointer (some ⟨bi, 0, none⟩))).setCell ⟨bj, 2, none⟩ (.int .i64 i)).setCell ⟨bi, 2, none⟩ (.int .i64 j)).drewN m := by
  have a1 : (⟨bl, i, none⟩ : Addr) ≠ ⟨bl, j, none⟩ := fun e => hij (Addr.mk.inj e).2.1
  have a2 : (⟨bl, j, none⟩ : Addr) ≠ ⟨bl, i, none⟩ := fun e => hij (Addr.mk.inj e).2.1.symm
  have a3 : (⟨bi, 2, none⟩ : Addr) ≠ ⟨bj, 2, none⟩ := fun e => nij (Addr.mk.inj e).1
  have a4 : (⟨bj, 2, none⟩ : Addr) ≠ ⟨bi, 2, none⟩ := fun e => nij (Addr.mk.inj e).1.symm
  have a5 : (⟨bl, i, none⟩ : Addr) ≠ ⟨bi, 2, none⟩ := fun e => ni (Addr.mk.inj e).1
  have a6 : (⟨bl, i, none⟩ : Addr) ≠ ⟨bj, 2, none⟩ := fun e => nj (Addr.mk.inj e).1
  have a7 : (⟨bl, j, none⟩ : Addr) ≠ ⟨bi, 2, none⟩ := fun e => ni (Addr.mk.inj e).1
  have a8 : (⟨bl, j, none⟩ : Addr) ≠ ⟨bj, 2, none⟩ := fun e => nj (Addr.mk.inj e).1
  go_enter Tryz.func189, Tryz.ntmps189
  go_wp2_with fail
  go_region
  go_wp2_with fail
  go_region
  go_wp2_with fail
  go_end0
  exact ⟨rfl, 2, rfl⟩
end
theorem m_Less0 (a : Addr) (w : World) : (method 346 198 (.pointer (some a)) "Less").run Tryz.prog w =
    (match w.cell? a with | some v => .ok (188, v) w | none => match w.farLoad Tryz.prog a false with | .ok (v, _) => .ok (188, v) w | .error h => .halt h w) := by kernel_rfl
theorem m_Less {a : Addr} {w : World} {v : Value} (h : w.cell? a = some v) : (method 346 198 (.pointer (some a)) "Less").run Tryz.prog w = .ok (188, v) w := by rw [m_Less0, h]
theorem m_Swap0 (a : Addr) (w : World) : (method 346 198 (.pointer (some a)) "Swap").run Tryz.prog w =
    (match w.cell? a with | some v => .ok (189, v) w | none => match w.farLoad Tryz.prog a false with | .ok (v, _) => .ok (189, v) w | .error h => .halt h w) := by kernel_rfl
theorem m_Swap {a : Addr} {w : World} {v : Value} (h : w.cell? a = some v) : (method 346 198 (.pointer (some a)) "Swap").run Tryz.prog w = .ok (189, v) w := by rw [m_Swap0, h]
theorem m_Len0 (a : Addr) (w : World) : (method 346 198 (.pointer (some a)) "Len").run Tryz.prog w =
    (match w.cell? a with | some v => .ok (187, v) w | none => match w.farLoad Tryz.prog a false with | .ok (v, _) => .ok (187, v) w | .error h => .halt h w) := by kernel_rfl
theorem m_Len {a : Addr} {w : World} {v : Value} (h : w.cell? a = some v) : (method 346 198 (.pointer (some a)) "Len").run Tryz.prog w = .ok (187, v) w := by rw [m_Len0, h]
theorem m_Pop (a : Addr) (w : World) : (method 346 198 (.pointer (some a)) "Pop").run Tryz.prog w = .ok (194, .pointer (some a)) w := by kernel_rfl
theorem m_Push (a : Addr) (w : World) : (method 346 198 (.pointer (some a)) "Push").run Tryz.prog w = .ok (195, .pointer (some a)) w := by kernel_rfl
section
variable {w : World} {bq ba n cap : Nat} {L : List It}
theorem less_hs (h : HS w bq ba n cap L) {i j : Nat} (hi : i < n) (hj : j < n) :
    Calls Tryz.prog 188 #[.slice (some ⟨ba,0,none⟩) n cap, .int .i64 i, .int .i64 j] w fun e w' => e = .returned (.bool (klt (gk L i) (gk L j))) ∧ ∃ m, w' = w.drewN m := by
  have hm := h.most
  rcases Int.lt_trichotomy (ith L i).tm (ith L j).tm with h1 | h1 | h1
  · rw [klt_of_lt (a := gk L i) (b := gk L j) h1]
    exact less_lt hi hj (by omega) (h.ptr hi) (h.ptr hj) (h.tm hi) (h.tm hj) h1
  · rw [klt_of_eq (a := gk L i) (b := gk L j) h1]
    have := less_eq (cap := cap) hi hj (by omega) (h.ptr hi) (h.ptr hj) (h.tm hi) (by rw [h1]; exact h.tm hj) (h.key hi) (h.key hj)
    rw [toList_data, toList_data] at this
    exact this
  · rw [klt_of_gt (a := gk L i) (b := gk L j) h1]
    exact less_gt hi hj (by omega) (h.ptr hi) (h.ptr hj) (h.tm hi) (h.tm hj) h1
theorem swap_hs (h : HS w bq ba n cap L) {i j : Nat} (hi : i < n) (hj : j < n) (hij : i ≠ j) :
    Calls Tryz.prog 189 #[.slice (some ⟨ba,0,none⟩) n cap, .int .i64 i, .int .i64 j] w fun e w' => e = .returned (.tuple #[]) ∧ HS w' bq ba n cap (swl L i j) ∧ Mod (ba :: blks L) w w' := by
  have hm := h.most
  have hl := h.len
  have hiL : i < L.length := by omega
  have hjL : j < L.length := by omega
  refine (swap_raw hi hj hij (by omega) (h.ptr hi) (h.ptr hj) (h.afree i) (h.afree j) (h.ix hi) (h.ix hj) (h.ifree hi 2) (h.ifree hj 2) (blk_ne h.nb hiL hjL hij)
    (fun e => h.ab (e ▸ blk_mem hiL)) (fun e => h.ab (e ▸ blk_mem hjL))).mono fun e w' ⟨he, m, hw⟩ => ?_
  subst hw
  refine ⟨he, (h.swap hi hj hij).drewN m, ?_⟩
  have m1 := blk_mem hiL
  have m2 := blk_mem hjL
  exact (((((Mod.refl _ _).setCell (Or.inl (by simp)) _).setCell (Or.inl (by simp)) _).setCell (Or.inl (List.mem_cons_of_mem _ m2)) _).setCell (Or.inl (List.mem_cons_of_mem _ m1)) _).drewN m
end
structure HP (bq ba n cap N : Nat) (L : List It) (w : World) (L' : List It) (w' : World) : Prop where
  hs : HS w' bq ba n cap L'
  perm : L'.Perm L
  mod : Mod (ba :: blks L) w w'
  above : ∀ k, N ≤ k → ith L' k = ith L k
theorem HP.refl {bq ba n cap N : Nat} {L : List It} {w : World} (h : HS w bq ba n cap L) : HP bq ba n cap N L w L w := ⟨h, List.Perm.refl _, Mod.refl _ _, fun _ _ => rfl⟩
theorem HP.drewN {bq ba n cap N : Nat} {L L' : List It} {w w' : World} (h : HP bq ba n cap N L w L' w') (m : Nat) : HP bq ba n cap N L w L' (w'.drewN m) :=
  ⟨h.hs.drewN m, h.perm, h.mod.drewN m, h.above⟩
theorem HP.swap {bq ba n cap N : Nat} {L L' : List It} {w w' w2 : World} (h : HP bq ba n cap N L w L' w') {i j : Nat} (hi : i < N) (hj : j < N) (hN : N ≤ n)
    (h2 : HS w2 bq ba n cap (swl L' i j)) (m : Mod (ba :: blks L') w' w2) : HP bq ba n cap N L w (swl L' i j) w2 := by
  have hl := h.hs.len
  refine ⟨h2, (swl_perm (by omega) (by omega)).trans h.perm, h.mod.trans m (fun x hx => Or.inl ?_), fun k hk => ?_⟩
  · rcases List.mem_cons.1 hx with rfl | hx
    · simp
    · exact List.mem_cons_of_mem _ ((h.perm.map It.blk).mem_iff.1 hx)
  · rw [ith_swl (by omega) (by omega), if_neg (by omega), if_neg (by omega)]; exact h.above k hk
theorem less_at {w : World} {bq ba n cap : Nat} {L : List It} (h : HS w bq ba n cap L) (i j : Nat) {x y : Int} (hx : x = i) (hy : y = j) (hi : i < n) (hj : j < n) :
    Calls Tryz.prog 188 #[.slice (some ⟨ba,0,none⟩) n cap, .int .i64 x, .int .i64 y] w fun e w' => e = .returned (.bool (klt (gk L i) (gk L j))) ∧ ∃ m, w' = w.drewN m := by
  subst hx; subst hy; exact less_hs h hi hj
def SwapPost (bq ba n cap i j : Nat) (L : List It) (w : World) (e : Ending) (w' : World) : Prop := e = .returned (.tuple #[]) ∧ HS w' bq ba n cap (swl L i j) ∧ Mod (ba :: blks L) w w'
theorem swap_at {w : World} {bq ba n cap : Nat} {L : List It} (h : HS w bq ba n cap L) (i j : Nat) {x y : Int} (hx : x = i) (hy : y = j) (hi : i < n) (hj : j < n) (hij : i ≠ j) :
    Calls Tryz.prog 189 #[.slice (some ⟨ba,0,none⟩) n cap, .int .i64 x, .int .i64 y] w (SwapPost bq ba n cap i j L w) := by
  subst hx; subst hy; exact swap_hs h hi hj hij
def UpRel (bq ba n cap N : Nat) (L : List It) (w : World) (v : Value) (wr : World) : Prop :=
  ∃ (k : Nat) (L' : List It), v = .int .i64 k ∧ k < N ∧ HP bq ba n cap N L w L' wr ∧ ExceptP N (gk L') k ∧ KidsP N (gk L') k
def UpPost (bq ba n cap N : Nat) (L : List It) (w : World) (e : Ending) (w' : World) : Prop :=
  e = .returned (.tuple #[]) ∧ ∃ L', HP bq ba n cap N L w L' w' ∧ HeapP N (gk L')
theorem up_hs {w : World} {bq ba n cap N : Nat} {L : List It} (h : HS w bq ba n cap L) (hN : N ≤ n) (j : Nat) (hj : j < N) (hx : ExceptP N (gk L) j) (hk : KidsP N (gk L) j) :
    Calls Tryz.prog 162 #[.iface 198 (.pointer (some ⟨bq, 0, none⟩)), .int .i64 j] w (UpPost bq ba n cap N L w) := by
  have hm := h.most
  go_enter Tryz.func162, Tryz.ntmps162
  go_wp2_with fail
  go_loopw [1] (UpRel bq ba n cap N L w) (fun v _ => (intOf v).toNat)
  case atStart => exact ⟨j, L, rfl, hj, HP.refl h, hx, hk⟩
  case round =>
    obtain ⟨k, L', rfl, hkN, hp, hx', hk'⟩ := hrel
    clear hx hk h hj j
    by_cases hk0 : k = 0
    · subst hk0
      have E : UpPost bq ba n cap N L w (.returned (.tuple #[])) wr := ⟨rfl, L', hp, up_stop hx' hk' (Or.inl rfl)⟩
      go_wp2_with fail
      go_end0
      exact E
    · have h1 : (((k : Int) - 1) / 2 == (k : Int)) = false := by simp; omega
      have h2 : (0 : Int) ≤ (k : Int) - 1 := by omega
      have hm1 := m_Less hp.hs.cell
      cases hb : klt (gk L' k) (gk L' (par k)) with
      | false =>
        have cl := less_at hp.hs k (par k) rfl (x := (k : Int)) (y := ((k : Int) - 1) / 2) (by unfold par; omega) (by omega) (by unfold par; omega)
        rw [hb] at cl
        have E : ∀ m, UpPost bq ba n cap N L w (.returned (.tuple #[])) (wr.drewN m) := fun m => ⟨rfl, L', hp.drewN m, up_stop hx' hk' (Or.inr hb)⟩
        clear hb
        go_wp2_with fail
        refine cl.mono ?_
        rintro e w2 ⟨rfl, m, rfl⟩
        go_wp2_with fail
        go_end0
        exact E m
      | true =>
        have cl := less_at hp.hs k (par k) rfl (x := (k : Int)) (y := ((k : Int) - 1) / 2) (by unfold par; omega) (by omega) (by unfold par; omega)
        rw [hb] at cl
        have hpk : par k < k := by unfold par; omega
        have cs : ∀ m, Calls Tryz.prog 189 #[.slice (some ⟨ba,0,none⟩) n cap, .int .i64 (((k : Int) - 1) / 2), .int .i64 k] (wr.drewN m) (SwapPost bq ba n cap (par k) k L' (wr.drewN m)) :=
          fun m => swap_at (hp.drewN m).hs (par k) k (by unfold par; omega) rfl (by omega) (by omega) (by omega)
        have hm2 : ∀ m, (method 346 198 (.pointer (some ⟨bq, 0, none⟩)) "Swap").run Tryz.prog (wr.drewN m) = .ok (189, .slice (some ⟨ba, 0, none⟩) n cap) (wr.drewN m) := fun m => m_Swap (hp.drewN m).hs.cell
        have E : ∀ m w2, SwapPost bq ba n cap (par k) k L' (wr.drewN m) (.returned (.tuple #[])) w2 → UpRel bq ba n cap N L w (.int .i64 (((k : Int) - 1) / 2)) w2 := by
          rintro m w2 ⟨_, h1, h2⟩
          have hl := hp.hs.len
          have hu := up_step hx' hk' (by omega) hkN hb
          rw [← gk_swl (by omega) (by omega)] at hu
          exact ⟨par k, swl L' (par k) k, by simp only [par]; congr 1; omega, by omega, (hp.drewN m).swap (by omega) hkN hN h1 h2, hu.1, hu.2⟩
        have E := Lib.hid E
        have cs := Lib.hid cs
        clear hb
        go_wp2_with fail
        refine cl.mono ?_
        rintro e w2 ⟨rfl, m, rfl⟩
        go_wp2_with fail
        refine (cs.out m).mono ?_
        rintro e w3 hs
        obtain rfl : e = .returned (.tuple #[]) := hs.1
        have hs := E.out m w3 hs
        go_wp2_with fail
        go_roundw
        case rel => exact hs
        case measure => simp [intOf]; omega
def DownRel (bq ba n cap N i0 : Nat) (L : List It) (w : World) (v : Value) (wr : World) : Prop :=
  ∃ (k : Nat) (L' : List It), v = .int .i64 k ∧ i0 ≤ k ∧ k < N ∧ HP bq ba n cap N L w L' wr ∧ ExceptP N (gk L') k ∧ (k ≠ i0 → ParP (gk L') k)
def DownPost (bq ba n cap N i0 : Nat) (L : List It) (w : World) (e : Ending) (w' : World) : Prop :=
  ∃ (b : Bool) (L' : List It), e = .returned (.bool b) ∧ HP bq ba n cap N L w L' w' ∧ (b = true → HeapP N (gk L')) ∧ (b = false → ExceptP N (gk L') i0 ∧ KidsP N (gk L') i0)
theorem down_end {bq ba n cap N i0 k : Nat} {L L' : List It} {w wr : World} (hp : HP bq ba n cap N L w L' wr) (hx : ExceptP N (gk L') k) (hpar : k ≠ i0 → ParP (gk L') k) (hk : KidsP N (gk L') k) (hi : i0 ≤ k)
    {b : Bool} (hb : b = decide (i0 < k)) (m : Nat) : DownPost bq ba n cap N i0 L w (.returned (.bool b)) (wr.drewN m) := by
  refine ⟨_, L', rfl, hp.drewN m, fun h => ?_, fun h => ?_⟩
  · have : i0 < k := by rw [hb] at h; simpa using h
    exact heap_of hx hk (hpar (by omega))
  · have : k = i0 := by rw [hb] at h; simp at h; omega
    subst this; exact ⟨hx, hk⟩
theorem kids_none {N k : Nat} {g : Nat → KT} (h : N ≤ 2 * k + 1) : KidsP N g k := fun c h0 h1 h2 => by unfold par at h2; omega
theorem kids_stop {N k j : Nat} {g : Nat → KT} (hmin : ∀ c, 0 < c → c < N → par c = k → kle (g j) (g c)) (h : klt (g j) (g k) = false) : KidsP N g k :=
  fun c h0 h1 h2 => kle_trans h (hmin c h0 h1 h2)
theorem min_one {N k : Nat} {g : Nat → KT} (h : N ≤ 2 * k + 2) : ∀ c, 0 < c → c < N → par c = k → kle (g (2 * k + 1)) (g c) := fun c h0 h1 h2 => by
  obtain rfl : c = 2 * k + 1 := by unfold par at h2; omega
  exact kle_refl _
theorem min_left {N k : Nat} {g : Nat → KT} (h : klt (g (2 * k + 2)) (g (2 * k + 1)) = false) : ∀ c, 0 < c → c < N → par c = k → kle (g (2 * k + 1)) (g c) := fun c h0 h1 h2 => by
  have : c = 2 * k + 1 ∨ c = 2 * k + 2 := by unfold par at h2; omega
  rcases this with rfl | rfl
  · exact kle_refl _
  · exact h
theorem min_right {N k : Nat} {g : Nat → KT} (h : klt (g (2 * k + 2)) (g (2 * k + 1)) = true) : ∀ c, 0 < c → c < N → par c = k → kle (g (2 * k + 2)) (g c) := fun c h0 h1 h2 => by
  have : c = 2 * k + 1 ∨ c = 2 * k + 2 := by unfold par at h2; omega
  rcases this with rfl | rfl
  · exact kle_of_lt h
  · exact kle_refl _
theorem down_hs {w : World} {bq ba n cap N : Nat} {L : List It} (h : HS w bq ba n cap L) (hN : N ≤ n) (i0 : Nat) (hi0 : i0 < N) (hx : ExceptP N (gk L) i0) :
    Calls Tryz.prog 161 #[.iface 198 (.pointer (some ⟨bq, 0, none⟩)), .int .i64 i0, .int .i64 N] w (DownPost bq ba n cap N i0 L w) := by
  have hm := h.most
  go_enter Tryz.func161, Tryz.ntmps161
  go_wp2_with fail
  go_loopw [7] (DownRel bq ba n cap N i0 L w) (fun v _ => N - (intOf v).toNat)
  case atStart => exact ⟨i0, L, rfl, Nat.le_refl _, hi0, HP.refl h, hx, fun h => absurd rfl h⟩
  case round =>
    obtain ⟨k, L', rfl, hik, hkN, hp, hx', hpar⟩ := hrel
    clear hx h hi0
    have hlen1 : n ≤ L'.length := Nat.le_of_eq hp.hs.len
    have hlen2 : L'.length ≤ n := Nat.le_of_eq hp.hs.len.symm
    by_cases hk0 : N ≤ 2 * k + 1
    · have E := Lib.hid (fun b hb => down_end (b := b) hp hx' hpar (kids_none hk0) hik hb 0)
      have h1 : (N : Int) ≤ 2 * (k : Int) + 1 := by omega
      clear hp hx' hpar
      go_wp2_with fail
      go_ret
      exact E.out _ rfl
    · have h1 : ¬ (N : Int) ≤ 2 * (k : Int) + 1 := by omega
      have h1a : decide ((N : Int) ≤ 2 * (k : Int) + 1) = false := by simp; omega
      have h1b : decide (2 * (k : Int) + 1 < 0) = false := by simp; omega
      have hm1 : ∀ m, (method 346 198 (.pointer (some ⟨bq, 0, none⟩)) "Less").run Tryz.prog (wr.drewN m) = .ok (188, .slice (some ⟨ba, 0, none⟩) n cap) (wr.drewN m) := fun m => m_Less (hp.drewN m).hs.cell
      have hm0 := m_Less hp.hs.cell
      have hm2 : ∀ m, (method 346 198 (.pointer (some ⟨bq, 0, none⟩)) "Swap").run Tryz.prog (wr.drewN m) = .ok (189, .slice (some ⟨ba, 0, none⟩) n cap) (wr.drewN m) := fun m => m_Swap (hp.drewN m).hs.cell
      by_cases h2 : N ≤ 2 * k + 2
      · have h2a : decide (2 * (k : Int) + 1 + 1 < (N : Int)) = false := by simp; omega
        cases hb : klt (gk L' (2 * k + 1)) (gk L' k) with
        | false =>
          have cl := less_at hp.hs (2 * k + 1) k (x := 2 * (k : Int) + 1) (y := (k : Int)) (by omega) rfl (by omega) (by omega)
          rw [hb] at cl
          have hb0 := hb
          have E := Lib.hid (fun b hb m => down_end (b := b) hp hx' hpar (kids_stop (min_one h2) hb0) hik hb m)
          clear hb hb0
          have cl := Lib.hid cl
          clear hp hx' hpar
          go_wp2_with fail
          refine cl.out.mono ?_
          rintro e w2 ⟨rfl, m2, rfl⟩
          go_wp2_with fail
          go_ret
          exact E.out _ rfl _
        | true =>
          have cl := less_at hp.hs (2 * k + 1) k (x := 2 * (k : Int) + 1) (y := (k : Int)) (by omega) rfl (by omega) (by omega)
          rw [hb] at cl
          have cs : ∀ m, Calls Tryz.prog 189 #[.slice (some ⟨ba,0,none⟩) n cap, .int .i64 k, .int .i64 (2 * (k : Int) + 1)] (wr.drewN m) (SwapPost bq ba n cap k (2 * k + 1) L' (wr.drewN m)) :=
            fun m => swap_at (hp.drewN m).hs k (2 * k + 1) rfl (by omega) (by omega) (by omega) (by omega)
          have E : ∀ m w2, SwapPost bq ba n cap k (2 * k + 1) L' (wr.drewN m) (.returned (.tuple #[])) w2 → DownRel bq ba n cap N i0 L w (.int .i64 (2 * (k : Int) + 1)) w2 := by
            rintro m w2 ⟨_, g1, g2⟩
            have hu := down_step (j := 2 * k + 1) hx' (by omega) (by omega) (by unfold par; omega) (min_one h2) hb hpar
            rw [← gk_swl (by omega) (by omega)] at hu
            exact ⟨2 * k + 1, swl L' k (2 * k + 1), by congr 1, by omega, by omega, (hp.drewN m).swap (by omega) (by omega) hN g1 g2, hu.1, hu.2⟩
          have E := Lib.hid E
          have cs := Lib.hid cs
          clear hb
          have cl := Lib.hid cl
          clear hp hx' hpar
          go_wp2_with fail
          refine cl.out.mono ?_
          rintro e w2 ⟨rfl, m2, rfl⟩
          go_wp2_with fail
          refine (cs.out _).mono ?_
          rintro e w3 hs
          obtain rfl : e = .returned (.tuple #[]) := hs.1
          have hs := E.out _ w3 hs
          go_wp2_with fail
          go_roundw
          case rel => exact hs
          case measure => simp [intOf]; omega
      · have h2a : 2 * (k : Int) + 1 + 1 < (N : Int) := by omega
        have c1 := less_at hp.hs (2 * k + 2) (2 * k + 1) (x := 2 * (k : Int) + 1 + 1) (y := 2 * (k : Int) + 1) (by omega) (by omega) (by omega) (by omega)
        cases hb1 : klt (gk L' (2 * k + 2)) (gk L' (2 * k + 1)) with
        | false =>
          rw [hb1] at c1
          cases hb : klt (gk L' (2 * k + 1)) (gk L' k) with
          | false =>
            have cl : ∀ m, Calls Tryz.prog 188 #[.slice (some ⟨ba,0,none⟩) n cap, .int .i64 (2 * (k : Int) + 1), .int .i64 k] (wr.drewN m) fun e w' => e = .returned (.bool false) ∧ ∃ m', w' = (wr.drewN m).drewN m' := fun m => by
              have := less_at (hp.drewN m).hs (2 * k + 1) k (x := 2 * (k : Int) + 1) (y := (k : Int)) (by omega) rfl (by omega) (by omega)
              rwa [hb] at this
            have hb0 := hb
            have E := Lib.hid (fun b hb m => down_end (b := b) hp hx' hpar (kids_stop (min_left hb1) hb0) hik hb m)
            clear hb hb0
            have cl := Lib.hid cl
            clear hp hx' hpar hb1
            go_wp2_with fail
            refine c1.mono ?_
            rintro e w2 ⟨rfl, m1, rfl⟩
            go_wp2_with fail
            refine (cl.out m1).mono ?_
            rintro e w2 ⟨rfl, m2, rfl⟩
            go_wp2_with fail
            go_ret
            exact E.out _ rfl _
          | true =>
            have cl : ∀ m, Calls Tryz.prog 188 #[.slice (some ⟨ba,0,none⟩) n cap, .int .i64 (2 * (k : Int) + 1), .int .i64 k] (wr.drewN m) fun e w' => e = .returned (.bool true) ∧ ∃ m', w' = (wr.drewN m).drewN m' := fun m => by
              have := less_at (hp.drewN m).hs (2 * k + 1) k (x := 2 * (k : Int) + 1) (y := (k : Int)) (by omega) rfl (by omega) (by omega)
              rwa [hb] at this
            have cs : ∀ m, Calls Tryz.prog 189 #[.slice (some ⟨ba,0,none⟩) n cap, .int .i64 k, .int .i64 (2 * (k : Int) + 1)] (wr.drewN m) (SwapPost bq ba n cap k (2 * k + 1) L' (wr.drewN m)) :=
              fun m => swap_at (hp.drewN m).hs k (2 * k + 1) rfl (by omega) (by omega) (by omega) (by omega)
            have E : ∀ m w2, SwapPost bq ba n cap k (2 * k + 1) L' (wr.drewN m) (.returned (.tuple #[])) w2 → DownRel bq ba n cap N i0 L w (.int .i64 (2 * (k : Int) + 1)) w2 := by
              rintro m w2 ⟨_, g1, g2⟩
              have hu := down_step (j := 2 * k + 1) hx' (by omega) (by omega) (by unfold par; omega) (min_left hb1) hb hpar
              rw [← gk_swl (by omega) (by omega)] at hu
              exact ⟨2 * k + 1, swl L' k (2 * k + 1), by congr 1, by omega, by omega, (hp.drewN m).swap (by omega) (by omega) hN g1 g2, hu.1, hu.2⟩
            have E := Lib.hid E
            have cs := Lib.hid cs
            clear hb
            have cl := Lib.hid cl
            clear hp hx' hpar hb1
            go_wp2_with fail
            refine c1.mono ?_
            rintro e w2 ⟨rfl, m1, rfl⟩
            go_wp2_with fail
            refine (cl.out m1).mono ?_
            rintro e w2 ⟨rfl, m2, rfl⟩
            go_wp2_with fail
            refine (cs.out _).mono ?_
            rintro e w3 hs
            obtain rfl : e = .returned (.tuple #[]) := hs.1
            have hs := E.out _ w3 hs
            go_wp2_with fail
            go_roundw
            case rel => exact hs
            case measure => simp [intOf]; omega
        | true =>
          rw [hb1] at c1
          cases hb : klt (gk L' (2 * k + 2)) (gk L' k) with
          | false =>
            have cl : ∀ m, Calls Tryz.prog 188 #[.slice (some ⟨ba,0,none⟩) n cap, .int .i64 (2 * (k : Int) + 1 + 1), .int .i64 k] (wr.drewN m) fun e w' => e = .returned (.bool false) ∧ ∃ m', w' = (wr.drewN m).drewN m' := fun m => by
              have := less_at (hp.drewN m).hs (2 * k + 2) k (x := 2 * (k : Int) + 1 + 1) (y := (k : Int)) (by omega) rfl (by omega) (by omega)
              rwa [hb] at this
            have hb0 := hb
            have E := Lib.hid (fun b hb m => down_end (b := b) hp hx' hpar (kids_stop (min_right hb1) hb0) hik hb m)
            clear hb hb0
            have cl := Lib.hid cl
            clear hp hx' hpar hb1
            go_wp2_with fail
            refine c1.mono ?_
            rintro e w2 ⟨rfl, m1, rfl⟩
            go_wp2_with fail
            refine (cl.out m1).mono ?_
            rintro e w2 ⟨rfl, m2, rfl⟩
            go_wp2_with fail
            go_ret
            exact E.out _ rfl _
          | true =>
            have cl : ∀ m, Calls Tryz.prog 188 #[.slice (some ⟨ba,0,none⟩) n cap, .int .i64 (2 * (k : Int) + 1 + 1), .int .i64 k] (wr.drewN m) fun e w' => e = .returned (.bool true) ∧ ∃ m', w' = (wr.drewN m).drewN m' := fun m => by
              have := less_at (hp.drewN m).hs (2 * k + 2) k (x := 2 * (k : Int) + 1 + 1) (y := (k : Int)) (by omega) rfl (by omega) (by omega)
              rwa [hb] at this
            have cs : ∀ m, Calls Tryz.prog 189 #[.slice (some ⟨ba,0,none⟩) n cap, .int .i64 k, .int .i64 (2 * (k : Int) + 1 + 1)] (wr.drewN m) (SwapPost bq ba n cap k (2 * k + 2) L' (wr.drewN m)) :=
              fun m => swap_at (hp.drewN m).hs k (2 * k + 2) rfl (by omega) (by omega) (by omega) (by omega)
            have E : ∀ m w2, SwapPost bq ba n cap k (2 * k + 2) L' (wr.drewN m) (.returned (.tuple #[])) w2 → DownRel bq ba n cap N i0 L w (.int .i64 (2 * (k : Int) + 1 + 1)) w2 := by
              rintro m w2 ⟨_, g1, g2⟩
              have hu := down_step (j := 2 * k + 2) hx' (by omega) (by omega) (by unfold par; omega) (min_right hb1) hb hpar
              rw [← gk_swl (by omega) (by omega)] at hu
              exact ⟨2 * k + 2, swl L' k (2 * k + 2), by congr 1, by omega, by omega, (hp.drewN m).swap (by omega) (by omega) hN g1 g2, hu.1, hu.2⟩
            have E := Lib.hid E
            have cs := Lib.hid cs
            clear hb
            have cl := Lib.hid cl
            clear hp hx' hpar hb1
            go_wp2_with fail
            refine c1.mono ?_
            rintro e w2 ⟨rfl, m1, rfl⟩
            go_wp2_with fail
            refine (cl.out m1).mono ?_
            rintro e w2 ⟨rfl, m2, rfl⟩
            go_wp2_with fail
            refine (cs.out _).mono ?_
            rintro e w3 hs
            obtain rfl : e = .returned (.tuple #[]) := hs.1
            have hs := E.out _ w3 hs
            go_wp2_with fail
            go_roundw
            case rel => exact hs
            case measure => simp [intOf]; omega
theorem infoPItem : (Tryz.prog.info? 195).map (fun i => (i.zero, i.size, i.bytes)) = some (some (.pointer none), 1, 8) := by kernel_rfl
structure PushPost (bq bi n : Nat) (v m : Value) (xs : List Value) (k : ByteArray) (t : Int) (T : TypeId) (w : World) (e : Ending) (w' : World) : Prop where
  ret : e = .returned (.tuple #[])
  own : ∃ v', w'.heap[bq]? = some (.cells #[v', m] 131 (0, 0)) ∧ w'.ownsRow 0 195 1 v' (n + 1) (xs ++ [.pointer (some ⟨bi, 0, none⟩)]) ∧ (v'.ownBlock = v.ownBlock ∨ v'.ownBlock = some (w.heap.size + 1))
  item : w'.heap[bi]? = some (.cells #[.string k, .int .i64 t, .int .i64 n] T (0, 0))
  mod : Mod (bq :: bi :: v.ownBlock.toList) w w'
theorem ta_item (a : Addr) (w : World) : (Instr.typeAssert (.iface 195 (.pointer (some a))) 20 195 true).run Tryz.prog w = .ok (.tuple #[.pointer (some a), .bool true]) w := by kernel_rfl
theorem owns_setCell {w : World} {base e size n : Nat} {v : Value} {xs : List Value} (h : w.ownsRow base e size v n xs) {p : Addr} {u : Value} (hp : v.ownBlock ≠ some p.block) : (w.setCell p u).ownsRow base e size v n xs := by
  obtain ⟨h1, h2⟩ := h
  refine ⟨h1, ?_⟩
  rcases h2 with h2 | ⟨g, cap, cur, rfl, h3, h4, h5⟩
  · exact Or.inl h2
  · exact Or.inr ⟨g, cap, cur, rfl, h3, by rw [hp_setCell_other (by intro e; exact hp (by simp [Value.ownBlock, e]))]; exact h4, h5⟩
theorem owns_shape {w : World} {base e size n : Nat} {v : Value} {xs : List Value} (h : w.ownsRow base e size v (n + 1) xs) : ∃ g cap, v = .slice (some ⟨g, 0, none⟩) (n + 1) cap := by
  obtain ⟨_, h2 | ⟨g, cap, cur, rfl, _⟩⟩ := h
  · omega
  · exact ⟨g, cap, rfl⟩
structure PushMid (bq bi n : Nat) (v v' : Value) (xs : List Value) (w w' : World) : Prop where
  own : w'.ownsRow 0 195 1 v' (n + 1) (xs ++ [.pointer (some ⟨bi, 0, none⟩)])
  at' : v'.ownBlock = v.ownBlock ∨ v'.ownBlock = some (w.heap.size + 1)
  grown : ((w.setCell ⟨bi, 2, none⟩ (.int .i64 n)).alloc (.cells #[.pointer (some ⟨bi, 0, none⟩)] 195)).grownBy w' v.ownBlock
theorem PushMid.old {bq bi n : Nat} {v v' : Value} {xs : List Value} {w w' : World} (h : PushMid bq bi n v v' xs w w') {b : Nat} (hb : b < w.heap.size) (h1 : b ≠ bi) (h2 : v.ownBlock ≠ some b) : w'.heap[b]? = w.heap[b]? := by
  rw [h.grown.block b (by simp; omega) (fun e => h2 e.symm), hp_alloc_old (by simpa using hb), hp_setCell_other h1]
theorem push_mid {w : World} {bq bi n : Nat} {v m v' : Value} {xs : List Value} {k : ByteArray} {t x0 : Int} {T : TypeId} {w' : World}
    (hq : w.heap[bq]? = some (.cells #[v, m] 131 (0, 0))) (hi : w.heap[bi]? = some (.cells #[.string k, .int .i64 t, .int .i64 x0] T (0, 0))) (n1 : bq ≠ bi) (n2 : v.ownBlock ≠ some bq) (n3 : v.ownBlock ≠ some bi)
    (h : PushMid bq bi n v v' xs w w') : PushPost bq bi n v m xs k t T w (.returned (.tuple #[])) (w'.setCell ⟨bq, 0, none⟩ v') := by
  have lq := hp_lt hq
  have li := hp_lt hi
  have hsz := h.grown.size
  simp at hsz
  refine ⟨rfl, ⟨v', ?_, owns_setCell h.own ?_, h.at'⟩, ?_, ?_⟩
  · have := hp_setCell_same (o := 0) (v := v') ((h.old lq n1 n2).trans hq)
    simpa using this
  · rcases h.at' with e | e
    · rw [e]; exact n2
    · rw [e]; simp; omega
  · rw [hp_setCell_other (by exact n1.symm), h.grown.block bi (by simp; omega) (fun e => n3 e.symm), hp_alloc_old (by simpa using li), hp_setCell_same hi]
    simp
  · refine ⟨h.grown.os, h.grown.tape, h.grown.output, by simp; omega, fun b hb hn => ?_⟩
    have hn1 : b ≠ bq := by rintro rfl; exact hn (by simp)
    have hn2 : b ≠ bi := by rintro rfl; exact hn (by simp)
    rw [hp_setCell_other (by exact hn1)]
    exact h.old hb hn2 (fun e => hn (by simp [e]))
theorem ipush {w : World} {bq bi n : Nat} {v m : Value} {xs : List Value} {k : ByteArray} {t x0 : Int} {T : TypeId} (a : Option Addr) (cap : Nat) (hv : v = .slice a n cap)
    (hq : w.heap[bq]? = some (.cells #[v, m] 131 (0, 0))) (hown : w.ownsRow 0 195 1 v n xs)
    (hi : w.heap[bi]? = some (.cells #[.string k, .int .i64 t, .int .i64 x0] T (0, 0))) (hn : n ≤ 1023) (n1 : bq ≠ bi) (n2 : v.ownBlock ≠ some bq) (n3 : v.ownBlock ≠ some bi) :
    Calls Tryz.prog 195 #[.pointer (some ⟨bq, 0, none⟩), .iface 195 (.pointer (some ⟨bi, 0, none⟩))] w (PushPost bq bi n v m xs k t T w) := by
  subst hv
  obtain ⟨i0, hinf, hz0, hz1, hz2⟩ := info_parts infoPItem
  have c0 : w.cell? ⟨bq, 0, none⟩ = some (.slice a n cap) := cell_of hq rfl
  have f0 := free_of hq (o := 0)
  have c1 : w.cell? ⟨bi, 2, none⟩ = some (.int .i64 x0) := cell_of hi rfl
  have f1 := free_of hi (o := 2)
  have hta : ∀ w : World, (Instr.typeAssert (.iface 195 (.pointer (some ⟨bi, 0, none⟩))) 20 195 true).run Tryz.prog w = .ok (.tuple #[.pointer (some ⟨bi, 0, none⟩), .bool true]) w := ta_item ⟨bi, 0, none⟩
  have hown1 := Lib.hid (owns_setCell (p := ⟨bi, 2, none⟩) (u := .int .i64 n) hown (by simpa using n3))
  have E : ∀ v' w', PushMid bq bi n (.slice a n cap) v' xs w w' → PushPost bq bi n (.slice a n cap) m xs k t T w (.returned (.tuple #[])) (w'.setCell ⟨bq, 0, none⟩ v') := fun v' w' hmid => push_mid hq hi n1 n2 n3 hmid
  have HE := Lib.hid E
  have Hq := Lib.hid hq
  have Hi := Lib.hid hi
  have H2 := Lib.hid n2
  have H3 := Lib.hid n3
  have hinf1 := Lib.hid hinf
  have hz01 := Lib.hid hz0
  have hz11 := Lib.hid hz1
  have hz21 := Lib.hid hz2
  clear hinf hz0 hz1 hz2 hown E hq hi n2 n3
  go_enter Tryz.func195, Tryz.ntmps195
  go_wp2_with (at_builtin; refine wpList_append_own_at _ rfl (.tmp 22) (.tmp 24) 129 rfl 0 195 i0 (.pointer none) 1 8 Tryz.underlying129 hinf1.out hz01.out hz11.out hz21.out rfl (by decide) _ _ _ rfl (hown1.out.alloc _) ⟨_, 0, none⟩ 1 1 [.pointer (some ⟨bi, 0, none⟩)] rfl rfl ?c1 ?c2 ?c3 ?c4 ?c5 ?_)
  case c1 => intro j u hu; cases j with
    | zero => simp at hu; subst hu; show World.cell? _ ⟨w.heap.size, 0, none⟩ = _; exact cell_of (hp_alloc_at (by simp)) rfl
    | succ j => simp at hu
  case c2 => intro u hu; simp at hu; subst hu; rfl
  case c3 => unfold maxLen; omega
  case c4 => omega
  case c5 => omega
  intro v' w1 ho hg _ ha
  obtain ⟨g, cap', rfl⟩ := owns_shape ho
  have hmid : PushMid bq bi n (.slice a n cap) (.slice (some ⟨g, 0, none⟩) (n + 1) cap') xs w w1 := ⟨ho, by simpa using ha, hg⟩
  have lq := hp_lt Hq.out
  have c2 : w1.cell? ⟨bq, 0, none⟩ = some (.slice a n cap) := cell_of ((hmid.old lq n1 H2.out).trans Hq.out) rfl
  have f2 : w1.frozen? ⟨bq, 0, none⟩ = false := free_of ((hmid.old lq n1 H2.out).trans Hq.out)
  have HE2 := Lib.hid (HE.out _ w1 hmid)
  clear ho hg ha hmid lq
  go_wp2_with fail
  go_end0
  exact HE2.out
theorem ilen (a : Option Addr) (n cap : Nat) (w : World) : Calls Tryz.prog 187 #[.slice a n cap] w fun e w' => e = .returned (.int .i64 n) ∧ w = w' := by
  go_enter Tryz.func187, Tryz.ntmps187
  go_wp2
  go_ret
  exact ⟨rfl, rfl⟩
theorem ipop_raw {w : World} {bq ba n cap bi : Nat} (hn : n + 1 ≤ cap) (hm : n ≤ 4096) (c0 : w.cell? ⟨bq, 0, none⟩ = some (.slice (some ⟨ba, 0, none⟩) (n + 1) cap)) (f0 : w.frozen? ⟨bq, 0, none⟩ = false)
    (c1 : w.cell? ⟨ba, n, none⟩ = some (.pointer (some ⟨bi, 0, none⟩))) :
    Calls Tryz.prog 194 #[.pointer (some ⟨bq, 0, none⟩)] w fun e w' => e = .returned (.iface 195 (.pointer (some ⟨bi, 0, none⟩))) ∧ w' = w.setCell ⟨bq, 0, none⟩ (.slice (some ⟨ba, 0, none⟩) n cap) := by
  go_enter Tryz.func194, Tryz.ntmps194
  go_wp2
  go_ret
  exact ⟨rfl, rfl⟩
def PopPost (bq ba n cap : Nat) (m : Value) (L : List It) (w : World) (e : Ending) (w' : World) : Prop :=
  (∃ v, e = .returned v) ∧ w'.heap[bq]? = some (.cells #[.slice (some ⟨ba, 0, none⟩) n cap, m] 131 (0, 0)) ∧ HS w' bq ba n cap (L.take n) ∧ Mod [bq] w w'
theorem ith_take {L : List It} {n i : Nat} (h : i < n) (h2 : n ≤ L.length) : ith (L.take n) i = ith L i := by
  rw [ith_lt (by simp; omega), ith_lt (by omega)]; simp
theorem ipop {w : World} {bq ba n cap : Nat} {m : Value} {L : List It} (h : HS w bq ba (n + 1) cap L) (hq : w.heap[bq]? = some (.cells #[.slice (some ⟨ba, 0, none⟩) (n + 1) cap, m] 131 (0, 0))) :
    Calls Tryz.prog 194 #[.pointer (some ⟨bq, 0, none⟩)] w (PopPost bq ba n cap m L w) := by
  have hl := h.len
  have hm := h.most
  refine (ipop_raw h.room (by omega) h.cell (free_of hq) (h.ptr (i := n) (by omega))).mono fun e w' ⟨he, hw⟩ => ?_
  subst hw
  have hb : (w.setCell ⟨bq, 0, none⟩ (.slice (some ⟨ba, 0, none⟩) n cap)).heap[bq]? = some (.cells #[.slice (some ⟨ba, 0, none⟩) n cap, m] 131 (0, 0)) := by
    have := hp_setCell_same (o := 0) (v := .slice (some ⟨ba, 0, none⟩) n cap) hq
    simpa using this
  refine ⟨⟨_, he⟩, hb, ?_, (Mod.refl _ _).setCell (Or.inl (by simp)) _⟩
  obtain ⟨C, hC, hC2, hC3⟩ := h.arr
  refine ⟨cell_of hb rfl, by simp; omega, by have := h.room; omega, h.capm, by omega, ?_, ⟨C, ?_, hC2, fun i hi => ?_⟩, fun i hi => ?_⟩
  · exact h.nodup.sublist ((((List.take_sublist n L).map It.blk).cons_cons ba).cons_cons bq)
  · rw [hp_setCell_other (by exact h.qa.symm)]; exact hC
  · rw [ith_take hi (by omega)]; exact hC3 i (by omega)
  · rw [ith_take hi (by omega)]
    obtain ⟨T, hT⟩ := h.item i (by omega)
    refine ⟨T, ?_⟩
    rw [hp_setCell_other (fun e => h.qb (by have := blk_mem (L := L) (i := i) (by omega); rw [e] at this; exact this))]
    exact hT
theorem HP.trans {bq ba n cap N : Nat} {L L1 L2 : List It} {w w1 w2 : World} (h : HP bq ba n cap N L w L1 w1) (k : HP bq ba n cap N L1 w1 L2 w2) : HP bq ba n cap N L w L2 w2 :=
  ⟨k.hs, k.perm.trans h.perm, h.mod.trans k.mod (fun x hx => Or.inl (by
    rcases List.mem_cons.1 hx with rfl | hx
    · simp
    · exact List.mem_cons_of_mem _ ((h.perm.map It.blk).mem_iff.1 hx))), fun i hi => (k.above i hi).trans (h.above i hi)⟩
theorem fix_hs {w : World} {bq ba n cap : Nat} {L : List It} (h : HS w bq ba n cap L) (i : Nat) (hi : i < n) (hx : ExceptP n (gk L) i) :
    Calls Tryz.prog 159 #[.iface 198 (.pointer (some ⟨bq, 0, none⟩)), .int .i64 i] w (UpPost bq ba n cap n L w) := by
  have hm := m_Len h.cell
  have cd := Lib.hid (down_hs h (Nat.le_refl n) i hi hx)
  have U : ∀ L1 w1, HP bq ba n cap n L w L1 w1 → ExceptP n (gk L1) i → KidsP n (gk L1) i → Calls Tryz.prog 162 #[.iface 198 (.pointer (some ⟨bq, 0, none⟩)), .int .i64 i] w1 (UpPost bq ba n cap n L w) :=
    fun L1 w1 hp h1 h2 => (up_hs hp.hs (Nat.le_refl n) i hi h1 h2).mono fun e w2 ⟨he, L2, h3, h4⟩ => ⟨he, L2, hp.trans h3, h4⟩
  have HU := Lib.hid U
  clear U h hx
  go_enter Tryz.func159, Tryz.ntmps159
  go_wp2_with fail
  refine (ilen _ _ _ _).mono ?_
  rintro e w1 ⟨rfl, rfl⟩
  go_wp2_with fail
  refine cd.out.mono ?_
  rintro e w1 ⟨b, L1, rfl, hp, ht, hf⟩
  cases b with
  | true =>
    have E : Hid (UpPost bq ba n cap n L w (.returned (.tuple #[])) w1) := Lib.hid ⟨rfl, L1, hp, ht rfl⟩
    clear hp ht hf
    go_wp2_with fail
    go_end0
    exact E.out
  | false =>
    have cu := Lib.hid (HU.out L1 w1 hp (hf rfl).1 (hf rfl).2)
    clear hp ht hf
    go_wp2_with fail
    refine cu.out.mono ?_
    rintro e w2 hu
    obtain rfl : e = .returned (.tuple #[]) := hu.1
    have hu := Lib.hid hu
    go_wp2_with fail
    go_end0
    exact hu.out
structure PushedPost (bq bi n : Nat) (v m : Value) (L : List It) (k : ByteArray) (t : Int) (w : World) (e : Ending) (w' : World) : Prop where
  ret : e = .returned (.tuple #[])
  now : ∃ ba cap L', w'.heap[bq]? = some (.cells #[.slice (some ⟨ba, 0, none⟩) (n + 1) cap, m] 131 (0, 0)) ∧ HS w' bq ba (n + 1) cap L' ∧ L'.Perm (L ++ [⟨bi, k, t⟩]) ∧ HeapP (n + 1) (gk L') ∧
    (v.ownBlock = some ba ∨ w.heap.size ≤ ba) ∧ Mod (bq :: bi :: v.ownBlock.toList ++ blks L) w w'
theorem ith_append_lt {L : List It} {x : It} {i : Nat} (h : i < L.length) : ith (L ++ [x]) i = ith L i := by
  rw [ith_lt (by simp; omega), ith_lt h]; simp [h]
theorem ith_append_eq {L : List It} {x : It} : ith (L ++ [x]) L.length = x := by
  rw [ith_lt (by simp)]; simp
theorem pushed_hs {w w1 : World} {bq bi n : Nat} {v m : Value} {L : List It} {k : ByteArray} {t : Int} {T : TypeId} {e : Ending} (hl : n = L.length) (hn : n ≤ 1023)
    (hit : ∀ i, i < n → ∃ T, w.heap[(ith L i).blk]? = some (.cells #[.string (ith L i).key, .int .i64 (ith L i).tm, .int .i64 i] T (0, 0)))
    (hbq : bq < w.heap.size) (hbi : bi < w.heap.size) (hnd : (bq :: bi :: v.ownBlock.toList ++ blks L).Nodup) (h : PushPost bq bi n v m (L.map ptrV) k t T w e w1) :
    ∃ ba cap, w1.heap[bq]? = some (.cells #[.slice (some ⟨ba, 0, none⟩) (n + 1) cap, m] 131 (0, 0)) ∧ HS w1 bq ba (n + 1) cap (L ++ [⟨bi, k, t⟩]) ∧ (v.ownBlock = some ba ∨ w.heap.size ≤ ba) := by
  obtain ⟨v', hq, ho, ha⟩ := h.own
  obtain ⟨ba, cap, rfl⟩ := owns_shape ho
  have hbl : ∀ b, b ∈ blks L → b < w.heap.size := by
    intro b hb
    obtain ⟨x, hx, rfl⟩ := List.mem_map.1 hb
    obtain ⟨i, hi, rfl⟩ := List.mem_iff_getElem.1 hx
    obtain ⟨T, hT⟩ := hit i (by omega)
    rw [ith_lt hi] at hT
    exact hp_lt hT
  have e1 : bq ∉ bi :: (v.ownBlock.toList ++ blks L) := (List.nodup_cons.1 hnd).1
  have hnd2 := (List.nodup_cons.1 hnd).2
  have e2 : bi ∉ v.ownBlock.toList ++ blks L := (List.nodup_cons.1 hnd2).1
  have hnd3 : (v.ownBlock.toList ++ blks L).Nodup := (List.nodup_cons.1 hnd2).2
  refine ⟨ba, cap, hq, HS.of_owns (by simpa using ho) (cell_of hq rfl) (by omega) ?_ ?_, ?_⟩
  · have hb : (bq :: ba :: bi :: blks L).Nodup := by
      rcases ha with ha | ha
      · have ha' : v.ownBlock = some ba := by rw [← ha]; rfl
        rw [ha'] at hnd
        have : (bq :: bi :: ba :: blks L).Nodup := by simpa using hnd
        exact ((List.Perm.swap bi ba (blks L)).cons bq).nodup_iff.2 this
      · have ha' : ba = w.heap.size + 1 := by simpa [Value.ownBlock] using ha
        have hn4 : (blks L).Nodup := hnd3.sublist (List.sublist_append_right _ _)
        refine List.nodup_cons.2 ⟨?_, List.nodup_cons.2 ⟨?_, List.nodup_cons.2 ⟨fun h => e2 (List.mem_append_right _ h), hn4⟩⟩⟩
        · intro hm
          rcases List.mem_cons.1 hm with h1 | h1
          · omega
          · rcases List.mem_cons.1 h1 with h2 | h2
            · exact e1 (by rw [h2]; simp)
            · exact e1 (List.mem_cons_of_mem _ (List.mem_append_right _ h2))
        · intro hm
          rcases List.mem_cons.1 hm with h1 | h1
          · omega
          · have := hbl _ h1; omega
    have hp : (bq :: ba :: blks (L ++ [⟨bi, k, t⟩])).Perm (bq :: ba :: bi :: blks L) := by
      have : (blks (L ++ [⟨bi, k, t⟩])).Perm (bi :: blks L) := by
        simp only [blks, List.map_append, List.map_cons, List.map_nil]
        exact List.perm_append_comm
      exact (this.cons ba).cons bq
    exact hp.nodup_iff.2 hb
  · intro i hi
    by_cases hin : i < n
    · rw [ith_append_lt (by omega)]
      obtain ⟨T', hT⟩ := hit i hin
      have hm : (ith L i).blk ∈ blks L := blk_mem (by omega)
      refine ⟨T', ?_⟩
      rw [h.mod.block _ (hp_lt hT) ?_]
      · exact hT
      · intro hm2
        rcases List.mem_cons.1 hm2 with h1 | h1
        · exact e1 (by rw [← h1]; exact List.mem_cons_of_mem _ (List.mem_append_right _ hm))
        · rcases List.mem_cons.1 h1 with h2 | h2
          · exact e2 (by rw [← h2]; exact List.mem_append_right _ hm)
          · exact (List.nodup_append.1 hnd3).2.2 _ h2 _ hm rfl
    · obtain rfl : i = n := by omega
      subst hl
      rw [ith_append_eq]
      exact ⟨T, h.item⟩
  · rcases ha with ha | ha
    · exact Or.inl (by rw [← ha]; rfl)
    · exact Or.inr (by have : ba = w.heap.size + 1 := by simpa [Value.ownBlock] using ha
                       omega)
theorem except_last {n : Nat} {g g' : Nat → KT} (h : HeapP n g) (e : ∀ k, k < n → g' k = g k) : ExceptP (n + 1) g' n ∧ KidsP (n + 1) g' n := by
  refine ⟨⟨fun c h0 h1 h2 h3 => ?_, fun c h0 h1 h2 h3 => ?_⟩, fun c h0 h1 h2 => ?_⟩
  · rw [e c (by omega), e (par c) (by unfold par; omega)]; exact h c h0 (by omega)
  · unfold par at h2; omega
  · unfold par at h2; omega
theorem gk_append_lt {L : List It} {x : It} {i : Nat} (h : i < L.length) : gk (L ++ [x]) i = gk L i := by unfold gk; rw [ith_append_lt h]
theorem push_hs {w : World} {bq bi n : Nat} {v m : Value} {L : List It} {k : ByteArray} {t x0 : Int} {T : TypeId} (a : Option Addr) (cap : Nat) (hv : v = .slice a n cap) (hl : n = L.length) (hn : n ≤ 1023)
    (hq : w.heap[bq]? = some (.cells #[v, m] 131 (0, 0))) (hown : w.ownsRow 0 195 1 v n (L.map ptrV))
    (hit : ∀ i, i < n → ∃ T, w.heap[(ith L i).blk]? = some (.cells #[.string (ith L i).key, .int .i64 (ith L i).tm, .int .i64 i] T (0, 0)))
    (hi : w.heap[bi]? = some (.cells #[.string k, .int .i64 t, .int .i64 x0] T (0, 0))) (hnd : (bq :: bi :: v.ownBlock.toList ++ blks L).Nodup) (hh : HeapP n (gk L)) :
    Calls Tryz.prog 160 #[.iface 198 (.pointer (some ⟨bq, 0, none⟩)), .iface 195 (.pointer (some ⟨bi, 0, none⟩))] w (PushedPost bq bi n v m L k t w) := by
  have e1 : bq ∉ bi :: (v.ownBlock.toList ++ blks L) := (List.nodup_cons.1 hnd).1
  have e2 : bi ∉ v.ownBlock.toList ++ blks L := (List.nodup_cons.1 (List.nodup_cons.1 hnd).2).1
  have ci := Lib.hid (ipush (m := m) a cap hv hq hown hi hn (fun h => e1 (by simp [h])) (fun h => e1 (by simp [h])) (fun h => e2 (by simp [h])))
  have hmp := m_Push ⟨bq, 0, none⟩
  have U : ∀ w1 e, PushPost bq bi n v m (L.map ptrV) k t T w e w1 → ∃ ba cap, HS w1 bq ba (n + 1) cap (L ++ [⟨bi, k, t⟩]) ∧
      ∀ x y : Int, y = n → Calls Tryz.prog 162 #[.iface 198 (.pointer (some ⟨bq, 0, none⟩)), .int .i64 y] w1 (PushedPost bq bi n v m L k t w) := by
    intro w1 e hp
    obtain ⟨ba, cap, h1, h2, h3⟩ := pushed_hs hl hn hit (hp_lt hq) (hp_lt hi) hnd hp
    obtain ⟨hx, hk⟩ := except_last (g' := gk (L ++ [⟨bi, k, t⟩])) hh (fun i hi => gk_append_lt (by omega))
    refine ⟨ba, cap, h2, fun x y hy => ?_⟩
    subst hy
    refine (up_hs h2 (Nat.le_refl _) n (by omega) hx hk).mono fun e w2 ⟨he, L2, hp2, hh2⟩ => ⟨he, ba, cap, L2, ?_, hp2.hs, hp2.perm, hh2, h3, ?_⟩
    · rw [hp2.mod.block bq (hp_lt h1) (by
        intro hm
        have := (List.nodup_cons.1 h2.nodup).1
        exact this hm)]
      exact h1
    · refine (hp.mod.mono (fun b hb => ?_)).trans hp2.mod (fun b hb => ?_)
      · simp only [List.cons_append, List.mem_cons, List.mem_append] at hb ⊢
        rcases hb with hb | hb | hb
        · exact Or.inl hb
        · exact Or.inr (Or.inl hb)
        · exact Or.inr (Or.inr (Or.inl hb))
      · rcases List.mem_cons.1 hb with rfl | hb
        · rcases h3 with h3 | h3
          · left; simp [h3]
          · exact Or.inr h3
        · left
          simp only [blks, List.map_append, List.map_cons, List.map_nil, List.mem_append, List.mem_singleton] at hb
          rcases hb with hb | rfl
          · simp only [List.cons_append, List.mem_cons, List.mem_append]; exact Or.inr (Or.inr (Or.inr hb))
          · simp
  have HU := Lib.hid U
  clear U hown hit hi hnd hh e1 e2 hl hq hv
  go_enter Tryz.func160, Tryz.ntmps160
  go_wp2_with fail
  refine ci.out.mono ?_
  rintro e w1 hp
  obtain rfl : e = .returned (.tuple #[]) := hp.ret
  obtain ⟨ba, cap2, hs, hu⟩ := HU.out w1 _ hp
  have hml := m_Len hs.cell
  have hu := Lib.hid hu
  have hs := Lib.hid hs
  clear hp
  go_wp2_with fail
  refine (ilen _ _ _ _).mono ?_
  rintro e w2 ⟨rfl, rfl⟩
  go_wp2_with fail
  refine (hu.out 0 _ (by omega)).mono ?_
  rintro e w2 hz
  obtain rfl : e = .returned (.tuple #[]) := hz.ret
  have hz := Lib.hid hz
  go_wp2_with fail
  go_end0
  exact hz.out
structure RemPost (bq ba n cap : Nat) (m : Value) (L : List It) (x : It) (w : World) (e : Ending) (w' : World) : Prop where
  ret : ∃ v, e = .returned v
  now : ∃ L', w'.heap[bq]? = some (.cells #[.slice (some ⟨ba, 0, none⟩) n cap, m] 131 (0, 0)) ∧ HS w' bq ba n cap L' ∧ (L' ++ [x]).Perm L ∧ HeapP n (gk L')
  mod : Mod (bq :: ba :: blks L) w w'
theorem take_last {L : List It} {n : Nat} (h : n + 1 = L.length) : L.take n ++ [ith L n] = L := by
  rw [ith_lt (by omega)]
  have := List.take_append_getElem (l := L) (i := n) (by omega)
  rw [this, List.take_of_length_le (by omega)]
theorem rem_pop {w w2 : World} {bq ba n cap : Nat} {m : Value} {L L2 : List It} {x : It} (hq : w2.heap[bq]? = some (.cells #[.slice (some ⟨ba, 0, none⟩) (n + 1) cap, m] 131 (0, 0)))
    (h2 : HS w2 bq ba (n + 1) cap L2) (hp : L2.Perm L) (hmod : Mod (ba :: blks L) w w2) (hx : ith L2 n = x) (hh : HeapP n (gk L2)) :
    Calls Tryz.prog 194 #[.pointer (some ⟨bq, 0, none⟩)] w2 (RemPost bq ba n cap m L x w) := by
  refine (ipop h2 hq).mono fun e w3 ⟨h1, h3, h4, h5⟩ => ⟨h1, ⟨_, h3, h4, ?_, ?_⟩, ?_⟩
  · rw [← hx, take_last h2.len]; exact hp
  · intro c h0 hc
    have hl := h2.len
    unfold gk
    rw [ith_take hc (by omega), ith_take (by unfold par; omega) (by omega)]
    exact hh c h0 hc
  · exact (hmod.mono (fun b hb => List.mem_cons_of_mem _ hb)).trans h5 (fun b hb => by simp at hb; subst hb; left; simp)
theorem heap_less {n : Nat} {g : Nat → KT} (h : HeapP (n + 1) g) : HeapP n g := fun c h0 h1 => h c h0 (by omega)
theorem remove_hs {w : World} {bq ba n cap : Nat} {m : Value} {L : List It} (h : HS w bq ba (n + 1) cap L) (hq : w.heap[bq]? = some (.cells #[.slice (some ⟨ba, 0, none⟩) (n + 1) cap, m] 131 (0, 0)))
    (hh : HeapP (n + 1) (gk L)) (i : Nat) (hi : i ≤ n) :
    Calls Tryz.prog 145 #[.iface 198 (.pointer (some ⟨bq, 0, none⟩)), .int .i64 i] w (RemPost bq ba n cap m L (ith L i) w) := by
  have hm := m_Len h.cell
  have hms := m_Swap h.cell
  have hmp := m_Pop ⟨bq, 0, none⟩
  have hmost := h.most
  by_cases hin : i = n
  · subst hin
    have cp := Lib.hid (rem_pop hq h (List.Perm.refl _) (Mod.refl _ w) rfl (heap_less hh))
    have hb : ((i : Int) != (i : Int)) = false := by simp
    clear hq hh h
    go_enter Tryz.func145, Tryz.ntmps145
    go_wp2_with fail
    refine (ilen _ _ _ _).mono ?_
    rintro e w1 ⟨rfl, rfl⟩
    go_wp2_with fail
    refine cp.out.mono ?_
    rintro e w2 hr
    obtain ⟨v, rfl⟩ := hr.ret
    have hr := Lib.hid hr
    go_wp2_with fail
    go_ret
    exact hr.out
  · have hl : n + 1 ≤ L.length ∧ L.length ≤ n + 1 := by have := h.len; omega
    have hb : ((n : Int) != (i : Int)) = true := by simp; omega
    have cs := Lib.hid (swap_hs h (i := i) (j := n) (by omega) (by omega) hin)
    have hgs : gk (swl L i n) = swf (gk L) i n := gk_swl (by omega) (by omega)
    have hx1 : ExceptP n (gk (swl L i n)) i := by
      refine ((heap_less hh).except i (by omega)).other (fun k hk hki => ?_)
      rw [hgs]; unfold swf
      rw [if_neg (by omega), if_neg hki]
    have hxl : ith (swl L i n) n = ith L i := by rw [ith_swl (by omega) (by omega), if_pos rfl]
    have hper : (swl L i n).Perm L := swl_perm (by omega) (by omega)
    have hqb : bq ∉ ba :: blks L := (List.nodup_cons.1 h.nodup).1
    have Q : ∀ w2, Mod (ba :: blks L) w w2 → w2.heap[bq]? = some (.cells #[.slice (some ⟨ba, 0, none⟩) (n + 1) cap, m] 131 (0, 0)) := fun w2 hmo => by
      rw [hmo.block bq (hp_lt hq) hqb]; exact hq
    have hmo2 : ∀ L2 w1 w2, Mod (ba :: blks L) w w1 → HP bq ba (n + 1) cap n (swl L i n) w1 L2 w2 → Mod (ba :: blks L) w w2 := fun L2 w1 w2 h1 h2 =>
      h1.trans h2.mod (fun b hb => Or.inl (by
        rcases List.mem_cons.1 hb with rfl | hb
        · simp
        · exact List.mem_cons_of_mem _ ((hper.map It.blk).mem_iff.1 hb)))
    have D : ∀ w1, HS w1 bq ba (n + 1) cap (swl L i n) → Calls Tryz.prog 161 #[.iface 198 (.pointer (some ⟨bq, 0, none⟩)), .int .i64 i, .int .i64 n] w1 (DownPost bq ba (n + 1) cap n i (swl L i n) w1) :=
      fun w1 h1 => down_hs h1 (by omega) i (by omega) hx1
    have Pp : ∀ w1 L2 w2, Mod (ba :: blks L) w w1 → HP bq ba (n + 1) cap n (swl L i n) w1 L2 w2 → HeapP n (gk L2) →
        Calls Tryz.prog 194 #[.pointer (some ⟨bq, 0, none⟩)] w2 (RemPost bq ba n cap m L (ith L i) w) := fun w1 L2 w2 h1 h2 h3 =>
      rem_pop (Q w2 (hmo2 L2 w1 w2 h1 h2)) h2.hs (h2.perm.trans hper) (hmo2 L2 w1 w2 h1 h2) (by rw [h2.above n (Nat.le_refl n), hxl]) h3
    have U : ∀ w1 L2 w2, HP bq ba (n + 1) cap n (swl L i n) w1 L2 w2 → ExceptP n (gk L2) i → KidsP n (gk L2) i → Calls Tryz.prog 162 #[.iface 198 (.pointer (some ⟨bq, 0, none⟩)), .int .i64 i] w2 (UpPost bq ba (n + 1) cap n (swl L i n) w1) :=
      fun w1 L2 w2 h1 h2 h3 => (up_hs h1.hs (by omega) i (by omega) h2 h3).mono fun e w3 ⟨he, L3, h4, h5⟩ => ⟨he, L3, h1.trans h4, h5⟩
    have HD := Lib.hid D
    have HPp := Lib.hid Pp
    have HU := Lib.hid U
    clear D Pp U hq hh h Q hmo2 hxl hper hqb hgs hx1
    go_enter Tryz.func145, Tryz.ntmps145
    go_wp2_with fail
    refine (ilen _ _ _ _).mono ?_
    rintro e w1 ⟨rfl, rfl⟩
    go_wp2_with fail
    refine cs.out.mono ?_
    rintro e w1 ⟨rfl, hs1, hmo1⟩
    have cd := Lib.hid (HD.out w1 hs1)
    have HM := Lib.hid hmo1
    clear hs1 hmo1
    go_wp2_with fail
    refine cd.out.mono ?_
    rintro e w2 ⟨b, L2, rfl, hp, ht, hf⟩
    cases b with
    | true =>
      have cp := Lib.hid (HPp.out w1 L2 w2 HM.out hp (ht rfl))
      clear hp ht hf
      go_wp2_with fail
      refine cp.out.mono ?_
      rintro e w3 hr
      obtain ⟨v, rfl⟩ := hr.ret
      have hr := Lib.hid hr
      go_wp2_with fail
      go_ret
      exact hr.out
    | false =>
      have cu := Lib.hid (HU.out w1 L2 w2 hp (hf rfl).1 (hf rfl).2)
      clear hp ht hf
      go_wp2_with fail
      refine cu.out.mono ?_
      rintro e w3 ⟨he, L3, h3, h4⟩
      subst he
      have cp := Lib.hid (HPp.out w1 L3 w3 HM.out h3 h4)
      clear h3 h4
      go_wp2_with fail
      refine cp.out.mono ?_
      rintro e w4 hr
      obtain ⟨v, rfl⟩ := hr.ret
      have hr := Lib.hid hr
      go_wp2_with fail
      go_ret
      exact hr.out
structure MapR (P : Program) (kt : TypeId) (w : World) (b : Nat) (R : Value → Value → Prop) (n : Nat) : Prop where
  ex : ∃ es clock, w.heap[b]? = some (.map es clock) ∧ Stamped es clock ∧ (∀ x ∈ es.toList, ∃ l, keyOf P kt x.key = some l) ∧ (∀ k v, R k v ↔ ∃ (i : Nat) (x : MapEntry), es[i]? = some x ∧ x.key = k ∧ x.val = v) ∧ es.size = n
structure Turn (b : Nat) (w w' : World) : Prop where
  os : w'.os = w.os
  tape : w'.tape = w.tape
  output : w'.output = w.output
  drawn : w'.drawn = w.drawn
  size : w'.heap.size = w.heap.size
  block : ∀ k, k ≠ b → w'.heap[k]? = w.heap[k]?
theorem Turn.mod {b : Nat} {w w' : World} (h : Turn b w w') : Mod [b] w w' := ⟨h.os, h.tape, h.output, by rw [h.size]; exact Nat.le_refl _, fun k _ hk => h.block k (by simpa using hk)⟩
theorem turn_setBlock {w : World} {b : Nat} {o o' : Obj} (hb : w.heap[b]? = some o) : Turn b w (setBlock w b o') :=
  ⟨rfl, rfl, rfl, rfl, by simp [setBlock], fun k hk => (heap_set hb).2 k hk⟩
section
variable {P : Program} {kt et t : TypeId} {w : World} {b n : Nat} {R : Value → Value → Prop}
theorem MapR.congr (h : MapR P kt w b R n) {R' : Value → Value → Prop} (e : ∀ k v, R' k v ↔ R k v) : MapR P kt w b R' n := by
  obtain ⟨es, clock, h1, h2, h3, h4, h5⟩ := h.ex
  exact ⟨es, clock, h1, h2, h3, fun k v => (e k v).trans (h4 k v), h5⟩
theorem MapR.keep (h : MapR P kt w b R n) {w' : World} (e : w'.heap[b]? = w.heap[b]?) : MapR P kt w' b R n := by
  obtain ⟨es, clock, h1, h2⟩ := h.ex
  exact ⟨es, clock, e.trans h1, h2⟩
theorem MapR.lt (h : MapR P kt w b R n) : b < w.heap.size := by
  obtain ⟨es, clock, h1, _⟩ := h.ex
  exact hp_lt h1
theorem map_made (P : Program) (kt : TypeId) (w : World) : MapR P kt (w.alloc (.map #[] 0)) w.heap.size (fun _ _ => False) 0 :=
  ⟨#[], 0, hp_alloc_new, stamped_empty 0, by simp, by simp, rfl⟩
theorem keys_ne {es : Array MapEntry} {clock : Nat} (h : Stamped es clock) {i j : Nat} {x y : MapEntry} (hi : es[i]? = some x) (hj : es[j]? = some y) (hij : i ≠ j) : x.key ≠ y.key := by
  have hk := h.2.2
  have li : i < es.size := (Array.getElem?_eq_some_iff.1 hi).1
  have lj : j < es.size := (Array.getElem?_eq_some_iff.1 hj).1
  have ei : es[i] = x := (Array.getElem?_eq_some_iff.1 hi).2
  have ej : es[j] = y := (Array.getElem?_eq_some_iff.1 hj).2
  intro e
  have : (es.toList.map (·.key))[i]? = (es.toList.map (·.key))[j]? := by simp [hi, hj, e]
  exact hij ((List.getElem?_inj (by simpa using li) hk).1 this)
theorem MapR.look (h : MapR P kt w b R n) (K : Keyed P kt) (ht : P.underlying t = some (.map kt et)) {z : Value} (hz : (zeroValue et).run P w = .ok z w) {key : Value} {kl : Lit} (hkey : keyOf P kt key = some kl) (c : Bool) :
    (∃ v, R key v ∧ (Instr.lookup t (.map (some b)) key c).run P w = .ok (if c then .tuple #[v, .bool true] else v) w) ∨
    ((∀ v, ¬ R key v) ∧ (Instr.lookup t (.map (some b)) key c).run P w = .ok (if c then .tuple #[z, .bool false] else z) w) := by
  obtain ⟨es, clock, hb, hs, hk, hR, _⟩ := h.ex
  rcases K.find w hkey es.toList hk with ⟨h1, h2⟩ | ⟨j, e0, h1, h2, h3⟩
  · refine Or.inr ⟨fun v hv => ?_, by simp [Instr.lookup, run_underlying ht, MapKept.run_getObj_map hb, K.check w _ hkey, h1, hz, Result.andThen]⟩
    obtain ⟨i, x, hi, hxk, _⟩ := (hR _ _).1 hv
    exact h2 x (by rw [Array.mem_toList_iff]; exact Array.mem_of_getElem? hi) hxk
  · exact Or.inl ⟨e0.val, (hR _ _).2 ⟨j, e0, by simpa using h2, h3, rfl⟩, by simp [Instr.lookup, run_underlying ht, MapKept.run_getObj_map hb, K.check w _ hkey, h1, Result.andThen]⟩
theorem MapR.put (h : MapR P kt w b R n) (K : Keyed P kt) (ht : P.underlying t = some (.map kt et)) {key val : Value} {kl : Lit} (hkey : keyOf P kt key = some kl) :
    ∃ w', (Instr.mapUpdate t (.map (some b)) key val).run P w = .ok () w' ∧ Turn b w w' ∧
      (((∃ v, R key v) ∧ MapR P kt w' b (fun k v => (k = key ∧ v = val) ∨ (k ≠ key ∧ R k v)) n) ∨ ((∀ v, ¬ R key v) ∧ MapR P kt w' b (fun k v => (k = key ∧ v = val) ∨ (k ≠ key ∧ R k v)) (n + 1))) := by
  obtain ⟨es, clock, hb, hs, hk, hR, hn⟩ := h.ex
  rcases K.find w hkey es.toList hk with ⟨h1, h2⟩ | ⟨j, e0, h1, h2, h3⟩
  · have hno : ∀ v, ¬ R key v := fun v hv => by
      obtain ⟨i, x, hi, hxk, _⟩ := (hR _ _).1 hv
      exact h2 x (by rw [Array.mem_toList_iff]; exact Array.mem_of_getElem? hi) hxk
    refine ⟨setBlock w b (.map (es.push ⟨key, val, clock⟩) (clock + 1)), by simp [Instr.mapUpdate, run_underlying ht, MapKept.run_getObj_map hb, K.check w false hkey, h1, MapKept.run_setObj_map _ hb, Result.andThen, setBlock],
      turn_setBlock hb, Or.inr ⟨hno, _, _, (heap_set hb).1, stamped_push hs h2, ?_, ?_, by simp [hn]⟩⟩
    · intro x hx
      simp only [Array.toList_push, List.mem_append, List.mem_singleton] at hx
      rcases hx with hx | rfl
      · exact hk x hx
      · exact ⟨_, hkey⟩
    · intro k v
      constructor
      · rintro (⟨rfl, rfl⟩ | ⟨hne, hv⟩)
        · exact ⟨es.size, ⟨k, v, clock⟩, by simp, rfl, rfl⟩
        · obtain ⟨i, x, hi, hxk, hxv⟩ := (hR _ _).1 hv
          exact ⟨i, x, by rw [Array.getElem?_push, if_neg (by have := (Array.getElem?_eq_some_iff.1 hi).1; omega)]; exact hi, hxk, hxv⟩
      · rintro ⟨i, x, hi, hxk, hxv⟩
        rw [Array.getElem?_push] at hi
        split at hi
        · cases hi; exact Or.inl ⟨hxk.symm, hxv.symm⟩
        · refine Or.inr ⟨?_, (hR _ _).2 ⟨i, x, hi, hxk, hxv⟩⟩
          rintro rfl
          exact h2 x (by rw [Array.mem_toList_iff]; exact Array.mem_of_getElem? hi) hxk
  · have hj : es[j]? = some e0 := by simpa using h2
    have hkey' : ((es[j]?).map (·.key)).getD key = key := by simp [hj, h3]
    refine ⟨setBlock w b (.map (es.modify j fun e => { e with key := key, val := val }) clock), ?_, turn_setBlock hb, Or.inl ⟨⟨e0.val, (hR _ _).2 ⟨j, e0, hj, h3, rfl⟩⟩, _, _, (heap_set hb).1, ?_, ?_, ?_, by simp [hn]⟩⟩
    · have hst := K.stays w hkey
      simp [Instr.mapUpdate, run_underlying ht, MapKept.run_getObj_map hb, K.check w false hkey, h1, h3, hst, hj, MapKept.run_setObj_map _ hb, Result.andThen, setBlock]
    · exact stamped_modify hs j _ (fun _ _ => rfl) (fun e _ he => by rw [hj] at he; cases he; exact h3.symm)
    · intro x hx
      rw [Array.mem_toList_iff, Array.mem_iff_getElem?] at hx
      obtain ⟨i, hi⟩ := hx
      rw [Array.getElem?_modify] at hi
      split at hi
      · rename_i e; subst e; rw [hj] at hi; simp at hi; subst hi; exact ⟨_, hkey⟩
      · exact hk x (by rw [Array.mem_toList_iff]; exact Array.mem_of_getElem? hi)
    · intro k v
      constructor
      · rintro (⟨rfl, rfl⟩ | ⟨hne, hv⟩)
        · exact ⟨j, { e0 with key := k, val := v }, by rw [Array.getElem?_modify, if_pos rfl, hj]; rfl, rfl, rfl⟩
        · obtain ⟨i, x, hi, hxk, hxv⟩ := (hR _ _).1 hv
          refine ⟨i, x, ?_, hxk, hxv⟩
          rw [Array.getElem?_modify, if_neg]
          · exact hi
          · rintro rfl; rw [hj] at hi; cases hi; exact hne (hxk.symm.trans h3)
      · rintro ⟨i, x, hi, hxk, hxv⟩
        rw [Array.getElem?_modify] at hi
        split at hi
        · rename_i e; subst e; rw [hj] at hi; simp at hi; subst hi; exact Or.inl ⟨hxk.symm, hxv.symm⟩
        · rename_i e
          refine Or.inr ⟨?_, (hR _ _).2 ⟨i, x, hi, hxk, hxv⟩⟩
          rintro rfl
          exact keys_ne hs hi hj (Ne.symm e) (hxk.trans h3.symm)
theorem MapR.del (h : MapR P kt w b R n) (K : Keyed P kt) (ht : P.underlying t = some (.map kt et)) {key : Value} {kl : Lit} (hkey : keyOf P kt key = some kl) (k2 ty : TypeId) :
    ∃ w', (Builtin.delete_ #[t, k2] ty #[.map (some b), key]).run P w = .ok (.tuple #[]) w' ∧ Turn b w w' ∧
      (((∃ v, R key v) ∧ MapR P kt w' b (fun k v => k ≠ key ∧ R k v) (n - 1) ∧ 1 ≤ n) ∨ ((∀ v, ¬ R key v) ∧ MapR P kt w' b (fun k v => k ≠ key ∧ R k v) n)) := by
  obtain ⟨es, clock, hb, hs, hk, hR, hn⟩ := h.ex
  rcases K.find w hkey es.toList hk with ⟨h1, h2⟩ | ⟨j, e0, h1, h2, h3⟩
  · have hno : ∀ v, ¬ R key v := fun v hv => by
      obtain ⟨i, x, hi, hxk, _⟩ := (hR _ _).1 hv
      exact h2 x (by rw [Array.mem_toList_iff]; exact Array.mem_of_getElem? hi) hxk
    refine ⟨setBlock w b (.map es clock), by simp [Builtin.delete_, run_underlying ht, MapKept.run_getObj_map hb, K.check w _ hkey, h1, MapKept.run_setObj_map _ hb, Result.andThen, setBlock],
      turn_setBlock hb, Or.inr ⟨hno, _, _, (heap_set hb).1, hs, hk, fun k v => ?_, hn⟩⟩
    rw [← hR]
    constructor
    · exact fun h => h.2
    · intro h; exact ⟨by rintro rfl; exact hno _ h, h⟩
  · have hj : es[j]? = some e0 := by simpa using h2
    have lj : j < es.size := (Array.getElem?_eq_some_iff.1 hj).1
    refine ⟨setBlock w b (.map (es.eraseIdxIfInBounds j) clock), by simp [Builtin.delete_, run_underlying ht, MapKept.run_getObj_map hb, K.check w _ hkey, h1, MapKept.run_setObj_map _ hb, Result.andThen, setBlock],
      turn_setBlock hb, Or.inl ⟨⟨e0.val, (hR _ _).2 ⟨j, e0, hj, h3, rfl⟩⟩, ⟨_, _, (heap_set hb).1, stamped_erase hs j, ?_, ?_, ?_⟩, by omega⟩⟩
    · intro x hx
      rw [Array.eraseIdxIfInBounds, dif_pos lj, Array.toList_eraseIdx] at hx
      exact hk x (List.mem_of_mem_eraseIdx hx)
    · intro k v
      have key2 : ∀ x : MapEntry, (∃ i : Nat, (es.eraseIdxIfInBounds j)[i]? = some x) ↔ ∃ i : Nat, i ≠ j ∧ es[i]? = some x := by
        intro x
        rw [← Array.mem_iff_getElem?, ← Array.mem_toList_iff, Array.eraseIdxIfInBounds, dif_pos lj, Array.toList_eraseIdx, List.mem_eraseIdx_iff_getElem?]
        simp
      constructor
      · rintro ⟨hne, hv⟩
        obtain ⟨i, x, hi, hxk, hxv⟩ := (hR _ _).1 hv
        obtain ⟨i', hi'⟩ := (key2 x).2 ⟨i, by rintro rfl; rw [hj] at hi; cases hi; exact hne (hxk.symm.trans h3), hi⟩
        exact ⟨i', x, hi', hxk, hxv⟩
      · rintro ⟨i, x, hi, hxk, hxv⟩
        obtain ⟨i', hne, hi'⟩ := (key2 x).1 ⟨i, hi⟩
        refine ⟨?_, (hR _ _).2 ⟨i', x, hi', hxk, hxv⟩⟩
        rintro rfl
        exact keys_ne hs hi' hj hne (hxk.trans h3.symm)
    · rw [Array.eraseIdxIfInBounds, dif_pos lj, Array.size_eraseIdx]; omega
theorem MapR.len (h : MapR P kt w b R n) (ht : P.underlying t = some (.map kt et)) (ty : TypeId) : (Builtin.len_ #[t] ty #[.map (some b)]).run P w = .ok (.int .i64 n) w := by
  obtain ⟨es, clock, hb, hs, hk, hR, hn⟩ := h.ex
  simp [Builtin.len_, run_underlying ht, MapKept.run_getObj_map hb, hn, Result.andThen, goInt]
end
end Go.Proofs.YtgapbecddgfkmaaGreat
