/- Plain law: a binary heap of keys with times, the least first: what an exchange upward or downward keeps, and that the first one is the least. -/
import GoSem.Op.String
import Derived.WalkKit
namespace Go.Proofs.Ytcakgponofbhkaa

/-! ### the order of texts -/
abbrev bl (x y : List UInt8) : Bool := Op.bytesLess x y
theorem bl_cons (a b : UInt8) (x y : List UInt8) : bl (a :: x) (b :: y) = (a < b || (a == b && bl x y)) := by simp [bl, Op.bytesLess]
theorem bl_irrefl : ∀ x : List UInt8, bl x x = false
  | [] => by simp [bl, Op.bytesLess]
  | a :: x => by rw [bl_cons, bl_irrefl x]; simp
theorem bl_trans : ∀ x y z : List UInt8, bl x y = true → bl y z = true → bl x z = true
  | [], _, [], _, h => by cases ‹List UInt8› <;> simp [bl, Op.bytesLess] at h
  | [], _, _ :: _, _, _ => by simp [bl, Op.bytesLess]
  | _ :: _, [], _, h, _ => by simp [bl, Op.bytesLess] at h
  | _ :: _, _ :: _, [], _, h => by simp [bl, Op.bytesLess] at h
  | a :: x, b :: y, c :: z, h1, h2 => by
    rw [bl_cons] at *
    simp only [Bool.or_eq_true, decide_eq_true_eq, Bool.and_eq_true, beq_iff_eq] at *
    rcases h1 with h1 | ⟨rfl, h1⟩
    · rcases h2 with h2 | ⟨rfl, h2⟩
      · exact Or.inl (UInt8.lt_trans h1 h2)
      · exact Or.inl h1
    · rcases h2 with h2 | ⟨rfl, h2⟩
      · exact Or.inl h2
      · exact Or.inr ⟨rfl, bl_trans x y z h1 h2⟩
theorem bl_total : ∀ x y : List UInt8, bl x y = false → bl y x = false → x = y
  | [], [], _, _ => rfl
  | [], _ :: _, h, _ => by simp [bl, Op.bytesLess] at h
  | _ :: _, [], _, h => by simp [bl, Op.bytesLess] at h
  | a :: x, b :: y, h1, h2 => by
    rw [bl_cons] at h1 h2
    simp only [Bool.or_eq_false_iff, decide_eq_false_iff_not, Bool.and_eq_false_iff, beq_eq_false_iff_ne] at h1 h2
    have e : a = b := UInt8.le_antisymm (UInt8.not_lt.1 h2.1) (UInt8.not_lt.1 h1.1)
    subst e
    have k1 : bl x y = false := by rcases h1.2 with h | h; exact absurd rfl h; exact h
    have k2 : bl y x = false := by rcases h2.2 with h | h; exact absurd rfl h; exact h
    rw [bl_total x y k1 k2]

/-! ### keys with times -/
abbrev KT := ByteArray × Int
/-- Is one due ahead of the other? -/
def klt (a b : KT) : Bool := decide (a.2 < b.2) || (a.2 == b.2 && bl a.1.data.toList b.1.data.toList)
theorem klt_irrefl (a : KT) : klt a a = false := by simp [klt, bl_irrefl]
theorem klt_trans {a b c : KT} (h1 : klt a b = true) (h2 : klt b c = true) : klt a c = true := by
  simp only [klt, Bool.or_eq_true, decide_eq_true_eq, Bool.and_eq_true, beq_iff_eq] at *
  rcases h1 with h1 | ⟨e1, h1⟩ <;> rcases h2 with h2 | ⟨e2, h2⟩
  · left; omega
  · left; omega
  · left; omega
  · right; exact ⟨by omega, bl_trans _ _ _ h1 h2⟩
theorem ba_ext {a b : ByteArray} (h : a.data.toList = b.data.toList) : a = b := by
  cases a; cases b; simp at h; simp [h]
theorem klt_total {a b : KT} (h1 : klt a b = false) (h2 : klt b a = false) : a = b := by
  simp only [klt, Bool.or_eq_false_iff, decide_eq_false_iff_not, Bool.and_eq_false_iff, beq_eq_false_iff_ne] at h1 h2
  have e : a.2 = b.2 := by omega
  have k1 : bl a.1.data.toList b.1.data.toList = false := by rcases h1.2 with h | h; exact absurd e h; exact h
  have k2 : bl b.1.data.toList a.1.data.toList = false := by rcases h2.2 with h | h; exact absurd e.symm h; exact h
  exact Prod.ext (ba_ext (bl_total _ _ k1 k2)) e
theorem klt_of_lt {a b : KT} (h : a.2 < b.2) : klt a b = true := by simp [klt, h]
theorem klt_of_eq {a b : KT} (h : a.2 = b.2) : klt a b = bl a.1.data.toList b.1.data.toList := by simp [klt, h]
theorem klt_of_gt {a b : KT} (h : b.2 < a.2) : klt a b = false := by
  simp only [klt, Bool.or_eq_false_iff, decide_eq_false_iff_not, Bool.and_eq_false_iff, beq_eq_false_iff_ne]
  exact ⟨by omega, Or.inl (by omega)⟩
/-- At most. -/
abbrev kle (a b : KT) : Prop := klt b a = false
theorem kle_refl (a : KT) : kle a a := klt_irrefl a
theorem kle_of_lt {a b : KT} (h : klt a b = true) : kle a b := by
  cases h2 : klt b a
  · exact h2
  · have := klt_trans h h2; rw [klt_irrefl] at this; cases this
theorem kle_trans {a b c : KT} (h1 : kle a b) (h2 : kle b c) : kle a c := by
  cases h : klt c a
  · exact h
  · cases h3 : klt a b
    · have := klt_total h3 h1; subst this; unfold kle at h2; rw [h] at h2; cases h2
    · have := klt_trans h h3; unfold kle at h2; rw [this] at h2; cases h2
theorem kle_total (a b : KT) : kle a b ∨ kle b a := by
  cases h : klt b a
  · exact Or.inl h
  · exact Or.inr (kle_of_lt h)

/-! ### the heap -/
abbrev par (c : Nat) : Nat := (c - 1) / 2
def HeapP (n : Nat) (g : Nat → KT) : Prop := ∀ c, 0 < c → c < n → kle (g (par c)) (g c)
structure ExceptP (n : Nat) (g : Nat → KT) (i : Nat) : Prop where
  rest : ∀ c, 0 < c → c < n → c ≠ i → par c ≠ i → kle (g (par c)) (g c)
  over : ∀ c, 0 < c → c < n → par c = i → 0 < i → kle (g (par i)) (g c)
def KidsP (n : Nat) (g : Nat → KT) (i : Nat) : Prop := ∀ c, 0 < c → c < n → par c = i → kle (g i) (g c)
def ParP (g : Nat → KT) (i : Nat) : Prop := 0 < i → kle (g (par i)) (g i)
def swf (g : Nat → KT) (i j : Nat) : Nat → KT := fun k => if k = j then g i else if k = i then g j else g k

theorem HeapP.except {n : Nat} {g : Nat → KT} (h : HeapP n g) (i : Nat) (hi : i < n) : ExceptP n g i :=
  ⟨fun c h0 h1 _ _ => h c h0 h1, fun c h0 h1 e hi0 => kle_trans (h i hi0 hi) (by have := h c h0 h1; rwa [e] at this)⟩
theorem heap_of {n : Nat} {g : Nat → KT} {i : Nat} (h : ExceptP n g i) (k : KidsP n g i) (p : ParP g i) : HeapP n g := fun c h0 h1 => by
  by_cases e : c = i
  · subst e; exact p h0
  · by_cases e2 : par c = i
    · rw [e2]; exact k c h0 h1 e2
    · exact h.rest c h0 h1 e e2
/-- Another time for one: all but that one stays. -/
theorem ExceptP.other {n : Nat} {g g' : Nat → KT} {i : Nat} (h : ExceptP n g i) (e : ∀ k, k < n → k ≠ i → g' k = g k) : ExceptP n g' i :=
  ⟨fun c h0 h1 h2 h3 => by rw [e c h1 h2, e _ (by unfold par; omega) h3]; exact h.rest c h0 h1 h2 h3,
   fun c h0 h1 h2 h3 => by
    have hp : par i ≠ i := by unfold par; omega
    have hc : c ≠ i := by rintro rfl; unfold par at h2; omega
    rw [e _ (by unfold par at *; omega) hp, e _ h1 hc]; exact h.over c h0 h1 h2 h3⟩

theorem up_step {n : Nat} {g : Nat → KT} {j : Nat} (h : ExceptP n g j) (k : KidsP n g j) (hj : 0 < j) (hn : j < n) (hl : klt (g j) (g (par j)) = true) :
    ExceptP n (swf g (par j) j) (par j) ∧ KidsP n (swf g (par j) j) (par j) := by
  have hpj : par j < j := by unfold par; omega
  refine ⟨⟨fun c h0 h1 h2 h3 => ?_, fun c h0 h1 h2 h3 => ?_⟩, fun c h0 h1 h2 => ?_⟩
  · unfold swf
    rw [if_neg h3, if_neg h2]
    have hcj : c ≠ j := by rintro rfl; exact h3 rfl
    rw [if_neg hcj]
    by_cases e : par c = j
    · rw [if_pos e]; exact h.over c h0 h1 e hj
    · rw [if_neg e]; exact h.rest c h0 h1 hcj e
  · unfold swf
    have e1 : par (par j) ≠ j := by unfold par; omega
    have e2 : par (par j) ≠ par j := by unfold par at *; omega
    rw [if_neg e1, if_neg e2]
    have hpp : kle (g (par (par j))) (g (par j)) := h.rest _ h3 (by omega) (by omega) e1
    by_cases e : c = j
    · rw [if_pos e]; exact hpp
    · rw [if_neg e]
      have hc : c ≠ par j := by intro e'; rw [e'] at h2; exact e2 h2
      rw [if_neg hc]
      exact kle_trans hpp (by have := h.rest c h0 h1 e (by rw [h2]; omega); rwa [h2] at this)
  · unfold swf
    rw [if_neg (by omega : par j ≠ j), if_pos rfl]
    by_cases e : c = j
    · rw [if_pos e]; exact kle_of_lt hl
    · rw [if_neg e]
      have hc : c ≠ par j := by rintro rfl; unfold par at *; omega
      rw [if_neg hc]
      have := h.rest c h0 h1 e (by rw [h2]; omega)
      rw [h2] at this
      exact kle_trans (kle_of_lt hl) this
theorem up_stop {n : Nat} {g : Nat → KT} {j : Nat} (h : ExceptP n g j) (k : KidsP n g j) (hs : j = 0 ∨ klt (g j) (g (par j)) = false) : HeapP n g :=
  heap_of h k (fun h0 => by rcases hs with h1 | h1; omega; exact h1)

theorem down_step {n : Nat} {g : Nat → KT} {i i0 j : Nat} (h : ExceptP n g i) (hj0 : 0 < j) (hj : j < n) (hp : par j = i)
    (hmin : ∀ c, 0 < c → c < n → par c = i → kle (g j) (g c)) (hl : klt (g j) (g i) = true) (hpar : i ≠ i0 → ParP g i) :
    ExceptP n (swf g i j) j ∧ (j ≠ i0 → ParP (swf g i j) j) := by
  have hij : i < j := by unfold par at hp; omega
  refine ⟨⟨fun c h0 h1 h2 h3 => ?_, fun c h0 h1 h2 _ => ?_⟩, fun _ _ => ?_⟩
  · unfold swf
    rw [if_neg h3, if_neg h2]
    by_cases e : c = i
    · subst e
      rw [if_neg (by unfold par; omega), if_pos rfl]
      exact h.over j hj0 hj hp h0
    · rw [if_neg e]
      by_cases e2 : par c = i
      · rw [if_pos e2]; exact hmin c h0 h1 e2
      · rw [if_neg e2]; exact h.rest c h0 h1 e e2
  · unfold swf
    rw [hp, if_neg (by omega), if_pos rfl]
    have hcj : c ≠ j := by rintro rfl; unfold par at h2; omega
    have hci : c ≠ i := by rintro rfl; unfold par at h2; omega
    rw [if_neg hcj, if_neg hci]
    have := h.rest c h0 h1 hci (by rw [h2]; omega)
    rwa [h2] at this
  · unfold swf
    rw [hp, if_neg (by omega), if_pos rfl, if_pos rfl]
    exact kle_of_lt hl

theorem heap_root {n : Nat} {g : Nat → KT} (h : HeapP n g) : ∀ k, k < n → kle (g 0) (g k) := by
  intro k
  induction k using Nat.strongRecOn with
  | _ k ih =>
    intro hk
    by_cases e : k = 0
    · subst e; exact kle_refl _
    · exact kle_trans (ih (par k) (by unfold par; omega) (by unfold par; omega)) (h k (by omega) hk)

end Go.Proofs.Ytcakgponofbhkaa
