/- Rows that are only read, wherever in a block they begin. -/
import Derived.Test.YtcakgponofbhkaaOwn
namespace Go.Proofs.Ytcakgponofbhkaa
open Go.RowKit
set_option linter.unusedVariables false
set_option maxRecDepth 100000

def ViewA (k : Nat) (v : Value) (n : Nat) (xs : List Value) : Asrt := fun w F => xs.length = n * k ∧ ∃ a cap, v = .slice a n cap ∧ n ≤ cap ∧ cap ≤ maxLen ∧
  ((a = none ∧ n = 0 ∧ F = []) ∨ ∃ g o, a = some ⟨g, o, none⟩ ∧ F = [g] ∧ g < w.heap.size ∧ ∀ j u, xs[j]? = some u → w.cell? ⟨g, o + j, none⟩ = some u)
theorem ViewA.framed (k : Nat) (v : Value) (n : Nat) (xs : List Value) : Framed (ViewA k v n xs) := by
  refine ⟨?_, ?_⟩
  · rintro w w' F ⟨hl, a, cap, rfl, h1, h2, h3⟩ hk
    refine ⟨hl, a, cap, rfl, h1, h2, ?_⟩
    rcases h3 with h3 | ⟨g, o, rfl, rfl, hg, hc⟩
    · exact Or.inl h3
    · have e := hk g (by simp)
      refine Or.inr ⟨g, o, rfl, rfl, ?_, fun j u hu => by rw [World.cell?_of_block (a := ⟨g, o + j, none⟩) e]; exact hc j u hu⟩
      have : w.heap[g]? = some w.heap[g] := Array.getElem?_eq_getElem hg
      exact hp_lt (e.trans this)
  · rintro w F ⟨hl, a, cap, rfl, h1, h2, h3⟩ b hb
    rcases h3 with ⟨_, _, rfl⟩ | ⟨g, o, rfl, rfl, hg, hc⟩
    · simp at hb
    · simp at hb; subst hb; exact hg
theorem RowA.view {T : TypeId} {k : Nat} {v : Value} {n : Nat} {xs : List Value} {w : World} {F : List Nat} (h : RowA T k v n xs w F) : ViewA k v n xs w F := by
  obtain ⟨a, cap, rfl, h1, h2, h3⟩ := h.shape
  obtain ⟨hF, hl, h4⟩ := h
  refine ⟨hl, a, cap, rfl, h1, h2, ?_⟩
  rcases h4 with ⟨e, h5⟩ | ⟨g, c, cur, e, _, hb, _⟩
  · cases e
    exact Or.inl ⟨rfl, h5, by rw [hF]; simp [Value.ownBlock]⟩
  · cases e
    refine Or.inr ⟨g, 0, rfl, by rw [hF]; simp [Value.ownBlock], hp_lt hb, fun j u hu => ?_⟩
    obtain ⟨b, e, hc⟩ := h3 j u hu
    cases e
    rw [Nat.zero_add]; exact hc
theorem ViewA.shape {k : Nat} {v : Value} {n : Nat} {xs : List Value} {w : World} {F : List Nat} (h : ViewA k v n xs w F) : ∃ a cap, v = .slice a n cap ∧ n ≤ cap ∧ cap ≤ maxLen := by
  obtain ⟨_, a, cap, e, h1, h2, _⟩ := h; exact ⟨a, cap, e, h1, h2⟩
theorem ViewA.at {k : Nat} {a : Option Addr} {n n' cap : Nat} {xs : List Value} {w : World} {F : List Nat} (h : ViewA k (.slice a n cap) n' xs w F) (hn : 0 < n') (hk : 0 < k) : ∃ g o, a = some ⟨g, o, none⟩ ∧ ∀ j u, xs[j]? = some u → w.cell? ⟨g, o + j, none⟩ = some u := by
  obtain ⟨hl, a', cap', e, h1, h2, h3⟩ := h
  cases e
  rcases h3 with ⟨_, h0, _⟩ | ⟨g, o, rfl, _, _, hc⟩
  · omega
  · exact ⟨g, o, rfl, hc⟩
theorem ViewA.src {k : Nat} {a : Option Addr} {n' n cap : Nat} {xs : List Value} {w : World} {F : List Nat} (h : ViewA k (.slice a n' cap) n xs w F) {m : Nat} (hm : m ≤ n) : Src w a m k (xs.take (m * k)) := by
  obtain ⟨hl, a', cap', e, h1, h2, h3⟩ := h
  cases e
  refine ⟨by rw [List.length_take, hl]; exact Nat.min_eq_left (Nat.mul_le_mul_right _ hm), fun h0 => ?_⟩
  rcases h3 with ⟨_, h0, _⟩ | ⟨g, o, rfl, _, _, hc⟩
  · omega
  · refine ⟨_, rfl, fun j u hu => ?_⟩
    rw [add_at]
    rw [List.getElem?_take] at hu
    split at hu
    · exact hc j u hu
    · cases hu
theorem ViewA.src_from {k : Nat} {a : Option Addr} {n' n cap : Nat} {xs : List Value} {w : World} {F : List Nat} (h : ViewA k (.slice a n' cap) n xs w F) {i : Nat} (hi : i ≤ n) : Src w (sufA a cap i k) (n - i) k (xs.drop (i * k)) := by
  obtain ⟨hl, a', cap', e, h1, h2, h3⟩ := h
  cases e
  refine ⟨by rw [List.length_drop, hl, Nat.sub_mul], fun h0 => ?_⟩
  rcases h3 with ⟨_, h0, _⟩ | ⟨g, o, rfl, _, _, hc⟩
  · omega
  · refine ⟨_, by rw [sufA, if_neg (by omega)]; rfl, fun j u hu => ?_⟩
    rw [List.getElem?_drop] at hu
    show w.cell? (((⟨g, o, none⟩ : Addr).add (i * k)).add j) = some u
    rw [add_at, add_at, Nat.add_assoc]
    exact hc _ u hu
theorem ViewA.cut {k : Nat} {a : Option Addr} {n' n cap : Nat} {xs : List Value} {w : World} {F : List Nat} (h : ViewA k (.slice a n' cap) n xs w F) {i : Nat} (hi : i ≤ n) : ViewA k (.slice (sufA a cap i k) (n - i) (cap - i)) (n - i) (xs.drop (i * k)) w F := by
  obtain ⟨hl, a', cap', e, h1, h2, h3⟩ := h
  cases e
  refine ⟨by rw [List.length_drop, hl, Nat.sub_mul], _, _, rfl, by omega, by omega, ?_⟩
  rcases h3 with ⟨rfl, rfl, rfl⟩ | ⟨g, o, rfl, rfl, hg, hc⟩
  · left; unfold sufA; refine ⟨by split <;> rfl, by omega, rfl⟩
  · right
    unfold sufA
    split
    · have : i * k = xs.length := by
        rw [hl]; congr 1; omega
      refine ⟨g, o, rfl, rfl, hg, fun j u hu => ?_⟩
      rw [List.drop_eq_nil_of_le (by rw [this]; exact Nat.le_refl _)] at hu
      simp at hu
    · refine ⟨g, o + i * k, by simp [add_at], rfl, hg, fun j u hu => ?_⟩
      rw [List.getElem?_drop] at hu
      rw [Nat.add_assoc]
      exact hc _ u hu
end Go.Proofs.Ytcakgponofbhkaa
