/- Rows in blocks of their own, of elements of so many cells. -/
import Derived.Test.YtcakgponofbhkaaSep
import Derived.Maps.AppendAt
namespace Go.Proofs.Ytcakgponofbhkaa
open Go.RowKit
set_option linter.unusedVariables false
set_option maxRecDepth 100000

def RowA (T : TypeId) (k : Nat) (v : Value) (n : Nat) (xs : List Value) : Asrt := fun w F => F = v.ownBlock.toList ∧ w.ownsRow 0 T k v n xs
theorem RowA.framed (T : TypeId) (k : Nat) (v : Value) (n : Nat) (xs : List Value) : Framed (RowA T k v n xs) := by
  refine ⟨?_, ?_⟩
  · rintro w w' F ⟨h0, h1, h2⟩ hk
    refine ⟨h0, h1, ?_⟩
    rcases h2 with h2 | ⟨g, cap, cur, rfl, h3, h4, h5⟩
    · exact Or.inl h2
    · exact Or.inr ⟨g, cap, cur, rfl, h3, by rw [hk g (by rw [h0]; simp [Value.ownBlock])]; exact h4, h5⟩
  · rintro w F ⟨h0, h1, h2⟩ b hb
    rw [h0] at hb
    rcases h2 with ⟨rfl, _⟩ | ⟨g, cap, cur, rfl, h3, h4, h5⟩
    · simp [Value.ownBlock] at hb
    · simp [Value.ownBlock] at hb; subst hb; exact hp_lt h4
theorem RowA.nil (T : TypeId) (k : Nat) (w : World) : RowA T k (.slice none 0 0) 0 [] w [] := ⟨rfl, by simp, Or.inl ⟨rfl, rfl⟩⟩
theorem In.rownil {F0 : List Nat} {w0 w : World} {R : List Asrt} (h : In F0 w0 w R) (T : TypeId) (k : Nat) : In F0 w0 w (RowA T k (.slice none 0 0) 0 [] :: R) := by
  obtain ⟨F, hs, hF⟩ := h.star
  refine ⟨fun B hB => ?_, ⟨F, ⟨[], F, RowA.nil T k w, hs, fun b hb => by simp at hb, rfl⟩, hF⟩, h.mod⟩
  rcases List.mem_cons.1 hB with rfl | hB
  · exact RowA.framed _ _ _ _ _
  · exact h.framed B hB
/-- The row's value, and what lies in it. -/
theorem RowA.shape {T : TypeId} {k : Nat} {v : Value} {n : Nat} {xs : List Value} {w : World} {F : List Nat} (h : RowA T k v n xs w F) :
    ∃ a cap, v = .slice a n cap ∧ n ≤ cap ∧ cap ≤ maxLen ∧ (∀ j u, xs[j]? = some u → ∃ b, a = some ⟨b, 0, none⟩ ∧ w.cell? ⟨b, j, none⟩ = some u) := by
  obtain ⟨h0, h1, h2⟩ := h
  rcases h2 with ⟨rfl, rfl⟩ | ⟨g, cap, cur, rfl, h3, h4, h5, h6, h7, h8⟩
  · refine ⟨none, 0, rfl, Nat.le_refl _, Nat.zero_le _, fun j u hu => ?_⟩
    have : xs = [] := by simpa using h1
    subst this; simp at hu
  · refine ⟨_, cap, rfl, h5, h6, fun j u hu => ⟨g, rfl, cell_of h4 ?_⟩⟩
    rw [← h8, List.getElem?_take] at hu
    split at hu
    · rw [← hu, Array.getElem?_toList]
    · cases hu
theorem info_parts' {P : Program} {T : TypeId} {z : Value} {k by' : Nat} (h : (P.info? T).map (fun i => (i.zero, i.size, i.bytes)) = some (some z, k, by')) : ∃ i, P.info? T = some i ∧ i.zero = some z ∧ i.size = k ∧ i.bytes = by' := by
  cases e : P.info? T with
  | none => rw [e] at h; cases h
  | some i => rw [e] at h; simp at h; exact ⟨i, rfl, h.1, h.2.1, h.2.2⟩

/-- 'append(s, x)' of one element. -/
theorem append_elem {P : Program} {F0 : List Nat} {w0 w : World} {R : List Asrt} {T T' : TypeId} {k : Nat} {v : Value} {n : Nat} {xs : List Value} (h : In F0 w0 w R) (i : Nat) (hA : R[i]? = some (RowA T k v n xs))
    {ops : Array Oper} {rest : List Oper} {o : Oper} {a : Act} {Q : Exit → Act → World → Prop} (hgd : o.guard = none) (s x : Operand) (ST : TypeId)
    (ho : o.op = .call { callee := .builtin .append, args := #[s, x], argTypes := #[ST, ST] }) {z : Value} {by' : Nat} (hST : P.underlying ST = some (.slice T)) (hinf : (P.info? T).map (fun i => (i.zero, i.size, i.bytes)) = some (some z, k, by'))
    (hzs : z.cells.size = k) (hk : 0 < k) (hby : by' ≤ 1024) (hs : a.eval s = v) (g : Nat) (us : Array Value) (hx : a.eval x = .slice (some ⟨g, 0, none⟩) 1 1) (hg : w.heap[g]? = some (.cells us T' (0, 0))) (hus : us.size = k)
    (h1 : ∀ u ∈ us.toList, u.oneCell' = true) (hn : n ≤ 1000000000)
    (hK : ∀ v' w', In F0 w0 w' (R.set i (RowA T k v' (n + 1) (xs ++ us.toList))) → wpList P ops Q rest (a.put o.dst v') w') : wpList P ops Q (o :: rest) a w := by
  obtain ⟨F, hrow⟩ := h.get i hA
  obtain ⟨i0, j1, j2, j3, j4⟩ := info_parts' hinf
  refine wpList_append_own_at w hgd s x ST ho 0 T i0 z k by' hST j1 j2 j3 j4 hzs hk v n xs hs hrow.2 ⟨g, 0, none⟩ 1 1 us.toList hx (by simp [hus]) ?_ h1 ?_ ?_ (Nat.zero_le _) ?_
  · intro j u hu
    have : (⟨g, 0, none⟩ : Addr).add j = ⟨g, j, none⟩ := by unfold Addr.add; split <;> simp_all
    rw [this]
    exact cell_of hg (by rw [← hu, Array.getElem?_toList])
  · unfold maxLen; omega
  · have : (n + 1) * by' ≤ 1000000001 * 1024 := Nat.mul_le_mul (by omega) hby
    omega
  · intro v' w' r1 r2 _ r3
    refine hK v' w' (h.step i hA (RowA.framed _ _ _ _ _) fun F hF => ⟨v'.ownBlock.toList, ⟨rfl, r1⟩, fun b hb => ?_, (Mod.refl F w).of_grown r2 (fun k hk => Or.inl (by rw [hF.1, hk]; simp))⟩)
    rw [hF.1]
    rcases r3 with r3 | r3
    · left; rwa [r3] at hb
    · right; rw [r3] at hb; simp at hb; omega
end Go.Proofs.Ytcakgponofbhkaa
