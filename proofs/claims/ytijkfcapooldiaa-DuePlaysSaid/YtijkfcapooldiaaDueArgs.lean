/- Calls that came in, as a row; texts appended to texts. -/
import Derived.Test.YtijkfcapooldiaaDueSep
import Derived.Test.YtijkfcapooldiaaArgs
import Derived.Laws.AppendOwnNone
namespace Go.Proofs.Ytijkfcapooldiaa
open Go.RowKit Go.ChangeShapes
set_option linter.unusedVariables false
set_option maxRecDepth 100000

/-- A call: what it does, its key, its time. -/
abbrev CallT := Int × ByteArray × Int
structure ArgCalls (w : World) (a : Option Addr) (len cap : Nat) (cs : List CallT) : Prop where
  length : cs.length = len
  room : len ≤ cap
  most : cap ≤ maxLen
  small : ∀ c ∈ cs, c.2.1.size ≤ maxLen
  wf : ∀ c ∈ cs, (Lit.int .i64 c.1).wf = true ∧ (Lit.int .i64 c.2.2).wf = true
  at' : len = 0 ∨ ∃ b o, a = some ⟨b, o, none⟩ ∧ b < w.heap.size ∧ ∀ i (hi : i < cs.length), w.cell? ⟨b, o + (i * 3), none⟩ = some (.int .i64 cs[i].1) ∧ w.cell? ⟨b, o + (i * 3 + 1), none⟩ = some (.string cs[i].2.1) ∧ w.cell? ⟨b, o + (i * 3 + 2), none⟩ = some (.int .i64 cs[i].2.2)

theorem ArgCalls.read {w : World} {a : Option Addr} {len cap : Nat} {cs : List CallT} (h : ArgCalls w a len cap cs) {i : Nat} (hi : i < len) :
    ∃ (b o : Nat) (n : Int) (k : ByteArray) (t : Int), a = some ⟨b, o, none⟩ ∧ b < w.heap.size ∧ cs[i]? = some (n, k, t) ∧ k.size ≤ maxLen ∧ w.cell? ⟨b, o + i * 3, none⟩ = some (.int .i64 n) ∧ w.cell? ⟨b, o + i * 3 + 1, none⟩ = some (.string k) ∧ w.cell? ⟨b, o + i * 3 + 2, none⟩ = some (.int .i64 t) := by
  have hl := h.length
  rcases h.at' with h0 | ⟨b, o, rfl, hb, hc⟩
  · omega
  · obtain ⟨c0, c1, c2⟩ := hc i (by omega)
    exact ⟨b, o, _, _, _, rfl, hb, List.getElem?_eq_getElem (by omega), h.small _ (List.getElem_mem (by omega)), c0, c1, c2⟩

theorem openCalls {H : Type} {enc : TypeId × Value → H} {w : World} {base : Nat} {spare : Nat → Bool} {held : Bool} {a : Option Addr} {len cap : Nat} {d : DataW H} {p : List MemPlace}
    (h : DataW.Trod enc Try.prog w base spare held 40 (.slice a len cap) d p) : ∃ cs, ArgCalls w a len cap cs := by
  obtain ⟨h1, h2, h3⟩ := openRows Try.underlying40 Try.underlying42 (by kernel_rfl) (by kernel_rfl) (by decide) h
  rcases h3 with h3 | ⟨b, o, n, rfl, hb, h3⟩
  · subst h3; exact ⟨[], rfl, h1, h2, by simp, by simp, Or.inl rfl⟩
  · have one : ∀ i, i < len → ∃ c : CallT, (c.2.1.size ≤ maxLen ∧ (Lit.int .i64 c.1).wf = true ∧ (Lit.int .i64 c.2.2).wf = true) ∧ w.cell? ⟨b, o + (i * 3), none⟩ = some (.int .i64 c.1) ∧ w.cell? ⟨b, o + (i * 3 + 1), none⟩ = some (.string c.2.1) ∧ w.cell? ⟨b, o + (i * 3 + 2), none⟩ = some (.int .i64 c.2.2) := by
      intro i hi
      obtain ⟨v0, y0, c0, t0⟩ := h3 i hi 0 _ rfl
      obtain ⟨v1, y1, c1, t1⟩ := h3 i hi 1 _ rfl
      obtain ⟨v2, y2, c2, t2⟩ := h3 i hi 2 _ rfl
      obtain ⟨n0, e0, _, w0⟩ := DataW.trod_int Try.underlying3 t0
      obtain ⟨s1, e1, _, w1⟩ := DataW.trod_string Try.underlying9 t1
      obtain ⟨n2, e2, _, w2⟩ := DataW.trod_int Try.underlying2 t2
      simp only [List.cons.injEq, and_true] at e0 e1 e2
      subst e0; subst e1; subst e2
      exact ⟨(n0, s1, n2), ⟨w1, w0, w2⟩, c0, c1, c2⟩
    obtain ⟨cs, hl, hc⟩ := exists_list len one
    refine ⟨cs, hl, h1, h2, ?_, ?_, Or.inr ⟨b, o, rfl, hb, fun i hi => (hc i hi).2⟩⟩
    · intro c hcm
      obtain ⟨i, hi, rfl⟩ := List.mem_iff_getElem.1 hcm
      exact (hc i hi).1.1
    · intro c hcm
      obtain ⟨i, hi, rfl⟩ := List.mem_iff_getElem.1 hcm
      exact (hc i hi).1.2

/-- 'append(x, y...)' at texts. -/
theorem wpList_append_strs {w : World} {ops : Array Oper} {rest : List Oper} {o : Oper} {a : Act} {Q : Exit → Act → World → Prop} (hgd : o.guard = none) (s x : Operand)
    (ho : o.op = .call { callee := .builtin .append, args := #[s, x], argTypes := #[30, 30] }) (v v2 : Value) (l l2 : List ByteArray) (hs : a.eval s = v) (hx : a.eval x = v2) (h1 : Strs w v l) (h2 : Strs w v2 l2) (hb : l.length + l2.length ≤ 1099511627776)
    (h : ∀ v' w', Strs w' v' (l ++ l2) → w.grownBy w' v.ownBlock → (v'.ownBlock = v.ownBlock ∨ v'.ownBlock = some w.heap.size) → wpList Try.prog ops Q rest (a.put o.dst v') w') : wpList Try.prog ops Q (o :: rest) a w := by
  obtain ⟨i0, hinf, hz0, hz1, hz2⟩ := info_parts infoStr
  have hown := h1
  obtain ⟨g1, g2⟩ := h2
  rcases g2 with ⟨rfl, g2⟩ | ⟨g, cap, cur, rfl, _, g3, g4, g5, g6, g7⟩
  · have : l2 = [] := by simpa using g2
    subst this
    refine wpList_append_own_none hgd s x 30 ho 0 9 i0 1 Try.underlying30 hinf v _ _ hs hown hx ?_
    exact h v w (by simpa using h1) ⟨rfl, rfl, rfl, Nat.le_refl _, fun _ _ _ => rfl⟩ (Or.inl rfl)
  · refine wpList_append_own_at w hgd s x 30 ho 0 9 i0 (.string ByteArray.empty) 1 16 Try.underlying30 hinf hz0 hz1 hz2 rfl (by decide) v _ _ hs hown ⟨g, 0, none⟩ l2.length cap (l2.map Value.string) hx (by simp) ?_ ?_ ?_ ?_ (Nat.zero_le _) ?_
    · intro j u hu
      have hj : j < l2.length := by
        rcases Nat.lt_or_ge j l2.length with h | h
        · exact h
        · rw [List.getElem?_eq_none (by simpa using h)] at hu; cases hu
      rw [add_plain]
      refine cell_of g3 ?_
      rw [Nat.zero_add, ← hu, ← g7, List.getElem?_take, if_pos (by omega), Array.getElem?_toList]
    · intro u hu
      obtain ⟨s, _, rfl⟩ := List.mem_map.1 hu
      rfl
    · unfold maxLen; omega
    · omega
    · intro v' w' r1 r2 _ r3
      exact h v' w' (by unfold Strs; simpa using r1) r2 r3

theorem dueK_length (S : List KT) (now : Int) : (dueK S now).length ≤ S.length := by
  unfold dueK; simp; exact (List.takeWhile_sublist _).length_le
theorem dueR_length (S : List KT) (now : Int) : (dueR S now).length ≤ S.length := by
  unfold dueR; exact (List.dropWhile_sublist _).length_le
theorem due_parts {a b : Int} (h : a ≤ b) : ∀ S : List KT, dueK S a ++ dueK (dueR S a) b = dueK S b ∧ dueR (dueR S a) b = dueR S b
  | [] => by simp [dueK, dueR]
  | x :: S => by
    have ih := due_parts h S
    unfold dueK dueR at *
    rw [List.takeWhile_cons, List.dropWhile_cons]
    by_cases hx : x.2 ≤ a
    · simp only [hx, decide_true, if_true, List.map_cons, List.cons_append]
      rw [List.takeWhile_cons, List.dropWhile_cons]
      simp only [(by omega : x.2 ≤ b), decide_true, if_true, List.map_cons]
      exact ⟨by rw [ih.1], ih.2⟩
    · simp [hx]
end Go.Proofs.Ytijkfcapooldiaa
