/- What walks with things apart have in common: some of several things, a value and a thing, a thing that says 'there is a value'. -/
import Derived.Test.YtcakgponofbhkaaApp
namespace Go.Proofs.Ytcakgponofbhkaa
open Go.RowKit
set_option linter.unusedVariables false
set_option maxRecDepth 100000

/-- A thing, and that the call's value is this. -/
def Val (r v : Value) (A : Asrt) : Asrt := fun w F => v = r ∧ A w F
theorem Val.framed {r v : Value} {A : Asrt} (h : Framed A) : Framed (Val r v A) := ⟨fun h1 hk => ⟨h1.1, h.keep h1.2 hk⟩, fun h1 => h.lt h1.2⟩
theorem own_val {F0 : List Nat} {w0 w : World} {R : List Asrt} {A : Asrt} {A' : Asrt} {r : Value} {P : Program} {f : FuncId} {args : Array Value} (h : In F0 w0 w R) (i : Nat) (hA : R[i]? = some A) (hfr : Framed A')
    (c : ∀ F, A w F → Calls P f args w (Gives w F (fun v => Val r v A'))) : Calls P f args w fun e w' => e = .returned r ∧ In F0 w0 w' (R.set i A') := by
  refine (h.call i hA (fun v => Val.framed hfr) c).mono fun e w' ⟨v, he, ho⟩ => ?_
  have hi := (List.getElem?_eq_some_iff.1 hA).1
  obtain ⟨F, hv⟩ := ho.get i (A := Val r v A') (by simp [hi])
  have ho2 := ho.imp (A := Val r v A') (A' := A') i (by simp [hi]) hfr (fun F hF => hF.2)
  rw [List.set_set] at ho2
  exact ⟨by rw [he, hv.1], ho2⟩
theorem star_app {w : World} : ∀ {A1 R : List Asrt} {F : List Nat}, Star (A1 ++ R) w F → ∃ F1 F2, Star A1 w F1 ∧ Star R w F2 ∧ Apart F1 F2 ∧ F = F1 ++ F2
  | [], R, F, h => ⟨[], F, rfl, h, fun b hb => by simp at hb, rfl⟩
  | A :: A1, R, F, ⟨G1, G2, g1, g2, g3, e⟩ => by
    obtain ⟨F1, F2, h1, h2, h3, e2⟩ := star_app g2
    refine ⟨G1 ++ F1, F2, ⟨G1, F1, g1, h1, fun b hb hb2 => g3 b hb (by rw [e2]; exact List.mem_append_left _ hb2), rfl⟩, h2, ?_, by rw [e, e2, List.append_assoc]⟩
    intro b hb hb2
    rcases List.mem_append.1 hb with hb | hb
    · exact g3 b hb (by rw [e2]; exact List.mem_append_right _ hb2)
    · exact h3 b hb hb2
theorem In.join {F0 : List Nat} {w0 w : World} {A1 R : List Asrt} (h : In F0 w0 w (A1 ++ R)) : In F0 w0 w (Star A1 :: R) := by
  obtain ⟨F, hs, hF⟩ := h.star
  obtain ⟨F1, F2, h1, h2, h3, e⟩ := star_app hs
  refine ⟨fun B hB => ?_, ⟨F, ⟨F1, F2, h1, h2, h3, e⟩, hF⟩, h.mod⟩
  rcases List.mem_cons.1 hB with rfl | hB
  · exact Framed.star (fun C hC => h.framed C (List.mem_append_left _ hC))
  · exact h.framed B (List.mem_append_right _ hB)
theorem RowA.at {T : TypeId} {k : Nat} {a : Option Addr} {n n' cap : Nat} {xs : List Value} {w : World} {F : List Nat} (h : RowA T k (.slice a n cap) n' xs w F) : n = n' ∧ ∀ j u, xs[j]? = some u → ∃ b, a = some ⟨b, 0, none⟩ ∧ w.cell? ⟨b, j, none⟩ = some u := by
  obtain ⟨a', cap', e, -, -, hr⟩ := h.shape
  cases e
  exact ⟨rfl, hr⟩
theorem In.below {F0 : List Nat} {w0 w w' : World} {R : List Asrt} {A : Asrt} {F' : List Nat} (h : In F0 w0 w R) (hb : Below w.heap.size w w') (fA : Framed A) (hA : A w' F') (hn : ∀ b ∈ F', w.heap.size ≤ b) : In F0 w0 w' (A :: R) := by
  obtain ⟨F, hs, hF⟩ := h.star
  have fr := Framed.star h.framed
  have hm : Mod [] w w' := ⟨hb.os, hb.tape, hb.output, hb.size, fun k hk _ => hb.block k hk⟩
  refine ⟨fun B hB => ?_, ⟨F' ++ F, ⟨F', F, hA, fr.keep hs (fun b hb2 => hb.block b (fr.lt hs b hb2)), fun b h1 h2 => ?_, rfl⟩, fun b h1 => ?_⟩, h.mod.trans hm (fun x hx => by simp at hx)⟩
  · rcases List.mem_cons.1 hB with rfl | hB
    · exact fA
    · exact h.framed B hB
  · exact absurd (fr.lt hs b h2) (by have := hn b h1; omega)
  · rcases List.mem_append.1 h1 with h1 | h1
    · exact Or.inr (Nat.le_trans h.mod.size (hn b h1))
    · exact hF b h1
theorem row_new {B : Nat} {T : TypeId} {k : Nat} {w : World} {v : Value} {n : Nat} {xs : List Value} (h : w.ownsRow B T k v n xs) : RowA T k v n xs w v.ownBlock.toList ∧ ∀ b ∈ v.ownBlock.toList, B ≤ b := by
  obtain ⟨h1, h2⟩ := h
  refine ⟨⟨rfl, h1, ?_⟩, fun b hb => ?_⟩
  · rcases h2 with h2 | ⟨g, cap, cur, rfl, h3, h4⟩
    · exact Or.inl h2
    · exact Or.inr ⟨g, cap, cur, rfl, Nat.zero_le _, h4⟩
  · rcases h2 with ⟨rfl, _⟩ | ⟨g, cap, cur, rfl, h3, h4⟩
    · simp [Value.ownBlock] at hb
    · simp [Value.ownBlock] at hb; omega
theorem append_elem' {P : Program} {F0 : List Nat} {w0 w : World} {R : List Asrt} {T T' : TypeId} {k : Nat} {v : Value} {n : Nat} {xs : List Value} (h : In F0 w0 w R) (i : Nat) (hA : R[i]? = some (RowA T k v n xs))
    {ops : Array Oper} {rest : List Oper} {o : Oper} {a : Act} {Q : Exit → Act → World → Prop} (hgd : o.guard = none) (s x : Operand) (ST : TypeId)
    (ho : o.op = .call { callee := .builtin .append, args := #[s, x], argTypes := #[ST, ST] }) {by' : Nat} (hST : P.underlying ST = some (.slice T)) (hinf : (P.info? T).map (fun i => (i.zero.map (fun z => z.cells.size), i.size, i.bytes)) = some (some k, k, by'))
    (hk : 0 < k) (hby : by' ≤ 1024) (hs : a.eval s = v) (g : Nat) (us : Array Value) (hx : a.eval x = .slice (some ⟨g, 0, none⟩) 1 1) (hg : w.heap[g]? = some (.cells us T' (0, 0))) (hus : us.size = k)
    (h1 : ∀ u ∈ us.toList, u.oneCell' = true) (hn : n ≤ 1000000000)
    (hK : ∀ v' w', In F0 w0 w' (R.set i (RowA T k v' (n + 1) (xs ++ us.toList))) → wpList P ops Q rest (a.put o.dst v') w') : wpList P ops Q (o :: rest) a w := by
  cases e : P.info? T with
  | none => rw [e] at hinf; cases hinf
  | some i0 =>
    rw [e] at hinf
    simp only [Option.map_some, Option.some.injEq, Prod.mk.injEq] at hinf
    cases hz : i0.zero with
    | none => rw [hz] at hinf; simp at hinf
    | some z =>
      rw [hz] at hinf
      simp only [Option.map_some, Option.some.injEq] at hinf
      exact append_elem h i hA hgd s x ST ho (z := z) (by' := by') hST (by rw [e]; simp [hz, hinf.2.1, hinf.2.2]) hinf.1 hk hby hs g us hx hg hus h1 hn hK
theorem star_apart {w : World} : ∀ {R : List Asrt} {F : List Nat} {i j : Nat} {A B : Asrt}, Star R w F → i < j → R[i]? = some A → R[j]? = some B → ∃ F1 F2, A w F1 ∧ B w F2 ∧ Apart F1 F2 ∧ ∀ b ∈ F2, b ∈ F
  | [], _, _, _, _, _, _, _, h1, _ => by simp at h1
  | C :: R, F, 0, j + 1, A, B, ⟨G1, G2, g1, g2, g3, e⟩, _, h1, h2 => by
    simp at h1 h2; subst h1
    obtain ⟨F2, k1, k2⟩ := star_one g2 h2
    exact ⟨G1, F2, g1, k1, fun b hb hb2 => g3 b hb (k2 b hb2), fun b hb => by rw [e]; exact List.mem_append_right _ (k2 b hb)⟩
  | C :: R, F, i + 1, j + 1, A, B, ⟨G1, G2, g1, g2, g3, e⟩, hij, h1, h2 => by
    simp at h1 h2
    obtain ⟨F1, F2, k1, k2, k3, k4⟩ := star_apart g2 (by omega) h1 h2
    exact ⟨F1, F2, k1, k2, k3, fun b hb => by rw [e]; exact List.mem_append_right _ (k4 b hb)⟩
where star_one {w : World} : ∀ {R : List Asrt} {F : List Nat} {j : Nat} {B : Asrt}, Star R w F → R[j]? = some B → ∃ F2, B w F2 ∧ ∀ b ∈ F2, b ∈ F
  | [], _, _, _, _, h => by simp at h
  | C :: R, F, 0, B, ⟨G1, G2, g1, g2, g3, e⟩, h => by
    simp at h; subst h
    exact ⟨G1, g1, fun b hb => by rw [e]; exact List.mem_append_left _ hb⟩
  | C :: R, F, j + 1, B, ⟨G1, G2, g1, g2, g3, e⟩, h => by
    simp at h
    obtain ⟨F2, k1, k2⟩ := star_one g2 h
    exact ⟨F2, k1, fun b hb => by rw [e]; exact List.mem_append_right _ (k2 b hb)⟩
theorem In.ne {F0 : List Nat} {w0 w : World} {R : List Asrt} (h : In F0 w0 w R) {b b' : Nat} {C C' : Array Value} {T T' : TypeId} (i j : Nat) (hij : i < j) (h1 : R[i]? = some (Cells b C T)) (h2 : R[j]? = some (Cells b' C' T')) : b ≠ b' := by
  obtain ⟨F, hs, _⟩ := h.star
  obtain ⟨F1, F2, k1, k2, k3, _⟩ := star_apart hs hij h1 h2
  intro e
  exact k3 b (by rw [k1.1]; simp) (by rw [k2.1, e]; simp)
theorem In.put {F0 : List Nat} {w0 w : World} {R : List Asrt} (h : In F0 w0 w R) {b : Nat} {C : Array Value} {T : TypeId} (i : Nat) (hA : R[i]? = some (Cells b C T)) (o : Nat) (v : Value) : In F0 w0 (w.setCell ⟨b, o, none⟩ v) (R.set i (Cells b (C.setIfInBounds o v) T)) :=
  h.step i hA (Cells.framed _ _ _) fun F hF => ⟨F, ⟨hF.1, hp_setCell_same hF.2⟩, Grew.refl _ _, (Mod.refl F w).setCell (Or.inl (by rw [hF.1]; simp)) _⟩
/-- A value, and a thing that is there now. -/
def GV (r : Value) (A : Asrt) (w : World) (F : List Nat) (e : Ending) (w' : World) : Prop := Gives w F (fun v => Val r v A) e w'
theorem GV.mk {r : Value} {A : Asrt} {w w' : World} {F : List Nat} {R : List Asrt} (h : In F w w' R) (hA : ∀ F', Star R w' F' → A w' F') : GV r A w F (.returned r) w' :=
  h.gives r _ (fun F' hs => ⟨rfl, hA F' hs⟩)
theorem In.take {F0 : List Nat} {w0 w : World} {R1 R2 : List Asrt} (h : In F0 w0 w (R1 ++ R2)) : In F0 w0 w R1 := by
  obtain ⟨F, hs, hF⟩ := h.star
  obtain ⟨F1, F2, h1, h2, h3, rfl⟩ := star_app hs
  exact ⟨fun A hA => h.framed A (List.mem_append_left _ hA), ⟨F1, h1, fun b hb => hF b (List.mem_append_left _ hb)⟩, h.mod⟩
/-- Some of them, in this order. -/
theorem In.sel {F0 : List Nat} {w0 w : World} {R : List Asrt} (h : In F0 w0 w R) (is : List Nat) (hn : is.Nodup) (hb0 : is.all (fun i => decide (i < R.length)) = true) : In F0 w0 w (is.map (fun i => R.getD i (Cells 0 #[] 0))) := by
  have hb : ∀ i ∈ is, i < R.length := fun i hi => by simpa using List.all_eq_true.1 hb0 i hi
  have e : (List.range R.length).map (fun i => R.getD i (Cells 0 #[] 0)) = R := by
    apply List.ext_getElem (by simp)
    intro i h1 h2
    simp [h2]
  have hp : (List.range R.length).Perm (is ++ (List.range R.length).filter (fun i => decide (i ∉ is))) := by
    refine (List.perm_ext_iff_of_nodup List.nodup_range ?_).2 (fun i => ?_)
    · rw [List.nodup_append]
      refine ⟨hn, List.nodup_range.filter _, fun a ha b hb' => ?_⟩
      have := (List.mem_filter.1 hb').2
      simp at this
      rintro rfl; exact this ha
    · simp only [List.mem_append, List.mem_filter, List.mem_range, decide_eq_true_eq]
      constructor
      · intro hi
        by_cases hm : i ∈ is
        · exact Or.inl hm
        · exact Or.inr ⟨hi, hm⟩
      · rintro (hi | hi)
        · exact hb i hi
        · exact hi.1
  have h2 := hp.map (fun i => R.getD i (Cells 0 #[] 0))
  rw [e, List.map_append] at h2
  exact In.take (h.perm h2)
theorem in_one {A : Asrt} {w : World} {F : List Nat} (hA : Framed A) (h : A w F) : In F w w [A] :=
  In.start (by simp [hA]) ⟨F, [], h, rfl, fun b _ => by simp, by simp⟩
theorem In.open1 {G : Value → List Asrt} {F0 : List Nat} {w0 w : World} (hG : ∀ v, ∀ A ∈ G v, Framed A) (h : In F0 w0 w [fun w F => ∃ v, Star (G v) w F]) : ∃ v, In F0 w0 w (G v) := by
  obtain ⟨F, ⟨F1, F2, ⟨v, h1⟩, h2, h3, rfl⟩, hF⟩ := h.star
  obtain rfl : F2 = [] := h2
  exact ⟨v, hG v, ⟨F1, h1, fun b hb => hF b (by simp [hb])⟩, h.mod⟩
theorem row_prefix {P : Program} {ST T : TypeId} {k by' : Nat} (hST : P.underlying ST = some (.slice T)) (hinf : (P.info? T).map (fun i => (i.zero.map (fun z => z.cells.size), i.size, i.bytes)) = some (some k, k, by')) {a : Option Addr} {n n' cap j : Nat} {xs : List Value} {w0 : World} {F : List Nat} (h : RowA T k (.slice a n cap) n' xs w0 F) (hj : j ≤ cap) (w : World) :
    (Instr.slice ST (.slice a n cap) none (some (.int .i64 j)) none).run P w = .ok (.slice a j cap) w := by
  cases a with
  | none => exact run_prefix_none hST hinf _ _ _ hj w
  | some ad =>
    obtain ⟨bb, rfl⟩ : ∃ bb, ad = ⟨bb, 0, none⟩ := by
      obtain ⟨_, h4 | ⟨g, c, cur, e, _⟩⟩ := h.2
      · cases h4.1
      · cases e; exact ⟨g, rfl⟩
    exact run_prefix hST hinf _ _ _ _ hj w
theorem In.ex {G : Value → Asrt} {F0 : List Nat} {w0 w : World} {R : List Asrt} (h : In F0 w0 w R) (i : Nat) (hA : R[i]? = some (fun w F => ∃ v, G v w F)) (hG : ∀ v, Framed (G v)) : ∃ v, In F0 w0 w (R.set i (G v)) := by
  have hp := h.perm (front hA)
  obtain ⟨F, ⟨F1, F2, ⟨v, h1⟩, h2, h3, rfl⟩, hF⟩ := hp.star
  have : In F0 w0 w (G v :: R.eraseIdx i) := ⟨fun B hB => by
    rcases List.mem_cons.1 hB with rfl | hB
    · exact hG v
    · exact hp.framed B (List.mem_cons_of_mem _ hB), ⟨_, ⟨F1, F2, h1, h2, h3, rfl⟩, hF⟩, h.mod⟩
  exact ⟨v, this.perm (back hA)⟩
end Go.Proofs.Ytcakgponofbhkaa
