/- Things in memory that lie apart: what a call on one of them leaves of the others. -/
import Derived.Test.YtcakgponofbhkaaMem
import Derived.Calls
namespace Go.Proofs.Ytcakgponofbhkaa
open Go.RowKit
set_option linter.unusedVariables false
set_option maxRecDepth 100000

/-- A thing in memory: the blocks F hold it. -/
abbrev Asrt := World → List Nat → Prop
structure Framed (A : Asrt) : Prop where
  keep : ∀ {w w' F}, A w F → (∀ b ∈ F, w'.heap[b]? = w.heap[b]?) → A w' F
  lt : ∀ {w F}, A w F → ∀ b ∈ F, b < w.heap.size

/-- Several, each apart from the others. -/
def Star : List Asrt → Asrt
  | [], _, F => F = []
  | A :: R, w, F => ∃ F1 F2, A w F1 ∧ Star R w F2 ∧ Apart F1 F2 ∧ F = F1 ++ F2

theorem Framed.star : ∀ {R : List Asrt}, (∀ A ∈ R, Framed A) → Framed (Star R)
  | [], _ => ⟨fun h _ => h, fun h b hb => by rw [show _ = _ from h] at hb; simp at hb⟩
  | A :: R, hR => by
    have hA := hR A (by simp)
    have ih := Framed.star (R := R) (fun B hB => hR B (List.mem_cons_of_mem _ hB))
    refine ⟨?_, ?_⟩
    · rintro w w' F ⟨F1, F2, h1, h2, h3, rfl⟩ hk
      exact ⟨F1, F2, hA.keep h1 (fun b hb => hk b (List.mem_append_left _ hb)), ih.keep h2 (fun b hb => hk b (List.mem_append_right _ hb)), h3, rfl⟩
    · rintro w F ⟨F1, F2, h1, h2, h3, rfl⟩ b hb
      rcases List.mem_append.1 hb with hb | hb
      · exact hA.lt h1 b hb
      · exact ih.lt h2 b hb

/-- What a call on the blocks F leaves: its value, the thing that is there now, the rest as it was. -/
def Gives (w : World) (F : List Nat) (A' : Value → Asrt) (e : Ending) (w' : World) : Prop :=
  ∃ v, e = .returned v ∧ ∃ F', A' v w' F' ∧ Grew F F' w ∧ Mod F w w'

theorem star_frame {A' : Asrt} {R : List Asrt} {w w' : World} {F F' G : List Nat} (hR : ∀ B ∈ R, Framed B) (hs : Star R w G) (ha : Apart F G) (h' : A' w' F') (hg : Grew F F' w) (hm : Mod F w w') :
    Star (A' :: R) w' (F' ++ G) ∧ Grew (F ++ G) (F' ++ G) w ∧ Mod (F ++ G) w w' := by
  have fr := Framed.star hR
  refine ⟨⟨F', G, h', fr.keep hs (fun b hb => hm.block b (fr.lt hs b hb) (fun hf => ha b hf hb)), ha.grew hg (fr.lt hs), rfl⟩, ?_, hm.mono (fun b hb => List.mem_append_left _ hb)⟩
  intro b hb
  rcases List.mem_append.1 hb with hb | hb
  · rcases hg b hb with h | h
    · exact Or.inl (List.mem_append_left _ h)
    · exact Or.inr h
  · exact Or.inl (List.mem_append_right _ hb)

/-- Things, each apart from the others, in blocks of F0 or in blocks that are new since w0; what else was there in w0 is as it was. -/
structure In (F0 : List Nat) (w0 w : World) (R : List Asrt) : Prop where
  framed : ∀ A ∈ R, Framed A
  star : ∃ F, Star R w F ∧ Grew F0 F w0
  mod : Mod F0 w0 w
/-- .. of the call's own. -/
abbrev Own (w0 w : World) (R : List Asrt) : Prop := In [] w0 w R

theorem Own.nil (w : World) : Own w w [] := ⟨by simp, ⟨[], rfl, fun b hb => by simp at hb⟩, Mod.refl _ _⟩
theorem In.start {R : List Asrt} {w : World} {F : List Nat} (hR : ∀ A ∈ R, Framed A) (h : Star R w F) : In F w w R := ⟨hR, ⟨F, h, Grew.refl _ _⟩, Mod.refl _ _⟩
/-- What a method leaves. -/
theorem In.gives {F0 : List Nat} {w0 w : World} {R : List Asrt} (h : In F0 w0 w R) (v : Value) (A' : Value → Asrt) (hA : ∀ F, Star R w F → A' v w F) : Gives w0 F0 A' (.returned v) w := by
  obtain ⟨F, hs, hg⟩ := h.star
  exact ⟨v, rfl, F, hA F hs, hg, h.mod⟩

theorem star_perm {R R' : List Asrt} (h : R.Perm R') : ∀ {w F}, Star R w F → ∃ F', Star R' w F' ∧ F.Perm F' := by
  induction h with
  | nil => intro w F h; exact ⟨F, h, List.Perm.refl _⟩
  | cons A _ ih =>
    rintro w F ⟨F1, F2, h1, h2, h3, rfl⟩
    obtain ⟨F', h4, h5⟩ := ih h2
    exact ⟨F1 ++ F', ⟨F1, F', h1, h4, fun b hb hb' => h3 b hb (h5.mem_iff.2 hb'), rfl⟩, h5.append_left _⟩
  | swap A B R =>
    rintro w F ⟨F1, F2, h1, ⟨F3, F4, h3, h4, h5, rfl⟩, h6, rfl⟩
    refine ⟨F3 ++ (F1 ++ F4), ⟨F3, F1 ++ F4, h3, ⟨F1, F4, h1, h4, fun b hb hb' => h6 b hb (List.mem_append_right _ hb'), rfl⟩, ?_, rfl⟩, ?_⟩
    · intro b hb hb'
      rcases List.mem_append.1 hb' with h | h
      · exact h6 b h (List.mem_append_left _ hb)
      · exact h5 b hb h
    · rw [← List.append_assoc, ← List.append_assoc]
      exact (List.perm_append_comm).append_right _
  | trans _ _ ih1 ih2 =>
    intro w F h
    obtain ⟨F1, h1, p1⟩ := ih1 h
    obtain ⟨F2, h2, p2⟩ := ih2 h1
    exact ⟨F2, h2, p1.trans p2⟩
theorem In.perm {F0 : List Nat} {w0 w : World} {R R' : List Asrt} (h : In F0 w0 w R) (hp : R.Perm R') : In F0 w0 w R' := by
  obtain ⟨F, hs, hF⟩ := h.star
  obtain ⟨F', hs', hp'⟩ := star_perm hp hs
  exact ⟨fun A hA => h.framed A (hp.mem_iff.2 hA), ⟨F', hs', fun b hb => hF b (hp'.mem_iff.2 hb)⟩, h.mod⟩
theorem In.drop {F0 : List Nat} {w0 w : World} {A : Asrt} {R : List Asrt} (h : In F0 w0 w (A :: R)) : In F0 w0 w R := by
  obtain ⟨F, ⟨F1, F2, h1, h2, h3, rfl⟩, hF⟩ := h.star
  exact ⟨fun B hB => h.framed B (List.mem_cons_of_mem _ hB), ⟨F2, h2, fun b hb => hF b (List.mem_append_right _ hb)⟩, h.mod⟩

theorem front {α : Type} {R : List α} {i : Nat} {A : α} (h : R[i]? = some A) : R.Perm (A :: R.eraseIdx i) := by
  obtain ⟨hi, rfl⟩ := List.getElem?_eq_some_iff.1 h
  have := List.take_append_drop i R
  rw [List.drop_eq_getElem_cons hi] at this
  rw [List.eraseIdx_eq_take_drop_succ]
  conv => lhs; rw [← this]
  exact List.perm_middle
theorem back {α : Type} {R : List α} {i : Nat} {A B : α} (h : R[i]? = some A) : (B :: R.eraseIdx i).Perm (R.set i B) := by
  have hi := (List.getElem?_eq_some_iff.1 h).1
  have h2 : (R.set i B)[i]? = some B := by simp [hi]
  have := front h2
  rw [List.eraseIdx_set_eq] at this
  exact this.symm

/-- What is known of one of them. -/
theorem In.get {F0 : List Nat} {w0 w : World} {R : List Asrt} {A : Asrt} (h : In F0 w0 w R) (i : Nat) (hA : R[i]? = some A) : ∃ F, A w F := by
  obtain ⟨F, ⟨F1, F2, h1, _⟩, _⟩ := (h.perm (front hA)).star
  exact ⟨F1, h1⟩

/-- A call on one of them. -/
theorem In.call {F0 : List Nat} {w0 w : World} {R : List Asrt} {A : Asrt} {A' : Value → Asrt} {P : Program} {f : FuncId} {args : Array Value} (h : In F0 w0 w R) (i : Nat) (hA : R[i]? = some A) (hfr : ∀ v, Framed (A' v))
    (c : ∀ F, A w F → Calls P f args w (Gives w F A')) : Calls P f args w fun e w' => ∃ v, e = .returned v ∧ In F0 w0 w' (R.set i (A' v)) := by
  have hp := h.perm (front hA)
  obtain ⟨F, ⟨F1, F2, h1, h2, h3, rfl⟩, hF⟩ := hp.star
  refine (c F1 h1).mono fun e w' ⟨v, he, F', h4, h5, h6⟩ => ⟨v, he, ?_⟩
  obtain ⟨s1, s2, s3⟩ := star_frame (A' := A' v) (fun B hB => hp.framed B (List.mem_cons_of_mem _ hB)) h2 h3 h4 h5 h6
  have hsz := h.mod.size
  have : In F0 w0 w' (A' v :: R.eraseIdx i) := by
    refine ⟨fun B hB => ?_, ⟨_, s1, fun b hb => ?_⟩, h.mod.trans s3 (fun b hb => hF b hb)⟩
    · rcases List.mem_cons.1 hB with rfl | hB
      · exact hfr v
      · exact hp.framed B (List.mem_cons_of_mem _ hB)
    · rcases s2 b hb with h | h
      · exact hF b h
      · exact Or.inr (by omega)
  exact this.perm (back hA)

/-- A step on one of them. -/
theorem In.step {F0 : List Nat} {w0 w w' : World} {R : List Asrt} {A A' : Asrt} (h : In F0 w0 w R) (i : Nat) (hA : R[i]? = some A) (hfr : Framed A') (c : ∀ F, A w F → ∃ F', A' w' F' ∧ Grew F F' w ∧ Mod F w w') : In F0 w0 w' (R.set i A') := by
  have hp := h.perm (front hA)
  obtain ⟨F, ⟨F1, F2, h1, h2, h3, rfl⟩, hF⟩ := hp.star
  obtain ⟨F', h4, h5, h6⟩ := c F1 h1
  obtain ⟨s1, s2, s3⟩ := star_frame (A' := A') (fun B hB => hp.framed B (List.mem_cons_of_mem _ hB)) h2 h3 h4 h5 h6
  have hsz := h.mod.size
  have : In F0 w0 w' (A' :: R.eraseIdx i) := by
    refine ⟨fun B hB => ?_, ⟨_, s1, fun b hb => ?_⟩, h.mod.trans s3 (fun b hb => hF b hb)⟩
    · rcases List.mem_cons.1 hB with rfl | hB
      · exact hfr
      · exact hp.framed B (List.mem_cons_of_mem _ hB)
    · rcases s2 b hb with h | h
      · exact hF b h
      · exact Or.inr (by omega)
  exact this.perm (back hA)

/-- A call that makes a thing. -/
theorem In.make {F0 : List Nat} {w0 w : World} {R : List Asrt} {A' : Value → Asrt} {P : Program} {f : FuncId} {args : Array Value} (h : In F0 w0 w R) (hfr : ∀ v, Framed (A' v))
    (c : Calls P f args w (Gives w [] A')) : Calls P f args w fun e w' => ∃ v, e = .returned v ∧ In F0 w0 w' (A' v :: R) := by
  obtain ⟨F, hs, hF⟩ := h.star
  refine c.mono fun e w' ⟨v, he, F', h4, h5, h6⟩ => ⟨v, he, ?_⟩
  obtain ⟨s1, s2, s3⟩ := star_frame (A' := A' v) (F := []) h.framed hs (fun b hb => by simp at hb) h4 h5 h6
  have hsz := h.mod.size
  refine ⟨fun B hB => ?_, ⟨_, s1, fun b hb => ?_⟩, h.mod.trans s3 (fun b hb => hF b hb)⟩
  · rcases List.mem_cons.1 hB with rfl | hB
    · exact hfr v
    · exact h.framed B hB
  · rcases s2 b hb with h | h
    · exact hF b h
    · exact Or.inr (by omega)

/-- A block of cells. -/
def Cells (b : Nat) (C : Array Value) (T : TypeId) : Asrt := fun w F => F = [b] ∧ w.heap[b]? = some (.cells C T (0, 0))
theorem Cells.framed (b : Nat) (C : Array Value) (T : TypeId) : Framed (Cells b C T) :=
  ⟨fun h hk => ⟨h.1, by rw [hk b (by rw [h.1]; simp)]; exact h.2⟩, fun h b' hb => by rw [h.1] at hb; simp at hb; subst hb; exact hp_lt h.2⟩
theorem In.alloc {F0 : List Nat} {w0 w : World} {R : List Asrt} (h : In F0 w0 w R) (o : Obj) : In F0 w0 (w.alloc o) R := by
  obtain ⟨F, hs, hF⟩ := h.star
  have fr := Framed.star h.framed
  exact ⟨h.framed, ⟨F, fr.keep hs (fun b hb => hp_alloc_old (fr.lt hs b hb)), hF⟩, h.mod.alloc o⟩
theorem In.cells {F0 : List Nat} {w0 w : World} {R : List Asrt} (h : In F0 w0 w R) (C : Array Value) (T : TypeId) : In F0 w0 (w.alloc (.cells C T)) (Cells w.heap.size C T :: R) := by
  obtain ⟨F, hs, hF⟩ := h.star
  have fr := Framed.star h.framed
  refine ⟨fun B hB => ?_, ⟨[w.heap.size] ++ F, ⟨[w.heap.size], F, ⟨rfl, hp_alloc_new⟩, fr.keep hs (fun b hb => hp_alloc_old (fr.lt hs b hb)), ?_, rfl⟩, ?_⟩, h.mod.alloc _⟩
  · rcases List.mem_cons.1 hB with rfl | hB
    · exact Cells.framed _ _ _
    · exact h.framed B hB
  · intro b hb hbF
    simp at hb; subst hb
    exact absurd (fr.lt hs _ hbF) (by omega)
  · intro b hb
    simp at hb
    rcases hb with rfl | hb
    · exact Or.inr h.mod.size
    · exact hF b hb
theorem In.drewN {F0 : List Nat} {w0 w : World} {R : List Asrt} (h : In F0 w0 w R) (n : Nat) : In F0 w0 (w.drewN n) R := by
  obtain ⟨F, hs, hF⟩ := h.star
  exact ⟨h.framed, ⟨F, (Framed.star h.framed).keep hs (fun _ _ => rfl), hF⟩, h.mod.drewN n⟩
theorem In.block {F0 : List Nat} {w0 w : World} {R : List Asrt} (h : In F0 w0 w R) (i : Nat) {b : Nat} {C : Array Value} {T : TypeId} (hA : R[i]? = some (Cells b C T)) : w.heap[b]? = some (.cells C T (0, 0)) := by
  obtain ⟨F, hF⟩ := h.get i hA
  exact hF.2
/-- What was there when the call began. -/
theorem Own.old {w0 w : World} {R : List Asrt} (h : Own w0 w R) {b : Nat} (hb : b < w0.heap.size) (o : Nat) : w.cell? ⟨b, o, none⟩ = w0.cell? ⟨b, o, none⟩ :=
  World.cell?_of_block (h.mod.block b hb (by simp))
/-- More is known of one of them than was said. -/
theorem In.imp {F0 : List Nat} {w0 w : World} {R : List Asrt} {A A' : Asrt} (h : In F0 w0 w R) (i : Nat) (hA : R[i]? = some A) (hfr : Framed A') (hi : ∀ F, A w F → A' w F) : In F0 w0 w (R.set i A') := by
  have hp := h.perm (front hA)
  obtain ⟨F, ⟨F1, F2, h1, h2, h3, rfl⟩, hF⟩ := hp.star
  have : In F0 w0 w (A' :: R.eraseIdx i) := ⟨fun B hB => by
    rcases List.mem_cons.1 hB with rfl | hB
    · exact hfr
    · exact hp.framed B (List.mem_cons_of_mem _ hB), ⟨_, ⟨F1, F2, hi F1 h1, h2, h3, rfl⟩, hF⟩, h.mod⟩
  exact this.perm (back hA)
/-- Two in one, told each by itself. -/
theorem In.split {F0 : List Nat} {w0 w : World} {R : List Asrt} {A B : Asrt} (h : In F0 w0 w R) (i : Nat) (hA : R[i]? = some (Star [A, B])) (fA : Framed A) (fB : Framed B) : In F0 w0 w (B :: R.set i A) := by
  have hp := h.perm (front hA)
  obtain ⟨F, ⟨F1, F2, ⟨G1, G2, g1, ⟨G3, G4, g3, g4, g5, rfl⟩, g6, rfl⟩, h2, h3, rfl⟩, hF⟩ := hp.star
  obtain rfl : G4 = [] := g4
  have : In F0 w0 w (A :: B :: R.eraseIdx i) := by
    refine ⟨fun C hC => ?_, ⟨G1 ++ (G3 ++ F2), ⟨G1, G3 ++ F2, g1, ⟨G3, F2, g3, h2, fun b hb => h3 b (by simp [hb]), rfl⟩, ?_, rfl⟩, ?_⟩, h.mod⟩
    · rcases List.mem_cons.1 hC with rfl | hC
      · exact fA
      · rcases List.mem_cons.1 hC with rfl | hC
        · exact fB
        · exact hp.framed C (List.mem_cons_of_mem _ hC)
    · intro b hb hb'
      rcases List.mem_append.1 hb' with h | h
      · exact g6 b hb (by simp [h])
      · exact h3 b (by simp [hb]) h
    · intro b hb
      apply hF
      simp only [List.mem_append] at hb ⊢
      rcases hb with hb | hb | hb
      · exact Or.inl (Or.inl hb)
      · exact Or.inl (Or.inr (Or.inl hb))
      · exact Or.inr hb
  exact (this.perm (List.Perm.swap B A _)).perm ((back hA).cons B)

end Go.Proofs.Ytcakgponofbhkaa
