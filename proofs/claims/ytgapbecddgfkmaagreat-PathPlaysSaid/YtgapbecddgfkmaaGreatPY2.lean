/- Rows.PathPlaysSaid -/
import Derived.Test.YtgapbecddgfkmaaGreatPY1
import Derived.Calls
import Derived.Maps.AppendAt
import Derived.Deep.AppendLies
import Derived.RegionTactic
import Derived.OwnWalk
namespace Go.Proofs.YtgapbecddgfkmaaGreat
open Go.RowKit
set_option linter.unusedVariables false
set_option maxHeartbeats 64000000
set_option maxRecDepth 100000
abbrev Asrt := World → List Nat → Prop
structure Framed (A : Asrt) : Prop where
  keep : ∀ {w w' F}, A w F → (∀ b ∈ F, w'.heap[b]? = w.heap[b]?) → A w' F
  lt : ∀ {w F}, A w F → ∀ b ∈ F, b < w.heap.size
def Star : List Asrt → Asrt
  | [], _, F => F = []
  | A :: R, w, F => ∃ F1 F2, A w F1 ∧ Star R w F2 ∧ Apart F1 F2 ∧ F = F1 ++ F2
theorem Framed.star : ∀ {R : List Asrt}, (∀ A ∈ R, Framed A) → Framed (Star R)
  | [], _ => ⟨fun h _ => h, fun h b hb => by rw [show _ = _ from h] at hb; simp at hb⟩
  | A :: R, hR => by
    have hA := hR A (by simp)
    have ih := Framed.star (R := R) (fun B hB => hR B (List.mem_cons_of_mem _ hB))
    refine ⟨?_, ?_⟩
    · rintro w w' F ⟨F1, F2, h1, h2, h3, rfl⟩ hk
      exact ⟨F1, F2, hA.keep h1 (fun b hb => hk b (List.mem_append_left _ hb)), ih.keep h2 (fun b hb => hk b (List.mem_append_right _ hb)), h3, rfl⟩
    · rintro w F ⟨F1, F2, h1, h2, h3, rfl⟩ b hb
      rcases List.mem_append.1 hb with hb | hb
      · exact hA.lt h1 b hb
      · exact ih.lt h2 b hb
def Gives (w : World) (F : List Nat) (A' : Value → Asrt) (e : Ending) (w' : World) : Prop :=
  ∃ v, e = .returned v ∧ ∃ F', A' v w' F' ∧ Grew F F' w ∧ Mod F w w'
theorem star_frame {A' : Asrt} {R : List Asrt} {w w' : World} {F F' G : List Nat} (hR : ∀ B ∈ R, Framed B) (hs : Star R w G) (ha : Apart F G) (h' : A' w' F') (hg : Grew F F' w) (hm : Mod F w w') :
    Star (A' :: R) w' (F' ++ G) ∧ Grew (F ++ G) (F' ++ G) w ∧ Mod (F ++ G) w w' := by
  have fr := Framed.star hR
  refine ⟨⟨F', G, h', fr.keep hs (fun b hb => hm.block b (fr.lt hs b hb) (fun hf => ha b hf hb)), ha.grew hg (fr.lt hs), rfl⟩, ?_, hm.mono (fun b hb => List.mem_append_left _ hb)⟩
  intro b hb
  rcases List.mem_append.1 hb with hb | hb
  · rcases hg b hb with h | h
    · exact Or.inl (List.mem_append_left _ h)
    · exact Or.inr h
  · exact Or.inl (List.mem_append_right _ hb)
structure In (F0 : List Nat) (w0 w : World) (R : List Asrt) : Prop where
  framed : ∀ A ∈ R, Framed A
  star : ∃ F, Star R w F ∧ Grew F0 F w0
  mod : Mod F0 w0 w
abbrev Own (w0 w : World) (R : List Asrt) : Prop := In [] w0 w R
theorem Own.nil (w : World) : Own w w [] := ⟨by simp, ⟨[], rfl, fun b hb => by simp at hb⟩, Mod.refl _ _⟩
theorem In.start {R : List Asrt} {w : World} {F : List Nat} (hR : ∀ A ∈ R, Framed A) (h : Star R w F) : In F w w R := ⟨hR, ⟨F, h, Grew.refl _ _⟩, Mod.refl _ _⟩
theorem In.gives {F0 : List Nat} {w0 w : World} {R : List Asrt} (h : In F0 w0 w R) (v : Value) (A' : Value → Asrt) (hA : ∀ F, Star R w F → A' v w F) : Gives w0 F0 A' (.returned v) w := by
  obtain ⟨F, hs, hg⟩ := h.star
  exact ⟨v, rfl, F, hA F hs, hg, h.mod⟩
theorem star_perm {R R' : List Asrt} (h : R.Perm R') : ∀ {w F}, Star R w F → ∃ F', Star R' w F' ∧ F.Perm F' := by
  induction h with
  | nil => intro w F h; exact ⟨F, h, List.Perm.refl _⟩
  | cons A _ ih =>
    rintro w F ⟨F1, F2, h1, h2, h3, rfl⟩
    obtain ⟨F', h4, h5⟩ := ih h2
    exact ⟨F1 ++ F', ⟨F1, F', h1, h4, fun b hb hb' => h3 b hb (h5.mem_iff.2 hb'), rfl⟩, h5.append_left _⟩
  | swap A B R =>
    rintro w F ⟨F1, F2, h1, ⟨F3, F4, h3, h4, h5, rfl⟩, h6, rfl⟩
    refine ⟨F3 ++ (F1 ++ F4), ⟨F3, F1 ++ F4, h3, ⟨F1, F4, h1, h4, fun b hb hb' => h6 b hb (List.mem_append_right _ hb'), rfl⟩, ?_, rfl⟩, ?_⟩
    · intro b hb hb'
      rcases List.mem_append.1 hb' with h | h
      · exact h6 b h (List.mem_append_left _ hb)
      · exact h5 b hb h
    · rw [← List.append_assoc, ← List.append_assoc]
      exact (List.perm_append_comm).append_right _
  | trans _ _ ih1 ih2 =>
    intro w F h
    obtain ⟨F1, h1, p1⟩ := ih1 h
    obtain ⟨F2, h2, p2⟩ := ih2 h1
    exact ⟨F2, h2, p1.trans p2⟩
theorem In.perm {F0 : List Nat} {w0 w : World} {R R' : List Asrt} (h : In F0 w0 w R) (hp : R.Perm R') : In F0 w0 w R' := by
  obtain ⟨F, hs, hF⟩ := h.star
  obtain ⟨F', hs', hp'⟩ := star_perm hp hs
  exact ⟨fun A hA => h.framed A (hp.mem_iff.2 hA), ⟨F', hs', fun b hb => hF b (hp'.mem_iff.2 hb)⟩, h.mod⟩
theorem In.drop {F0 : List Nat} {w0 w : World} {A : Asrt} {R : List Asrt} (h : In F0 w0 w (A :: R)) : In F0 w0 w R := by
  obtain ⟨F, ⟨F1, F2, h1, h2, h3, rfl⟩, hF⟩ := h.star
  exact ⟨fun B hB => h.framed B (List.mem_cons_of_mem _ hB), ⟨F2, h2, fun b hb => hF b (List.mem_append_right _ hb)⟩, h.mod⟩
theorem front {α : Type} {R : List α} {i : Nat} {A : α} (h : R[i]? = some A) : R.Perm (A :: R.eraseIdx i) := by
  obtain ⟨hi, rfl⟩ := List.getElem?_eq_some_iff.1 h
  have := List.take_append_drop i R
  rw [List.drop_eq_getElem_cons hi] at this
  rw [List.eraseIdx_eq_take_drop_succ]
  conv => lhs; rw [← this]
  exact List.perm_middle
theorem back {α : Type} {R : List α} {i : Nat} {A B : α} (h : R[i]? = some A) : (B :: R.eraseIdx i).Perm (R.set i B) := by
  have hi := (List.getElem?_eq_some_iff.1 h).1
  have h2 : (R.set i B)[i]? = some B := by simp [hi]
  have := front h2
  rw [List.eraseIdx_set_eq] at this
  exact this.symm
theorem In.get {F0 : List Nat} {w0 w : World} {R : List Asrt} {A : Asrt} (h : In F0 w0 w R) (i : Nat) (hA : R[i]? = some A) : ∃ F, A w F := by
  obtain ⟨F, ⟨F1, F2, h1, _⟩, _⟩ := (h.perm (front hA)).star
  exact ⟨F1, h1⟩
theorem In.call {F0 : List Nat} {w0 w : World} {R : List Asrt} {A : Asrt} {A' : Value → Asrt} {P : Program} {f : FuncId} {args : Array Value} (h : In F0 w0 w R) (i : Nat) (hA : R[i]? = some A) (hfr : ∀ v, Framed (A' v))
    (c : ∀ F, A w F → Calls P f args w (Gives w F A')) : Calls P f args w fun e w' => ∃ v, e = .returned v ∧ In F0 w0 w' (R.set i (A' v)) := by
  have hp := h.perm (front hA)
  obtain ⟨F, ⟨F1, F2, h1, h2, h3, rfl⟩, hF⟩ := hp.star
  refine (c F1 h1).mono fun e w' ⟨v, he, F', h4, h5, h6⟩ => ⟨v, he, ?_⟩
  obtain ⟨s1, s2, s3⟩ := star_frame (A' := A' v) (fun B hB => hp.framed B (List.mem_cons_of_mem _ hB)) h2 h3 h4 h5 h6
  have hsz := h.mod.size
  have : In F0 w0 w' (A' v :: R.eraseIdx i) := by
    refine ⟨fun B hB => ?_, ⟨_, s1, fun b hb => ?_⟩, h.mod.trans s3 (fun b hb => hF b hb)⟩
    · rcases List.mem_cons.1 hB with rfl | hB
      · exact hfr v
      · exact hp.framed B (List.mem_cons_of_mem _ hB)
    · rcases s2 b hb with h | h
      · exact hF b h
      · exact Or.inr (by omega)
  exact this.perm (back hA)
theorem In.step {F0 : List Nat} {w0 w w' : World} {R : List Asrt} {A A' : Asrt} (h : In F0 w0 w R) (i : Nat) (hA : R[i]? = some A) (hfr : Framed A') (c : ∀ F, A w F → ∃ F', A' w' F' ∧ Grew F F' w ∧ Mod F w w') : In F0 w0 w' (R.set i A') := by
  have hp := h.perm (front hA)
  obtain ⟨F, ⟨F1, F2, h1, h2, h3, rfl⟩, hF⟩ := hp.star
  obtain ⟨F', h4, h5, h6⟩ := c F1 h1
  obtain ⟨s1, s2, s3⟩ := star_frame (A' := A') (fun B hB => hp.framed B (List.mem_cons_of_mem _ hB)) h2 h3 h4 h5 h6
  have hsz := h.mod.size
  have : In F0 w0 w' (A' :: R.eraseIdx i) := by
    refine ⟨fun B hB => ?_, ⟨_, s1, fun b hb => ?_⟩, h.mod.trans s3 (fun b hb => hF b hb)⟩
    · rcases List.mem_cons.1 hB with rfl | hB
      · exact hfr
      · exact hp.framed B (List.mem_cons_of_mem _ hB)
    · rcases s2 b hb with h | h
      · exact hF b h
      · exact Or.inr (by omega)
  exact this.perm (back hA)
theorem In.make {F0 : List Nat} {w0 w : World} {R : List Asrt} {A' : Value → Asrt} {P : Program} {f : FuncId} {args : Array Value} (h : In F0 w0 w R) (hfr : ∀ v, Framed (A' v))
    (c : Calls P f args w (Gives w [] A')) : Calls P f args w fun e w' => ∃ v, e = .returned v ∧ In F0 w0 w' (A' v :: R) := by
  obtain ⟨F, hs, hF⟩ := h.star
  refine c.mono fun e w' ⟨v, he, F', h4, h5, h6⟩ => ⟨v, he, ?_⟩
  obtain ⟨s1, s2, s3⟩ := star_frame (A' := A' v) (F := []) h.framed hs (fun b hb => by simp at hb) h4 h5 h6
  have hsz := h.mod.size
  refine ⟨fun B hB => ?_, ⟨_, s1, fun b hb => ?_⟩, h.mod.trans s3 (fun b hb => hF b hb)⟩
  · rcases List.mem_cons.1 hB with rfl | hB
    · exact hfr v
    · exact h.framed B hB
  · rcases s2 b hb with h | h
    · exact hF b h
    · exact Or.inr (by omega)
def Cells (b : Nat) (C : Array Value) (T : TypeId) : Asrt := fun w F => F = [b] ∧ w.heap[b]? = some (.cells C T (0, 0))
theorem Cells.framed (b : Nat) (C : Array Value) (T : TypeId) : Framed (Cells b C T) :=
  ⟨fun h hk => ⟨h.1, by rw [hk b (by rw [h.1]; simp)]; exact h.2⟩, fun h b' hb => by rw [h.1] at hb; simp at hb; subst hb; exact hp_lt h.2⟩
theorem In.alloc {F0 : List Nat} {w0 w : World} {R : List Asrt} (h : In F0 w0 w R) (o : Obj) : In F0 w0 (w.alloc o) R := by
  obtain ⟨F, hs, hF⟩ := h.star
  have fr := Framed.star h.framed
  exact ⟨h.framed, ⟨F, fr.keep hs (fun b hb => hp_alloc_old (fr.lt hs b hb)), hF⟩, h.mod.alloc o⟩
theorem In.cells {F0 : List Nat} {w0 w : World} {R : List Asrt} (h : In F0 w0 w R) (C : Array Value) (T : TypeId) : In F0 w0 (w.alloc (.cells C T)) (Cells w.heap.size C T :: R) := by
  obtain ⟨F, hs, hF⟩ := h.star
  have fr := Framed.star h.framed
  refine ⟨fun B hB => ?_, ⟨[w.heap.size] ++ F, ⟨[w.heap.size], F, ⟨rfl, hp_alloc_new⟩, fr.keep hs (fun b hb => hp_alloc_old (fr.lt hs b hb)), ?_, rfl⟩, ?_⟩, h.mod.alloc _⟩
  · rcases List.mem_cons.1 hB with rfl | hB
    · exact Cells.framed _ _ _
    · exact h.framed B hB
  · intro b hb hbF
    simp at hb; subst hb
    exact absurd (fr.lt hs _ hbF) (by omega)
  · intro b hb
    simp at hb
    rcases hb with rfl | hb
    · exact Or.inr h.mod.size
    · exact hF b hb
theorem In.drewN {F0 : List Nat} {w0 w : World} {R : List Asrt} (h : In F0 w0 w R) (n : Nat) : In F0 w0 (w.drewN n) R := by
  obtain ⟨F, hs, hF⟩ := h.star
  exact ⟨h.framed, ⟨F, (Framed.star h.framed).keep hs (fun _ _ => rfl), hF⟩, h.mod.drewN n⟩
theorem In.block {F0 : List Nat} {w0 w : World} {R : List Asrt} (h : In F0 w0 w R) (i : Nat) {b : Nat} {C : Array Value} {T : TypeId} (hA : R[i]? = some (Cells b C T)) : w.heap[b]? = some (.cells C T (0, 0)) := by
  obtain ⟨F, hF⟩ := h.get i hA
  exact hF.2
theorem In.imp {F0 : List Nat} {w0 w : World} {R : List Asrt} {A A' : Asrt} (h : In F0 w0 w R) (i : Nat) (hA : R[i]? = some A) (hfr : Framed A') (hi : ∀ F, A w F → A' w F) : In F0 w0 w (R.set i A') := by
  have hp := h.perm (front hA)
  obtain ⟨F, ⟨F1, F2, h1, h2, h3, rfl⟩, hF⟩ := hp.star
  have : In F0 w0 w (A' :: R.eraseIdx i) := ⟨fun B hB => by
    rcases List.mem_cons.1 hB with rfl | hB
    · exact hfr
    · exact hp.framed B (List.mem_cons_of_mem _ hB), ⟨_, ⟨F1, F2, hi F1 h1, h2, h3, rfl⟩, hF⟩, h.mod⟩
  exact this.perm (back hA)
theorem In.split {F0 : List Nat} {w0 w : World} {R : List Asrt} {A B : Asrt} (h : In F0 w0 w R) (i : Nat) (hA : R[i]? = some (Star [A, B])) (fA : Framed A) (fB : Framed B) : In F0 w0 w (B :: R.set i A) := by
  have hp := h.perm (front hA)
  obtain ⟨F, ⟨F1, F2, ⟨G1, G2, g1, ⟨G3, G4, g3, g4, g5, rfl⟩, g6, rfl⟩, h2, h3, rfl⟩, hF⟩ := hp.star
  obtain rfl : G4 = [] := g4
  have : In F0 w0 w (A :: B :: R.eraseIdx i) := by
    refine ⟨fun C hC => ?_, ⟨G1 ++ (G3 ++ F2), ⟨G1, G3 ++ F2, g1, ⟨G3, F2, g3, h2, fun b hb => h3 b (by simp [hb]), rfl⟩, ?_, rfl⟩, ?_⟩, h.mod⟩
    · rcases List.mem_cons.1 hC with rfl | hC
      · exact fA
      · rcases List.mem_cons.1 hC with rfl | hC
        · exact fB
        · exact hp.framed C (List.mem_cons_of_mem _ hC)
    · intro b hb hb'
      rcases List.mem_append.1 hb' with h | h
      · exact g6 b hb (by simp [h])
      · exact h3 b (by simp [hb]) h
    · intro b hb
      apply hF
      simp only [List.mem_append] at hb ⊢
      rcases hb with hb | hb | hb
      · exact Or.inl (Or.inl hb)
      · exact Or.inl (Or.inr (Or.inl hb))
      · exact Or.inr hb
  exact (this.perm (List.Perm.swap B A _)).perm ((back hA).cons B)
def RowA (T : TypeId) (k : Nat) (v : Value) (n : Nat) (xs : List Value) : Asrt := fun w F => F = v.ownBlock.toList ∧ w.ownsRow 0 T k v n xs
theorem RowA.framed (T : TypeId) (k : Nat) (v : Value) (n : Nat) (xs : List Value) : Framed (RowA T k v n xs) := by
  refine ⟨?_, ?_⟩
  · rintro w w' F ⟨h0, h1, h2⟩ hk
    refine ⟨h0, h1, ?_⟩
    rcases h2 with h2 | ⟨g, cap, cur, rfl, h3, h4, h5⟩
    · exact Or.inl h2
    · exact Or.inr ⟨g, cap, cur, rfl, h3, by rw [hk g (by rw [h0]; simp [Value.ownBlock])]; exact h4, h5⟩
  · rintro w F ⟨h0, h1, h2⟩ b hb
    rw [h0] at hb
    rcases h2 with ⟨rfl, _⟩ | ⟨g, cap, cur, rfl, h3, h4, h5⟩
    · simp [Value.ownBlock] at hb
    · simp [Value.ownBlock] at hb; subst hb; exact hp_lt h4
theorem RowA.nil (T : TypeId) (k : Nat) (w : World) : RowA T k (.slice none 0 0) 0 [] w [] := ⟨rfl, by simp, Or.inl ⟨rfl, rfl⟩⟩
theorem In.rownil {F0 : List Nat} {w0 w : World} {R : List Asrt} (h : In F0 w0 w R) (T : TypeId) (k : Nat) : In F0 w0 w (RowA T k (.slice none 0 0) 0 [] :: R) := by
  obtain ⟨F, hs, hF⟩ := h.star
  refine ⟨fun B hB => ?_, ⟨F, ⟨[], F, RowA.nil T k w, hs, fun b hb => by simp at hb, rfl⟩, hF⟩, h.mod⟩
  rcases List.mem_cons.1 hB with rfl | hB
  · exact RowA.framed _ _ _ _ _
  · exact h.framed B hB
theorem RowA.shape {T : TypeId} {k : Nat} {v : Value} {n : Nat} {xs : List Value} {w : World} {F : List Nat} (h : RowA T k v n xs w F) :
    ∃ a cap, v = .slice a n cap ∧ n ≤ cap ∧ cap ≤ maxLen ∧ (∀ j u, xs[j]? = some u → ∃ b, a = some ⟨b, 0, none⟩ ∧ w.cell? ⟨b, j, none⟩ = some u) := by
  obtain ⟨h0, h1, h2⟩ := h
  rcases h2 with ⟨rfl, rfl⟩ | ⟨g, cap, cur, rfl, h3, h4, h5, h6, h7, h8⟩
  · refine ⟨none, 0, rfl, Nat.le_refl _, Nat.zero_le _, fun j u hu => ?_⟩
    have : xs = [] := by simpa using h1
    subst this; simp at hu
  · refine ⟨_, cap, rfl, h5, h6, fun j u hu => ⟨g, rfl, cell_of h4 ?_⟩⟩
    rw [← h8, List.getElem?_take] at hu
    split at hu
    · rw [← hu, Array.getElem?_toList]
    · cases hu
theorem info_parts' {P : Program} {T : TypeId} {z : Value} {k by' : Nat} (h : (P.info? T).map (fun i => (i.zero, i.size, i.bytes)) = some (some z, k, by')) : ∃ i, P.info? T = some i ∧ i.zero = some z ∧ i.size = k ∧ i.bytes = by' := by
  cases e : P.info? T with
  | none => rw [e] at h; cases h
  | some i => rw [e] at h; simp at h; exact ⟨i, rfl, h.1, h.2.1, h.2.2⟩
structure Src (w : World) (A : Option Addr) (m k : Nat) (news : List Value) : Prop where
  len : news.length = m * k
  at' : 0 < m → ∃ ad, A = some ad ∧ ∀ j u, news[j]? = some u → w.cell? (ad.add j) = some u
theorem add_at (b o j : Nat) : (⟨b, o, none⟩ : Addr).add j = ⟨b, o + j, none⟩ := by
  unfold Addr.add; split <;> simp_all
theorem Src.nil (w : World) (A : Option Addr) (k : Nat) : Src w A 0 k [] := ⟨by simp, fun h => by omega⟩
theorem Src.of_block {w : World} {g : Nat} {us : Array Value} {T : TypeId} {fz : Nat × Nat} {k : Nat} (h : w.heap[g]? = some (.cells us T fz)) (hk : us.size = k) : Src w (some ⟨g, 0, none⟩) 1 k us.toList :=
  ⟨by simp [hk], fun _ => ⟨_, rfl, fun j u hu => by rw [add_at]; simp only [Nat.zero_add]; exact cell_of h (by rw [← hu, Array.getElem?_toList])⟩⟩
theorem src_alloc {w : World} {A : Option Addr} {m k : Nat} {news : List Value} (h : Src w A m k news) (o : Obj) : Src (w.alloc o) A m k news :=
  ⟨h.len, fun h0 => by
    obtain ⟨ad, e, hc⟩ := h.at' h0
    exact ⟨ad, e, fun j u hu => by
      have := hc j u hu
      rw [World.cell?_alloc_lt _ _ _ (World.block_lt_of_cell? _ _ this)]; exact this⟩⟩
theorem RowA.src {T : TypeId} {k : Nat} {a : Option Addr} {n' n cap : Nat} {xs : List Value} {w : World} {F : List Nat} (h : RowA T k (.slice a n' cap) n xs w F) {m : Nat} (hm : m ≤ n) : Src w a m k (xs.take (m * k)) := by
  obtain ⟨a', cap', e, h1, h2, h3⟩ := h.shape
  cases e
  have hl := h.2.1
  refine ⟨by rw [List.length_take, hl]; exact Nat.min_eq_left (Nat.mul_le_mul_right _ hm), fun h0 => ?_⟩
  by_cases hk : k = 0
  · subst hk
    have : xs = [] := List.length_eq_zero_iff.1 (by rw [hl]; rfl)
    subst this
    obtain ⟨_, h4 | ⟨g, c, cur, e, _⟩⟩ := h.2
    · omega
    · cases e; exact ⟨_, rfl, fun j u hu => by simp at hu⟩
  · have hx : 0 < xs.length := by rw [hl]; exact Nat.mul_pos (by omega) (by omega)
    obtain ⟨b, rfl, _⟩ := h3 0 xs[0] (by simp [hx])
    refine ⟨_, rfl, fun j u hu => ?_⟩
    rw [List.getElem?_take] at hu
    split at hu
    · obtain ⟨b', e, hc⟩ := h3 j u hu
      cases e
      rw [add_at, Nat.zero_add]; exact hc
    · cases hu
theorem RowA.all {T : TypeId} {k : Nat} {a : Option Addr} {n' n cap : Nat} {xs : List Value} {w : World} {F : List Nat} (h : RowA T k (.slice a n' cap) n xs w F) : Src w a n k xs := by
  have := h.src (Nat.le_refl n)
  rwa [← h.2.1, List.take_length] at this
def sufA (a : Option Addr) (cap i k : Nat) : Option Addr := if cap = i then a else a.map (·.add (i * k))
theorem RowA.src_from {T : TypeId} {k : Nat} {a : Option Addr} {n' n cap : Nat} {xs : List Value} {w : World} {F : List Nat} (h : RowA T k (.slice a n' cap) n xs w F) {i : Nat} (hi : i ≤ n) : Src w (sufA a cap i k) (n - i) k (xs.drop (i * k)) := by
  obtain ⟨a', cap', e, h1, h2, h3⟩ := h.shape
  cases e
  have hl := h.2.1
  refine ⟨by rw [List.length_drop, hl, Nat.sub_mul], fun h0 => ?_⟩
  obtain ⟨ad, rfl, hc⟩ := (h.all).at' (by omega)
  refine ⟨ad.add (i * k), by rw [sufA, if_neg (by omega)]; rfl, fun j u hu => ?_⟩
  rw [List.getElem?_drop] at hu
  have := hc _ u hu
  obtain ⟨_, h4 | ⟨g, c, cur, e, _⟩⟩ := h.2
  · omega
  · cases e
    rw [add_at] at this ⊢
    rw [add_at]
    rw [show 0 + i * k + j = 0 + (i * k + j) by omega]
    exact this
section
variable {P : Program} {F0 : List Nat} {w0 w : World} {R : List Asrt} {T : TypeId} {k : Nat} {v : Value} {n : Nat} {xs : List Value}
theorem run_append_nil0 {t ty e : TypeId} {i : TypeInfo} {size base : Nat} (ht : P.underlying t = some (.slice e)) (hi : P.info? e = some i) (hown : w.ownsRow base e size v n xs) (A : Option Addr) (c : Nat) :
    (Builtin.append_ #[t, t] ty #[v, .slice none 0 c]).run P w = .ok v w := by
  rcases hown.2 with ⟨rfl, rfl⟩ | ⟨g, cap, cur, rfl, _, _, hnc, _⟩
  · simp [Builtin.append_, run_underlying ht, sizeOf, typeInfo, hi, Builtin.lenOf, Builtin.firstCells]
  · simp [Builtin.append_, run_underlying ht, sizeOf, typeInfo, hi, Builtin.lenOf, Builtin.firstCells, hnc, storeCells]
theorem app_run (h : In F0 w0 w R) (i : Nat) (hA : R[i]? = some (RowA T k v n xs)) {ST ty : TypeId} {by' : Nat} (hST : P.underlying ST = some (.slice T))
    (hinf : (P.info? T).map (fun i => (i.zero.map (fun z => z.cells.size), i.size, i.bytes)) = some (some k, k, by')) (hk : 0 < k) (hby : by' ≤ 1024)
    {A : Option Addr} {m c : Nat} {news : List Value} (hs : Src w A m k news) (h1 : ∀ u ∈ news, u.oneCell' = true) (hn : n + m ≤ 1000000000) :
    ∃ v' w', (Builtin.append_ #[ST, ST] ty #[v, .slice A m c]).run P w = .ok v' w' ∧ In F0 w0 w' (R.set i (RowA T k v' (n + m) (xs ++ news))) ∧ w.grownBy w' v.ownBlock := by
  obtain ⟨F, hrow⟩ := h.get i hA
  obtain ⟨i0, z, j1, j2, jz, j3, j4⟩ : ∃ i0 z, P.info? T = some i0 ∧ i0.zero = some z ∧ z.cells.size = k ∧ i0.size = k ∧ i0.bytes = by' := by
    cases e : P.info? T with
    | none => rw [e] at hinf; cases hinf
    | some i0 =>
      rw [e] at hinf
      simp only [Option.map_some, Option.some.injEq, Prod.mk.injEq] at hinf
      cases hz : i0.zero with
      | none => rw [hz] at hinf; simp at hinf
      | some z =>
        rw [hz] at hinf
        simp only [Option.map_some, Option.some.injEq] at hinf
        exact ⟨i0, z, rfl, hz, hinf.1, hinf.2.1, hinf.2.2⟩
  have hbytes : (n + m) * by' ≤ 140737488355328 := by
    have : (n + m) * by' ≤ 1000000001 * 1024 := Nat.mul_le_mul (by omega) hby
    omega
  have key : ∃ v' w', (Builtin.append_ #[ST, ST] ty #[v, .slice A m c]).run P w = .ok v' w' ∧ w'.ownsRow 0 T k v' (n + m) (xs ++ news) ∧ w.grownBy w' v.ownBlock ∧ (v'.ownBlock = v.ownBlock ∨ v'.ownBlock = some w.heap.size) := by
    rcases A with _ | ad
    · have hm : m = 0 := by
        rcases Nat.eq_zero_or_pos m with h0 | h0
        · exact h0
        · obtain ⟨ad, h, _⟩ := hs.at' h0; cases h
      subst hm
      have hnn : news = [] := List.length_eq_zero_iff.1 (by rw [hs.len]; simp)
      subst hnn
      exact ⟨v, w, run_append_nil0 hST j1 hrow.2 none c, by simpa using hrow.2, World.grownBy.refl w _, .inl rfl⟩
    · have hcells : ∀ j u, news[j]? = some u → w.cell? (ad.add j) = some u := by
        intro j u hu
        rcases Nat.eq_zero_or_pos m with h0 | h0
        · subst h0
          have hnn : news = [] := List.length_eq_zero_iff.1 (by rw [hs.len]; simp)
          subst hnn
          simp at hu
        · obtain ⟨ad', h, hc⟩ := hs.at' h0
          injection h with h
          subst h
          exact hc j u hu
      obtain ⟨v', w', hrun, h2, h3, _, h5⟩ := run_append_own_at (P := P) w 0 ST ty T i0 z k by' hST j1 j2 j3 j4 jz hk v n xs hrow.2 ad m c news hs.len hcells h1 (by unfold maxLen; omega) hbytes (Nat.zero_le _)
      exact ⟨v', w', hrun, h2, h3, h5⟩
  obtain ⟨v', w', r0, r1, r2, r3⟩ := key
  refine ⟨v', w', r0, h.step i hA (RowA.framed _ _ _ _ _) fun F hF => ⟨v'.ownBlock.toList, ⟨rfl, r1⟩, fun b hb => ?_, (Mod.refl F w).of_grown r2 (fun k hk => Or.inl (by rw [hF.1, hk]; simp))⟩, r2⟩
  rw [hF.1]
  rcases r3 with r3 | r3
  · left; rwa [r3] at hb
  · right; rw [r3] at hb; simp at hb; omega
variable {ops : Array Oper} {o : Oper} {a : Act} {Q : Exit → Act → World → Prop}
theorem app_wp {K : Act → World → Prop} (h : In F0 w0 w R) (i : Nat) (hA : R[i]? = some (RowA T k v n xs)) (s x : Operand) (ST : TypeId)
    (ho : o.op = .call { callee := .builtin .append, args := #[s, x], argTypes := #[ST, ST] }) {by' : Nat} (hST : P.underlying ST = some (.slice T))
    (hinf : (P.info? T).map (fun i => (i.zero.map (fun z => z.cells.size), i.size, i.bytes)) = some (some k, k, by')) (hk : 0 < k) (hby : by' ≤ 1024) (hs : a.eval s = v)
    {A : Option Addr} {m c : Nat} {news : List Value} (hx : a.eval x = .slice A m c) (hsrc : Src w A m k news) (h1 : ∀ u ∈ news, u.oneCell' = true) (hn : n + m ≤ 1000000000)
    (hK : ∀ v' w', In F0 w0 w' (R.set i (RowA T k v' (n + m) (xs ++ news))) → w.grownBy w' v.ownBlock → K (a.put o.dst v') w') : o.wp P a w K Q := by
  obtain ⟨v', w', hrun, h2, h3⟩ := app_run (ty := o.type) (c := c) h i hA hST hinf hk hby hsrc h1 hn
  unfold Oper.wp execOp
  simp only [ho, resolve, invoke, builtin, Sem.run_bind, Sem.run_pure, Result.andThen_ok, List.map_toArray, List.map_cons, List.map_nil, hs, hx, hrun]
  exact hK v' w' h2 h3
theorem app_list {rest : List Oper} (hgd : o.guard = none) (h : In F0 w0 w R) (i : Nat) (hA : R[i]? = some (RowA T k v n xs)) (s x : Operand) (ST : TypeId)
    (ho : o.op = .call { callee := .builtin .append, args := #[s, x], argTypes := #[ST, ST] }) {by' : Nat} (hST : P.underlying ST = some (.slice T))
    (hinf : (P.info? T).map (fun i => (i.zero.map (fun z => z.cells.size), i.size, i.bytes)) = some (some k, k, by')) (hk : 0 < k) (hby : by' ≤ 1024) (hs : a.eval s = v)
    {A : Option Addr} {m c : Nat} {news : List Value} (hx : a.eval x = .slice A m c) (hsrc : Src w A m k news) (h1 : ∀ u ∈ news, u.oneCell' = true) (hn : n + m ≤ 1000000000)
    (hK : ∀ v' w', In F0 w0 w' (R.set i (RowA T k v' (n + m) (xs ++ news))) → w.grownBy w' v.ownBlock → wpList P ops Q rest (a.put o.dst v') w') : wpList P ops Q (o :: rest) a w :=
  wpList_plain hgd fun _ hK' => app_wp h i hA s x ST ho hST hinf hk hby hs hx hsrc h1 hn fun v' w' h2 h3 => hK' _ _ (hK v' w' h2 h3)
theorem app_step {K : Act → World → Prop} {E : Prop} (hgd : o.guard = none) (h : In F0 w0 w R) (i : Nat) (hA : R[i]? = some (RowA T k v n xs)) (s x : Operand) (ST : TypeId)
    (ho : o.op = .call { callee := .builtin .append, args := #[s, x], argTypes := #[ST, ST] }) {by' : Nat} (hST : P.underlying ST = some (.slice T))
    (hinf : (P.info? T).map (fun i => (i.zero.map (fun z => z.cells.size), i.size, i.bytes)) = some (some k, k, by')) (hk : 0 < k) (hby : by' ≤ 1024) (hs : a.eval s = v)
    {A : Option Addr} {m c : Nat} {news : List Value} (hx : a.eval x = .slice A m c) (hsrc : Src w A m k news) (h1 : ∀ u ∈ news, u.oneCell' = true) (hn : n + m ≤ 1000000000)
    (hK : ∀ v' w', In F0 w0 w' (R.set i (RowA T k v' (n + m) (xs ++ news))) → w.grownBy w' v.ownBlock → K (a.put o.dst v') w') :
    if Region.wanted o (yielded ops a.tmps) = true then Oper.wp P o a w K Q else E := by
  have hw : Region.wanted o (yielded ops a.tmps) = true := by simp [Region.wanted, hgd]
  rw [if_pos hw]
  exact app_wp h i hA s x ST ho hST hinf hk hby hs hx hsrc h1 hn hK
end
theorem run_suffix {P : Program} {ST T : TypeId} {k by' : Nat} (hST : P.underlying ST = some (.slice T)) (hinf : (P.info? T).map (fun i => (i.zero.map (fun z => z.cells.size), i.size, i.bytes)) = some (some k, k, by')) (a : Option Addr) (n cap i : Nat) (h1 : i ≤ n) (w : World) :
    (Instr.slice ST (.slice a n cap) (some (.int .i64 i)) none none).run P w = .ok (.slice (sufA a cap i k) (n - i) (cap - i)) w := by
  have he : P.elem ST = T := by simp [Program.elem, hST]
  have hs : (sizeOf T).run P w = .ok k w := by
    cases e : P.info? T with
    | none => rw [e] at hinf; cases hinf
    | some i0 =>
      rw [e] at hinf
      simp only [Option.map_some, Option.some.injEq, Prod.mk.injEq] at hinf
      simp [sizeOf, typeInfo, e, hinf.2.1]
  have := run_slice_l (P := P) w ST a n cap (by rw [he]; exact hST) .i64 (i : Int) (by omega) (by omega)
  rw [this, he, hs]
  simp [Result.andThen, sliced, sufA]
theorem run_prefix {P : Program} {ST T : TypeId} {k by' : Nat} (hST : P.underlying ST = some (.slice T)) (hinf : (P.info? T).map (fun i => (i.zero.map (fun z => z.cells.size), i.size, i.bytes)) = some (some k, k, by')) (b : Nat) (n cap i : Nat) (h1 : i ≤ cap) (w : World) :
    (Instr.slice ST (.slice (some ⟨b, 0, none⟩) n cap) none (some (.int .i64 i)) none).run P w = .ok (.slice (some ⟨b, 0, none⟩) i cap) w := by
  have he : P.elem ST = T := by simp [Program.elem, hST]
  have hs : (sizeOf T).run P w = .ok k w := by
    cases e : P.info? T with
    | none => rw [e] at hinf; cases hinf
    | some i0 =>
      rw [e] at hinf
      simp only [Option.map_some, Option.some.injEq, Prod.mk.injEq] at hinf
      simp [sizeOf, typeInfo, e, hinf.2.1]
  have := run_slice_h (P := P) w ST (some ⟨b, 0, none⟩) n cap (by rw [he]; exact hST) .i64 (i : Int) (by omega) (by omega)
  rw [this, he, hs]
  simp [Result.andThen, sliced, add_at]
theorem run_prefix_at {P : Program} {ST T : TypeId} {k by' : Nat} (hST : P.underlying ST = some (.slice T)) (hinf : (P.info? T).map (fun i => (i.zero.map (fun z => z.cells.size), i.size, i.bytes)) = some (some k, k, by')) (b o : Nat) (n cap i : Nat) (h1 : i ≤ cap) (w : World) :
    (Instr.slice ST (.slice (some ⟨b, o, none⟩) n cap) none (some (.int .i64 i)) none).run P w = .ok (.slice (some ⟨b, o, none⟩) i cap) w := by
  have he : P.elem ST = T := by simp [Program.elem, hST]
  have hs : (sizeOf T).run P w = .ok k w := by
    cases e : P.info? T with
    | none => rw [e] at hinf; cases hinf
    | some i0 =>
      rw [e] at hinf
      simp only [Option.map_some, Option.some.injEq, Prod.mk.injEq] at hinf
      simp [sizeOf, typeInfo, e, hinf.2.1]
  have := run_slice_h (P := P) w ST (some ⟨b, o, none⟩) n cap (by rw [he]; exact hST) .i64 (i : Int) (by omega) (by omega)
  rw [this, he, hs]
  simp [Result.andThen, sliced, add_at]
theorem run_prefix_none {P : Program} {ST T : TypeId} {k by' : Nat} (hST : P.underlying ST = some (.slice T)) (hinf : (P.info? T).map (fun i => (i.zero.map (fun z => z.cells.size), i.size, i.bytes)) = some (some k, k, by')) (n cap i : Nat) (h1 : i ≤ cap) (w : World) :
    (Instr.slice ST (.slice none n cap) none (some (.int .i64 i)) none).run P w = .ok (.slice none i cap) w := by
  have he : P.elem ST = T := by simp [Program.elem, hST]
  have hs : (sizeOf T).run P w = .ok k w := by
    cases e : P.info? T with
    | none => rw [e] at hinf; cases hinf
    | some i0 =>
      rw [e] at hinf
      simp only [Option.map_some, Option.some.injEq, Prod.mk.injEq] at hinf
      simp [sizeOf, typeInfo, e, hinf.2.1]
  have := run_slice_h (P := P) w ST none n cap (by rw [he]; exact hST) .i64 (i : Int) (by omega) (by omega)
  rw [this, he, hs]
  simp [Result.andThen, sliced]
def Val (r v : Value) (A : Asrt) : Asrt := fun w F => v = r ∧ A w F
theorem Val.framed {r v : Value} {A : Asrt} (h : Framed A) : Framed (Val r v A) := ⟨fun h1 hk => ⟨h1.1, h.keep h1.2 hk⟩, fun h1 => h.lt h1.2⟩
theorem own_val {F0 : List Nat} {w0 w : World} {R : List Asrt} {A : Asrt} {A' : Asrt} {r : Value} {P : Program} {f : FuncId} {args : Array Value} (h : In F0 w0 w R) (i : Nat) (hA : R[i]? = some A) (hfr : Framed A')
    (c : ∀ F, A w F → Calls P f args w (Gives w F (fun v => Val r v A'))) : Calls P f args w fun e w' => e = .returned r ∧ In F0 w0 w' (R.set i A') := by
  refine (h.call i hA (fun v => Val.framed hfr) c).mono fun e w' ⟨v, he, ho⟩ => ?_
  have hi := (List.getElem?_eq_some_iff.1 hA).1
  obtain ⟨F, hv⟩ := ho.get i (A := Val r v A') (by simp [hi])
  have ho2 := ho.imp (A := Val r v A') (A' := A') i (by simp [hi]) hfr (fun F hF => hF.2)
  rw [List.set_set] at ho2
  exact ⟨by rw [he, hv.1], ho2⟩
theorem star_app {w : World} : ∀ {A1 R : List Asrt} {F : List Nat}, Star (A1 ++ R) w F → ∃ F1 F2, Star A1 w F1 ∧ Star R w F2 ∧ Apart F1 F2 ∧ F = F1 ++ F2
  | [], R, F, h => ⟨[], F, rfl, h, fun b hb => by simp at hb, rfl⟩
  | A :: A1, R, F, ⟨G1, G2, g1, g2, g3, e⟩ => by
    obtain ⟨F1, F2, h1, h2, h3, e2⟩ := star_app g2
    refine ⟨G1 ++ F1, F2, ⟨G1, F1, g1, h1, fun b hb hb2 => g3 b hb (by rw [e2]; exact List.mem_append_left _ hb2), rfl⟩, h2, ?_, by rw [e, e2, List.append_assoc]⟩
    intro b hb hb2
    rcases List.mem_append.1 hb with hb | hb
    · exact g3 b hb (by rw [e2]; exact List.mem_append_right _ hb2)
    · exact h3 b hb hb2
theorem In.join {F0 : List Nat} {w0 w : World} {A1 R : List Asrt} (h : In F0 w0 w (A1 ++ R)) : In F0 w0 w (Star A1 :: R) := by
  obtain ⟨F, hs, hF⟩ := h.star
  obtain ⟨F1, F2, h1, h2, h3, e⟩ := star_app hs
  refine ⟨fun B hB => ?_, ⟨F, ⟨F1, F2, h1, h2, h3, e⟩, hF⟩, h.mod⟩
  rcases List.mem_cons.1 hB with rfl | hB
  · exact Framed.star (fun C hC => h.framed C (List.mem_append_left _ hC))
  · exact h.framed B (List.mem_append_right _ hB)
theorem RowA.at {T : TypeId} {k : Nat} {a : Option Addr} {n n' cap : Nat} {xs : List Value} {w : World} {F : List Nat} (h : RowA T k (.slice a n cap) n' xs w F) : n = n' ∧ ∀ j u, xs[j]? = some u → ∃ b, a = some ⟨b, 0, none⟩ ∧ w.cell? ⟨b, j, none⟩ = some u := by
  obtain ⟨a', cap', e, -, -, hr⟩ := h.shape
  cases e
  exact ⟨rfl, hr⟩
theorem In.below {F0 : List Nat} {w0 w w' : World} {R : List Asrt} {A : Asrt} {F' : List Nat} (h : In F0 w0 w R) (hb : Below w.heap.size w w') (fA : Framed A) (hA : A w' F') (hn : ∀ b ∈ F', w.heap.size ≤ b) : In F0 w0 w' (A :: R) := by
  obtain ⟨F, hs, hF⟩ := h.star
  have fr := Framed.star h.framed
  have hm : Mod [] w w' := ⟨hb.os, hb.tape, hb.output, hb.size, fun k hk _ => hb.block k hk⟩
  refine ⟨fun B hB => ?_, ⟨F' ++ F, ⟨F', F, hA, fr.keep hs (fun b hb2 => hb.block b (fr.lt hs b hb2)), fun b h1 h2 => ?_, rfl⟩, fun b h1 => ?_⟩, h.mod.trans hm (fun x hx => by simp at hx)⟩
  · rcases List.mem_cons.1 hB with rfl | hB
    · exact fA
    · exact h.framed B hB
  · exact absurd (fr.lt hs b h2) (by have := hn b h1; omega)
  · rcases List.mem_append.1 h1 with h1 | h1
    · exact Or.inr (Nat.le_trans h.mod.size (hn b h1))
    · exact hF b h1
theorem row_new {B : Nat} {T : TypeId} {k : Nat} {w : World} {v : Value} {n : Nat} {xs : List Value} (h : w.ownsRow B T k v n xs) : RowA T k v n xs w v.ownBlock.toList ∧ ∀ b ∈ v.ownBlock.toList, B ≤ b := by
  obtain ⟨h1, h2⟩ := h
  refine ⟨⟨rfl, h1, ?_⟩, fun b hb => ?_⟩
  · rcases h2 with h2 | ⟨g, cap, cur, rfl, h3, h4⟩
    · exact Or.inl h2
    · exact Or.inr ⟨g, cap, cur, rfl, Nat.zero_le _, h4⟩
  · rcases h2 with ⟨rfl, _⟩ | ⟨g, cap, cur, rfl, h3, h4⟩
    · simp [Value.ownBlock] at hb
    · simp [Value.ownBlock] at hb; omega
where star_one {w : World} : ∀ {R : List Asrt} {F : List Nat} {j : Nat} {B : Asrt}, Star R w F → R[j]? = some B → ∃ F2, B w F2 ∧ ∀ b ∈ F2, b ∈ F
  | [], _, _, _, _, h => by simp at h
  | C :: R, F, 0, B, ⟨G1, G2, g1, g2, g3, e⟩, h => by
    simp at h; subst h
    exact ⟨G1, g1, fun b hb => by rw [e]; exact List.mem_append_left _ hb⟩
  | C :: R, F, j + 1, B, ⟨G1, G2, g1, g2, g3, e⟩, h => by
    simp at h
    obtain ⟨F2, k1, k2⟩ := star_one g2 h
    exact ⟨F2, k1, fun b hb => by rw [e]; exact List.mem_append_right _ (k2 b hb)⟩
theorem In.put {F0 : List Nat} {w0 w : World} {R : List Asrt} (h : In F0 w0 w R) {b : Nat} {C : Array Value} {T : TypeId} (i : Nat) (hA : R[i]? = some (Cells b C T)) (o : Nat) (v : Value) : In F0 w0 (w.setCell ⟨b, o, none⟩ v) (R.set i (Cells b (C.setIfInBounds o v) T)) :=
  h.step i hA (Cells.framed _ _ _) fun F hF => ⟨F, ⟨hF.1, hp_setCell_same hF.2⟩, Grew.refl _ _, (Mod.refl F w).setCell (Or.inl (by rw [hF.1]; simp)) _⟩
def GV (r : Value) (A : Asrt) (w : World) (F : List Nat) (e : Ending) (w' : World) : Prop := Gives w F (fun v => Val r v A) e w'
theorem GV.mk {r : Value} {A : Asrt} {w w' : World} {F : List Nat} {R : List Asrt} (h : In F w w' R) (hA : ∀ F', Star R w' F' → A w' F') : GV r A w F (.returned r) w' :=
  h.gives r _ (fun F' hs => ⟨rfl, hA F' hs⟩)
theorem In.take {F0 : List Nat} {w0 w : World} {R1 R2 : List Asrt} (h : In F0 w0 w (R1 ++ R2)) : In F0 w0 w R1 := by
  obtain ⟨F, hs, hF⟩ := h.star
  obtain ⟨F1, F2, h1, h2, h3, rfl⟩ := star_app hs
  exact ⟨fun A hA => h.framed A (List.mem_append_left _ hA), ⟨F1, h1, fun b hb => hF b (List.mem_append_left _ hb)⟩, h.mod⟩
theorem In.sel {F0 : List Nat} {w0 w : World} {R : List Asrt} (h : In F0 w0 w R) (is : List Nat) (hn : is.Nodup) (hb0 : is.all (fun i => decide (i < R.length)) = true) : In F0 w0 w (is.map (fun i => R.getD i (Cells 0 #[] 0))) := by
  have hb : ∀ i ∈ is, i < R.length := fun i hi => by simpa using List.all_eq_true.1 hb0 i hi
  have e : (List.range R.length).map (fun i => R.getD i (Cells 0 #[] 0)) = R := by
    apply List.ext_getElem (by simp)
    intro i h1 h2
    simp [h2]
  have hp : (List.range R.length).Perm (is ++ (List.range R.length).filter (fun i => decide (i ∉ is))) := by
    refine (List.perm_ext_iff_of_nodup List.nodup_range ?_).2 (fun i => ?_)
    · rw [List.nodup_append]
      refine ⟨hn, List.nodup_range.filter _, fun a ha b hb' => ?_⟩
      have := (List.mem_filter.1 hb').2
      simp at this
      rintro rfl; exact this ha
    · simp only [List.mem_append, List.mem_filter, List.mem_range, decide_eq_true_eq]
      constructor
      · intro hi
        by_cases hm : i ∈ is
        · exact Or.inl hm
        · exact Or.inr ⟨hi, hm⟩
      · rintro (hi | hi)
        · exact hb i hi
        · exact hi.1
  have h2 := hp.map (fun i => R.getD i (Cells 0 #[] 0))
  rw [e, List.map_append] at h2
  exact In.take (h.perm h2)
theorem in_one {A : Asrt} {w : World} {F : List Nat} (hA : Framed A) (h : A w F) : In F w w [A] :=
  In.start (by simp [hA]) ⟨F, [], h, rfl, fun b _ => by simp, by simp⟩
theorem row_prefix {P : Program} {ST T : TypeId} {k by' : Nat} (hST : P.underlying ST = some (.slice T)) (hinf : (P.info? T).map (fun i => (i.zero.map (fun z => z.cells.size), i.size, i.bytes)) = some (some k, k, by')) {a : Option Addr} {n n' cap j : Nat} {xs : List Value} {w0 : World} {F : List Nat} (h : RowA T k (.slice a n cap) n' xs w0 F) (hj : j ≤ cap) (w : World) :
    (Instr.slice ST (.slice a n cap) none (some (.int .i64 j)) none).run P w = .ok (.slice a j cap) w := by
  cases a with
  | none => exact run_prefix_none hST hinf _ _ _ hj w
  | some ad =>
    obtain ⟨bb, rfl⟩ : ∃ bb, ad = ⟨bb, 0, none⟩ := by
      obtain ⟨_, h4 | ⟨g, c, cur, e, _⟩⟩ := h.2
      · cases h4.1
      · cases e; exact ⟨g, rfl⟩
    exact run_prefix hST hinf _ _ _ _ hj w
theorem In.fold {F0 : List Nat} {w0 w : World} {R : List Asrt} {A B C : Asrt} (h : In F0 w0 w (B :: R)) (i : Nat) (hA : R[i]? = some A) (fC : Framed C) (hC : ∀ F, Star [A, B] w F → C w F) : In F0 w0 w (R.set i C) := by
  have hp : (B :: R).Perm ([A, B] ++ R.eraseIdx i) := ((front hA).cons B).trans (List.Perm.swap A B _)
  have h1 := (h.perm hp).join
  have h2 := h1.imp 0 (A' := C) rfl fC hC
  exact h2.perm (back hA)
theorem In.sel2 {F0 : List Nat} {w0 w : World} {R1 R2 : List Asrt} (h : In F0 w0 w (R1 ++ R2)) (is : List Nat) (hn : is.Nodup) (hb0 : is.all (fun i => decide (i < R1.length)) = true) : In F0 w0 w (is.map (fun i => R1.getD i (Cells 0 #[] 0)) ++ R2) := by
  have hb : ∀ i ∈ is, i < R1.length := fun i hi => by simpa using List.all_eq_true.1 hb0 i hi
  have e : (List.range R1.length).map (fun i => R1.getD i (Cells 0 #[] 0)) = R1 := by
    apply List.ext_getElem (by simp)
    intro i h1 h2
    simp [h2]
  have hp : (List.range R1.length).Perm (is ++ (List.range R1.length).filter (fun i => decide (i ∉ is))) := by
    refine (List.perm_ext_iff_of_nodup List.nodup_range ?_).2 (fun i => ?_)
    · rw [List.nodup_append]
      refine ⟨hn, List.nodup_range.filter _, fun a ha b hb' => ?_⟩
      have := (List.mem_filter.1 hb').2
      simp at this
      rintro rfl; exact this ha
    · simp only [List.mem_append, List.mem_filter, List.mem_range, decide_eq_true_eq]
      constructor
      · intro hi
        by_cases hm : i ∈ is
        · exact Or.inl hm
        · exact Or.inr ⟨hi, hm⟩
      · rintro (hi | hi)
        · exact hb i hi
        · exact hi.1
  have h2 := hp.map (fun i => R1.getD i (Cells 0 #[] 0))
  rw [e, List.map_append] at h2
  have h3 := h2.append_right R2
  rw [List.append_assoc] at h3
  have h4 := h3.trans (List.Perm.append_left _ List.perm_append_comm)
  rw [← List.append_assoc] at h4
  exact In.take (h.perm h4)
theorem set_same {α : Type} {R : List α} {i : Nat} {A : α} (h : R[i]? = some A) : R.set i A = R := by
  obtain ⟨hi, rfl⟩ := List.getElem?_eq_some_iff.1 h
  exact List.set_getElem_self hi
end Go.Proofs.YtgapbecddgfkmaaGreat
