/- Maps in memory that stand for a row of things, each at its key. -/
import Derived.Test.YtogclkhpbjfadaaGreatOwn
import Derived.Test.YtogclkhpbjfadaaGreatBase
namespace Go.Proofs.YtogclkhpbjfadaaGreat
open Go.RowKit
open Go.Maps (Keyed)
set_option linter.unusedVariables false
set_option maxRecDepth 100000

section
variable {α : Type} {P : Program} {kt : TypeId} {ek ev : α → Value}
def tabR (ek ev : α → Value) (L : List α) (k v : Value) : Prop := ∃ x ∈ L, k = ek x ∧ v = ev x
/-- The map at block b has just the things of L. -/
def TabA (P : Program) (kt : TypeId) (ek ev : α → Value) (b : Nat) (L : List α) : Asrt := fun w F => F = [b] ∧ MapR P kt w b (tabR ek ev L) L.length
theorem TabA.framed (b : Nat) (L : List α) : Framed (TabA P kt ek ev b L) :=
  ⟨fun h hk => ⟨h.1, h.2.keep (hk b (by rw [h.1]; simp))⟩, fun h b' hb => by rw [h.1] at hb; simp at hb; subst hb; exact h.2.lt⟩
theorem TabA.perm {b : Nat} {L L' : List α} {w : World} {F : List Nat} (h : TabA P kt ek ev b L w F) (hp : L'.Perm L) : TabA P kt ek ev b L' w F :=
  ⟨h.1, by rw [hp.length_eq]; exact h.2.congr (fun k v => ⟨fun ⟨x, hx, e⟩ => ⟨x, hp.mem_iff.1 hx, e⟩, fun ⟨x, hx, e⟩ => ⟨x, hp.mem_iff.2 hx, e⟩⟩)⟩
/-- What is left when the key's thing is struck: one less if it was there. -/
theorem strike_length {p : α → Bool} {key : Value} : ∀ {L : List α}, (L.map ek).Nodup → (∀ x ∈ L, p x = true ↔ ek x ≠ key) →
    ((∃ x ∈ L, ek x = key) → (L.filter p).length + 1 = L.length) ∧ ((∀ x ∈ L, ek x ≠ key) → L.filter p = L)
  | [], _, _ => ⟨fun ⟨x, hx, _⟩ => by simp at hx, fun _ => rfl⟩
  | y :: r, hn, hp => by
    obtain ⟨n1, n2⟩ := List.nodup_cons.1 hn
    obtain ⟨i1, i2⟩ := strike_length n2 (fun x hx => hp x (List.mem_cons_of_mem _ hx))
    have hy := hp y (by simp)
    constructor
    · rintro ⟨x, hx, e⟩
      by_cases hye : ek y = key
      · have : p y = false := by
          cases h : p y with
          | false => rfl
          | true => exact absurd hye (hy.1 h)
        have hr : r.filter p = r := i2 (fun z hz e2 => n1 (by rw [hye, ← e2]; exact List.mem_map_of_mem hz))
        rw [List.filter_cons, if_neg (by simp [this]), hr]; rfl
      · have : p y = true := hy.2 hye
        have hx' : x ∈ r := by
          rcases List.mem_cons.1 hx with rfl | hx
          · exact absurd e hye
          · exact hx
        rw [List.filter_cons, if_pos this, List.length_cons, List.length_cons, i1 ⟨x, hx', e⟩]
    · intro h
      rw [List.filter_cons, if_pos (hy.2 (h y (by simp))), i2 (fun x hx => h x (List.mem_cons_of_mem _ hx))]
variable {F0 : List Nat} {w0 w : World} {R : List Asrt} {b : Nat} {L : List α} {mt et : TypeId} {key : Value} {kl : Lit}
theorem tab_look (h : In F0 w0 w R) (i : Nat) (hA : R[i]? = some (TabA P kt ek ev b L)) (K : Keyed P kt) (hmt : P.underlying mt = some (.map kt et)) {z : Value} (hz : (zeroValue et).run P w = .ok z w) (hkey : keyOf P kt key = some kl) (c : Bool) :
    (∃ x ∈ L, ek x = key ∧ (Instr.lookup mt (.map (some b)) key c).run P w = .ok (if c then .tuple #[ev x, .bool true] else ev x) w) ∨
    ((∀ x ∈ L, ek x ≠ key) ∧ (Instr.lookup mt (.map (some b)) key c).run P w = .ok (if c then .tuple #[z, .bool false] else z) w) := by
  obtain ⟨F, _, hm⟩ := h.get i hA
  rcases hm.look K hmt hz hkey c with ⟨v, ⟨x, hx, e1, rfl⟩, hr⟩ | ⟨hn, hr⟩
  · exact Or.inl ⟨x, hx, e1.symm, hr⟩
  · exact Or.inr ⟨fun x hx e => hn (ev x) ⟨x, hx, e.symm, rfl⟩, hr⟩
theorem tab_put (h : In F0 w0 w R) (i : Nat) (hA : R[i]? = some (TabA P kt ek ev b L)) (K : Keyed P kt) (hmt : P.underlying mt = some (.map kt et)) (y : α) (hkey : keyOf P kt (ek y) = some kl) (hn : (L.map ek).Nodup) (p : α → Bool) (hp : ∀ x ∈ L, p x = true ↔ ek x ≠ ek y) :
    ∃ w', (Instr.mapUpdate mt (.map (some b)) (ek y) (ev y)).run P w = .ok () w' ∧ Turn b w w' ∧ In F0 w0 w' (R.set i (TabA P kt ek ev b (y :: L.filter p))) := by
  obtain ⟨F, _, hm⟩ := h.get i hA
  obtain ⟨w', hr, ht, hc⟩ := hm.put K hmt (val := ev y) hkey
  obtain ⟨s1, s2⟩ := strike_length hn hp
  have hR : ∀ k v, tabR ek ev (y :: L.filter p) k v ↔ (k = ek y ∧ v = ev y) ∨ (k ≠ ek y ∧ tabR ek ev L k v) := by
    intro k v
    constructor
    · rintro ⟨x, hx, rfl, rfl⟩
      rcases List.mem_cons.1 hx with rfl | hx
      · exact Or.inl ⟨rfl, rfl⟩
      · obtain ⟨hx, hpx⟩ := List.mem_filter.1 hx
        exact Or.inr ⟨(hp x hx).1 hpx, x, hx, rfl, rfl⟩
    · rintro (⟨rfl, rfl⟩ | ⟨hne, x, hx, rfl, rfl⟩)
      · exact ⟨y, by simp, rfl, rfl⟩
      · exact ⟨x, List.mem_cons_of_mem _ (List.mem_filter.2 ⟨hx, (hp x hx).2 hne⟩), rfl, rfl⟩
  refine ⟨w', hr, ht, h.step i hA (TabA.framed _ _) fun F hF => ⟨F, ⟨hF.1, ?_⟩, Grew.refl _ _, ?_⟩⟩
  · rcases hc with ⟨⟨v, x, hx, e, _⟩, hc⟩ | ⟨hno, hc⟩
    · rw [List.length_cons, s1 ⟨x, hx, e.symm⟩]
      exact hc.congr hR
    · have : L.filter p = L := s2 (fun x hx e => hno (ev x) ⟨x, hx, e.symm, rfl⟩)
      rw [this] at hR ⊢
      exact hc.congr hR
  · rw [hF.1]; exact ht.mod
theorem tab_del (h : In F0 w0 w R) (i : Nat) (hA : R[i]? = some (TabA P kt ek ev b L)) (K : Keyed P kt) (hmt : P.underlying mt = some (.map kt et)) (hkey : keyOf P kt key = some kl) (hn : (L.map ek).Nodup) (p : α → Bool) (hp : ∀ x ∈ L, p x = true ↔ ek x ≠ key) (k2 ty : TypeId) :
    ∃ w', (Builtin.delete_ #[mt, k2] ty #[.map (some b), key]).run P w = .ok (.tuple #[]) w' ∧ Turn b w w' ∧ In F0 w0 w' (R.set i (TabA P kt ek ev b (L.filter p))) := by
  obtain ⟨F, _, hm⟩ := h.get i hA
  obtain ⟨w', hr, ht, hc⟩ := hm.del K hmt hkey k2 ty
  obtain ⟨s1, s2⟩ := strike_length hn hp
  have hR : ∀ k v, tabR ek ev (L.filter p) k v ↔ (k ≠ key ∧ tabR ek ev L k v) := by
    intro k v
    constructor
    · rintro ⟨x, hx, rfl, rfl⟩
      obtain ⟨hx, hpx⟩ := List.mem_filter.1 hx
      exact ⟨(hp x hx).1 hpx, x, hx, rfl, rfl⟩
    · rintro ⟨hne, x, hx, rfl, rfl⟩
      exact ⟨x, List.mem_filter.2 ⟨hx, (hp x hx).2 hne⟩, rfl, rfl⟩
  refine ⟨w', hr, ht, h.step i hA (TabA.framed _ _) fun F hF => ⟨F, ⟨hF.1, ?_⟩, Grew.refl _ _, ?_⟩⟩
  · rcases hc with ⟨⟨v, x, hx, e, _⟩, hc, _⟩ | ⟨hno, hc⟩
    · have e2 := s1 ⟨x, hx, e.symm⟩
      have e3 : (L.filter p).length = L.length - 1 := by omega
      rw [e3]
      exact hc.congr hR
    · have : L.filter p = L := s2 (fun x hx e => hno (ev x) ⟨x, hx, e.symm, rfl⟩)
      rw [this] at hR ⊢
      exact hc.congr hR
  · rw [hF.1]; exact ht.mod
theorem tab_len (h : In F0 w0 w R) (i : Nat) (hA : R[i]? = some (TabA P kt ek ev b L)) (hmt : P.underlying mt = some (.map kt et)) (ty : TypeId) : (Builtin.len_ #[mt] ty #[.map (some b)]).run P w = .ok (.int .i64 L.length) w := by
  obtain ⟨F, _, hm⟩ := h.get i hA
  exact hm.len hmt ty
theorem tab_make (h : In F0 w0 w R) (P : Program) (kt : TypeId) (ek ev : α → Value) : In F0 w0 (w.alloc (.map #[] 0)) (TabA P kt ek ev w.heap.size [] :: R) := by
  obtain ⟨F, hs, hF⟩ := h.star
  have fr := Framed.star h.framed
  refine ⟨fun B hB => ?_, ⟨[w.heap.size] ++ F, ⟨[w.heap.size], F, ⟨rfl, (map_made P kt w).congr (fun k v => by simp [tabR])⟩, fr.keep hs (fun b hb => hp_alloc_old (fr.lt hs b hb)), ?_, rfl⟩, ?_⟩, h.mod.alloc _⟩
  · rcases List.mem_cons.1 hB with rfl | hB
    · exact TabA.framed _ _
    · exact h.framed B hB
  · intro b hb hbF
    simp at hb; subst hb
    exact absurd (fr.lt hs _ hbF) (by omega)
  · intro b hb
    simp at hb
    rcases hb with rfl | hb
    · exact Or.inr h.mod.size
    · exact hF b hb
theorem tab_perm (h : In F0 w0 w R) (i : Nat) (hA : R[i]? = some (TabA P kt ek ev b L)) {L' : List α} (hp : L'.Perm L) : In F0 w0 w (R.set i (TabA P kt ek ev b L')) :=
  h.imp i hA (TabA.framed _ _) fun F hF => hF.perm hp
end
end Go.Proofs.YtogclkhpbjfadaaGreat
