/- Maps in memory: which value stands at which key, behind a look-up, a store and a deletion. -/
import Derived.Test.YtcakgponofbhkaaMem
import Derived.Maps.Keyed
import Derived.Maps.OwnSet
namespace Go.Proofs.Ytcakgponofbhkaa
open Go.RowKit Go.MapKept Go.WideShapes
open Go.ChangeMaps (setBlock)
open Go.Maps (Keyed)
set_option linter.unusedVariables false
set_option maxRecDepth 100000

/-- Block b is a map with n entries, the key k at the value v just where R k v. -/
structure MapR (P : Program) (kt : TypeId) (w : World) (b : Nat) (R : Value → Value → Prop) (n : Nat) : Prop where
  ex : ∃ es clock, w.heap[b]? = some (.map es clock) ∧ Stamped es clock ∧ (∀ x ∈ es.toList, ∃ l, keyOf P kt x.key = some l) ∧ (∀ k v, R k v ↔ ∃ (i : Nat) (x : MapEntry), es[i]? = some x ∧ x.key = k ∧ x.val = v) ∧ es.size = n

/-- Nothing but block b has turned. -/
structure Turn (b : Nat) (w w' : World) : Prop where
  os : w'.os = w.os
  tape : w'.tape = w.tape
  output : w'.output = w.output
  drawn : w'.drawn = w.drawn
  size : w'.heap.size = w.heap.size
  block : ∀ k, k ≠ b → w'.heap[k]? = w.heap[k]?

theorem Turn.mod {b : Nat} {w w' : World} (h : Turn b w w') : Mod [b] w w' := ⟨h.os, h.tape, h.output, by rw [h.size]; exact Nat.le_refl _, fun k _ hk => h.block k (by simpa using hk)⟩
theorem Turn.cell {b : Nat} {w w' : World} (h : Turn b w w') {a : Addr} (ha : a.block ≠ b) : w'.cell? a = w.cell? a := World.cell?_of_block (h.block _ ha)
theorem Turn.frozen {b : Nat} {w w' : World} (h : Turn b w w') {a : Addr} (ha : a.block ≠ b) : w'.frozen? a = w.frozen? a := World.frozen?_of_block (h.block _ ha)

theorem turn_setBlock {w : World} {b : Nat} {o o' : Obj} (hb : w.heap[b]? = some o) : Turn b w (setBlock w b o') :=
  ⟨rfl, rfl, rfl, rfl, by simp [setBlock], fun k hk => (heap_set hb).2 k hk⟩

section
variable {P : Program} {kt et t : TypeId} {w : World} {b n : Nat} {R : Value → Value → Prop}

theorem MapR.congr (h : MapR P kt w b R n) {R' : Value → Value → Prop} (e : ∀ k v, R' k v ↔ R k v) : MapR P kt w b R' n := by
  obtain ⟨es, clock, h1, h2, h3, h4, h5⟩ := h.ex
  exact ⟨es, clock, h1, h2, h3, fun k v => (e k v).trans (h4 k v), h5⟩
theorem MapR.keep (h : MapR P kt w b R n) {w' : World} (e : w'.heap[b]? = w.heap[b]?) : MapR P kt w' b R n := by
  obtain ⟨es, clock, h1, h2⟩ := h.ex
  exact ⟨es, clock, e.trans h1, h2⟩
theorem MapR.lt (h : MapR P kt w b R n) : b < w.heap.size := by
  obtain ⟨es, clock, h1, _⟩ := h.ex
  exact hp_lt h1
theorem map_made (P : Program) (kt : TypeId) (w : World) : MapR P kt (w.alloc (.map #[] 0)) w.heap.size (fun _ _ => False) 0 :=
  ⟨#[], 0, hp_alloc_new, stamped_empty 0, by simp, by simp, rfl⟩

theorem keys_ne {es : Array MapEntry} {clock : Nat} (h : Stamped es clock) {i j : Nat} {x y : MapEntry} (hi : es[i]? = some x) (hj : es[j]? = some y) (hij : i ≠ j) : x.key ≠ y.key := by
  have hk := h.2.2
  have li : i < es.size := (Array.getElem?_eq_some_iff.1 hi).1
  have lj : j < es.size := (Array.getElem?_eq_some_iff.1 hj).1
  have ei : es[i] = x := (Array.getElem?_eq_some_iff.1 hi).2
  have ej : es[j] = y := (Array.getElem?_eq_some_iff.1 hj).2
  intro e
  have : (es.toList.map (·.key))[i]? = (es.toList.map (·.key))[j]? := by simp [hi, hj, e]
  exact hij ((List.getElem?_inj (by simpa using li) hk).1 this)

theorem MapR.one (h : MapR P kt w b R n) {k v v' : Value} (h1 : R k v) (h2 : R k v') : v = v' := by
  obtain ⟨es, clock, hb, hs, hk, hR, _⟩ := h.ex
  obtain ⟨i, x, hi, hxk, hxv⟩ := (hR k v).1 h1
  obtain ⟨j, y, hj, hyk, hyv⟩ := (hR k v').1 h2
  by_cases e : i = j
  · subst e; rw [hi] at hj; cases hj; exact hxv.symm.trans hyv
  · exact absurd (hxk.trans hyk.symm) (keys_ne hs hi hj e)

/-- 'm[k]', with or without ok. -/
theorem MapR.look (h : MapR P kt w b R n) (K : Keyed P kt) (ht : P.underlying t = some (.map kt et)) {z : Value} (hz : (zeroValue et).run P w = .ok z w) {key : Value} {kl : Lit} (hkey : keyOf P kt key = some kl) (c : Bool) :
    (∃ v, R key v ∧ (Instr.lookup t (.map (some b)) key c).run P w = .ok (if c then .tuple #[v, .bool true] else v) w) ∨
    ((∀ v, ¬ R key v) ∧ (Instr.lookup t (.map (some b)) key c).run P w = .ok (if c then .tuple #[z, .bool false] else z) w) := by
  obtain ⟨es, clock, hb, hs, hk, hR, _⟩ := h.ex
  rcases K.find w hkey es.toList hk with ⟨h1, h2⟩ | ⟨j, e0, h1, h2, h3⟩
  · refine Or.inr ⟨fun v hv => ?_, by simp [Instr.lookup, run_underlying ht, MapKept.run_getObj_map hb, K.check w _ hkey, h1, hz, Result.andThen]⟩
    obtain ⟨i, x, hi, hxk, _⟩ := (hR _ _).1 hv
    exact h2 x (by rw [Array.mem_toList_iff]; exact Array.mem_of_getElem? hi) hxk
  · exact Or.inl ⟨e0.val, (hR _ _).2 ⟨j, e0, by simpa using h2, h3, rfl⟩, by simp [Instr.lookup, run_underlying ht, MapKept.run_getObj_map hb, K.check w _ hkey, h1, Result.andThen]⟩

/-- 'm[k] = v'. -/
theorem MapR.put (h : MapR P kt w b R n) (K : Keyed P kt) (ht : P.underlying t = some (.map kt et)) {key val : Value} {kl : Lit} (hkey : keyOf P kt key = some kl) :
    ∃ w', (Instr.mapUpdate t (.map (some b)) key val).run P w = .ok () w' ∧ Turn b w w' ∧
      (((∃ v, R key v) ∧ MapR P kt w' b (fun k v => (k = key ∧ v = val) ∨ (k ≠ key ∧ R k v)) n) ∨ ((∀ v, ¬ R key v) ∧ MapR P kt w' b (fun k v => (k = key ∧ v = val) ∨ (k ≠ key ∧ R k v)) (n + 1))) := by
  obtain ⟨es, clock, hb, hs, hk, hR, hn⟩ := h.ex
  rcases K.find w hkey es.toList hk with ⟨h1, h2⟩ | ⟨j, e0, h1, h2, h3⟩
  · have hno : ∀ v, ¬ R key v := fun v hv => by
      obtain ⟨i, x, hi, hxk, _⟩ := (hR _ _).1 hv
      exact h2 x (by rw [Array.mem_toList_iff]; exact Array.mem_of_getElem? hi) hxk
    refine ⟨setBlock w b (.map (es.push ⟨key, val, clock⟩) (clock + 1)), by simp [Instr.mapUpdate, run_underlying ht, MapKept.run_getObj_map hb, K.check w false hkey, h1, MapKept.run_setObj_map _ hb, Result.andThen, setBlock],
      turn_setBlock hb, Or.inr ⟨hno, _, _, (heap_set hb).1, stamped_push hs h2, ?_, ?_, by simp [hn]⟩⟩
    · intro x hx
      simp only [Array.toList_push, List.mem_append, List.mem_singleton] at hx
      rcases hx with hx | rfl
      · exact hk x hx
      · exact ⟨_, hkey⟩
    · intro k v
      constructor
      · rintro (⟨rfl, rfl⟩ | ⟨hne, hv⟩)
        · exact ⟨es.size, ⟨k, v, clock⟩, by simp, rfl, rfl⟩
        · obtain ⟨i, x, hi, hxk, hxv⟩ := (hR _ _).1 hv
          exact ⟨i, x, by rw [Array.getElem?_push, if_neg (by have := (Array.getElem?_eq_some_iff.1 hi).1; omega)]; exact hi, hxk, hxv⟩
      · rintro ⟨i, x, hi, hxk, hxv⟩
        rw [Array.getElem?_push] at hi
        split at hi
        · cases hi; exact Or.inl ⟨hxk.symm, hxv.symm⟩
        · refine Or.inr ⟨?_, (hR _ _).2 ⟨i, x, hi, hxk, hxv⟩⟩
          rintro rfl
          exact h2 x (by rw [Array.mem_toList_iff]; exact Array.mem_of_getElem? hi) hxk
  · have hj : es[j]? = some e0 := by simpa using h2
    have hkey' : ((es[j]?).map (·.key)).getD key = key := by simp [hj, h3]
    refine ⟨setBlock w b (.map (es.modify j fun e => { e with key := key, val := val }) clock), ?_, turn_setBlock hb, Or.inl ⟨⟨e0.val, (hR _ _).2 ⟨j, e0, hj, h3, rfl⟩⟩, _, _, (heap_set hb).1, ?_, ?_, ?_, by simp [hn]⟩⟩
    · have hst := K.stays w hkey
      simp [Instr.mapUpdate, run_underlying ht, MapKept.run_getObj_map hb, K.check w false hkey, h1, h3, hst, hj, MapKept.run_setObj_map _ hb, Result.andThen, setBlock]
    · exact stamped_modify hs j _ (fun _ _ => rfl) (fun e _ he => by rw [hj] at he; cases he; exact h3.symm)
    · intro x hx
      rw [Array.mem_toList_iff, Array.mem_iff_getElem?] at hx
      obtain ⟨i, hi⟩ := hx
      rw [Array.getElem?_modify] at hi
      split at hi
      · rename_i e; subst e; rw [hj] at hi; simp at hi; subst hi; exact ⟨_, hkey⟩
      · exact hk x (by rw [Array.mem_toList_iff]; exact Array.mem_of_getElem? hi)
    · intro k v
      constructor
      · rintro (⟨rfl, rfl⟩ | ⟨hne, hv⟩)
        · exact ⟨j, { e0 with key := k, val := v }, by rw [Array.getElem?_modify, if_pos rfl, hj]; rfl, rfl, rfl⟩
        · obtain ⟨i, x, hi, hxk, hxv⟩ := (hR _ _).1 hv
          refine ⟨i, x, ?_, hxk, hxv⟩
          rw [Array.getElem?_modify, if_neg]
          · exact hi
          · rintro rfl; rw [hj] at hi; cases hi; exact hne (hxk.symm.trans h3)
      · rintro ⟨i, x, hi, hxk, hxv⟩
        rw [Array.getElem?_modify] at hi
        split at hi
        · rename_i e; subst e; rw [hj] at hi; simp at hi; subst hi; exact Or.inl ⟨hxk.symm, hxv.symm⟩
        · rename_i e
          refine Or.inr ⟨?_, (hR _ _).2 ⟨i, x, hi, hxk, hxv⟩⟩
          rintro rfl
          exact keys_ne hs hi hj (Ne.symm e) (hxk.trans h3.symm)

/-- 'delete(m, k)'. -/
theorem MapR.del (h : MapR P kt w b R n) (K : Keyed P kt) (ht : P.underlying t = some (.map kt et)) {key : Value} {kl : Lit} (hkey : keyOf P kt key = some kl) (k2 ty : TypeId) :
    ∃ w', (Builtin.delete_ #[t, k2] ty #[.map (some b), key]).run P w = .ok (.tuple #[]) w' ∧ Turn b w w' ∧
      (((∃ v, R key v) ∧ MapR P kt w' b (fun k v => k ≠ key ∧ R k v) (n - 1) ∧ 1 ≤ n) ∨ ((∀ v, ¬ R key v) ∧ MapR P kt w' b (fun k v => k ≠ key ∧ R k v) n)) := by
  obtain ⟨es, clock, hb, hs, hk, hR, hn⟩ := h.ex
  rcases K.find w hkey es.toList hk with ⟨h1, h2⟩ | ⟨j, e0, h1, h2, h3⟩
  · have hno : ∀ v, ¬ R key v := fun v hv => by
      obtain ⟨i, x, hi, hxk, _⟩ := (hR _ _).1 hv
      exact h2 x (by rw [Array.mem_toList_iff]; exact Array.mem_of_getElem? hi) hxk
    refine ⟨setBlock w b (.map es clock), by simp [Builtin.delete_, run_underlying ht, MapKept.run_getObj_map hb, K.check w _ hkey, h1, MapKept.run_setObj_map _ hb, Result.andThen, setBlock],
      turn_setBlock hb, Or.inr ⟨hno, _, _, (heap_set hb).1, hs, hk, fun k v => ?_, hn⟩⟩
    rw [← hR]
    constructor
    · exact fun h => h.2
    · intro h; exact ⟨by rintro rfl; exact hno _ h, h⟩
  · have hj : es[j]? = some e0 := by simpa using h2
    have lj : j < es.size := (Array.getElem?_eq_some_iff.1 hj).1
    refine ⟨setBlock w b (.map (es.eraseIdxIfInBounds j) clock), by simp [Builtin.delete_, run_underlying ht, MapKept.run_getObj_map hb, K.check w _ hkey, h1, MapKept.run_setObj_map _ hb, Result.andThen, setBlock],
      turn_setBlock hb, Or.inl ⟨⟨e0.val, (hR _ _).2 ⟨j, e0, hj, h3, rfl⟩⟩, ⟨_, _, (heap_set hb).1, stamped_erase hs j, ?_, ?_, ?_⟩, by omega⟩⟩
    · intro x hx
      rw [Array.eraseIdxIfInBounds, dif_pos lj, Array.toList_eraseIdx] at hx
      exact hk x (List.mem_of_mem_eraseIdx hx)
    · intro k v
      have key2 : ∀ x : MapEntry, (∃ i : Nat, (es.eraseIdxIfInBounds j)[i]? = some x) ↔ ∃ i : Nat, i ≠ j ∧ es[i]? = some x := by
        intro x
        rw [← Array.mem_iff_getElem?, ← Array.mem_toList_iff, Array.eraseIdxIfInBounds, dif_pos lj, Array.toList_eraseIdx, List.mem_eraseIdx_iff_getElem?]
        simp
      constructor
      · rintro ⟨hne, hv⟩
        obtain ⟨i, x, hi, hxk, hxv⟩ := (hR _ _).1 hv
        obtain ⟨i', hi'⟩ := (key2 x).2 ⟨i, by rintro rfl; rw [hj] at hi; cases hi; exact hne (hxk.symm.trans h3), hi⟩
        exact ⟨i', x, hi', hxk, hxv⟩
      · rintro ⟨i, x, hi, hxk, hxv⟩
        obtain ⟨i', hne, hi'⟩ := (key2 x).1 ⟨i, hi⟩
        refine ⟨?_, (hR _ _).2 ⟨i', x, hi', hxk, hxv⟩⟩
        rintro rfl
        exact keys_ne hs hi' hj hne (hxk.trans h3.symm)
    · rw [Array.eraseIdxIfInBounds, dif_pos lj, Array.size_eraseIdx]; omega

/-- 'len(m)'. -/
theorem MapR.len (h : MapR P kt w b R n) (ht : P.underlying t = some (.map kt et)) (ty : TypeId) : (Builtin.len_ #[t] ty #[.map (some b)]).run P w = .ok (.int .i64 n) w := by
  obtain ⟨es, clock, hb, hs, hk, hR, hn⟩ := h.ex
  simp [Builtin.len_, run_underlying ht, MapKept.run_getObj_map hb, hn, Result.andThen, goInt]
end

end Go.Proofs.Ytcakgponofbhkaa
