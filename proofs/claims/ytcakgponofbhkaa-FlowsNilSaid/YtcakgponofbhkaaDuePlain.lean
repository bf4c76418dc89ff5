/- Plain law: keys with times in a row by time, then key: one put in, one struck, the first ones taken; how the heap's items stand to that row. -/
import Derived.Test.YtcakgponofbhkaaHeapRep
namespace Go.Proofs.Ytcakgponofbhkaa
set_option linter.unusedVariables false
set_option maxRecDepth 100000

/-- By time, then key, each once. -/
def Row (S : List KT) : Prop := S.Pairwise (fun a b => klt a b = true)
def ins (x : KT) : List KT → List KT
  | [] => [x]
  | y :: r => if klt y x = true then y :: ins x r else x :: y :: r
def delS (k : ByteArray) (S : List KT) : List KT := S.filter (fun x => decide (x.1 ≠ k))
def atS (S : List KT) (k : ByteArray) : Option Int := (S.find? (fun x => decide (x.1 = k))).map (·.2)
def Keys1 (S : List KT) : Prop := (S.map (·.1)).Nodup

theorem ins_perm (x : KT) : ∀ S, (ins x S).Perm (x :: S)
  | [] => List.Perm.refl _
  | y :: r => by
    unfold ins
    split
    · exact ((ins_perm x r).cons y).trans (List.Perm.swap x y r)
    · exact List.Perm.refl _
theorem ins_length (x : KT) (S : List KT) : (ins x S).length = S.length + 1 := by simpa using (ins_perm x S).length_eq
theorem ins_mem {x y : KT} {S : List KT} : y ∈ ins x S ↔ y = x ∨ y ∈ S := by rw [(ins_perm x S).mem_iff]; simp
theorem ins_row {x : KT} : ∀ {S : List KT}, Row S → (∀ y ∈ S, y.1 ≠ x.1) → Row (ins x S)
  | [], _, _ => by simp [ins, Row]
  | y :: r, h, hne => by
    obtain ⟨h1, h2⟩ := List.pairwise_cons.1 h
    unfold ins
    split
    · rename_i hl
      refine List.pairwise_cons.2 ⟨fun z hz => ?_, ins_row h2 (fun z hz => hne z (List.mem_cons_of_mem _ hz))⟩
      rcases ins_mem.1 hz with rfl | hz
      · exact hl
      · exact h1 z hz
    · rename_i hl
      have hxy : klt x y = true := by
        cases e : klt x y
        · exact absurd (congrArg Prod.fst (klt_total (by simpa using hl) e)) (hne y (by simp))
        · rfl
      refine List.pairwise_cons.2 ⟨fun z hz => ?_, h⟩
      rcases List.mem_cons.1 hz with rfl | hz
      · exact hxy
      · exact klt_trans hxy (h1 z hz)
theorem delS_row {S : List KT} (h : Row S) (k : ByteArray) : Row (delS k S) := List.Pairwise.sublist List.filter_sublist h
theorem delS_mem {S : List KT} {k : ByteArray} {y : KT} : y ∈ delS k S ↔ y ∈ S ∧ y.1 ≠ k := by simp [delS]
theorem delS_keys {S : List KT} (h : Keys1 S) (k : ByteArray) : Keys1 (delS k S) := List.Nodup.sublist (List.filter_sublist.map _) h
theorem delS_none {S : List KT} {k : ByteArray} (h : ∀ y ∈ S, y.1 ≠ k) : delS k S = S := by
  unfold delS; rw [List.filter_eq_self]; intro y hy; simpa using h y hy
theorem ins_keys {S : List KT} {x : KT} (h : Keys1 S) (hx : ∀ y ∈ S, y.1 ≠ x.1) : Keys1 (ins x S) := by
  unfold Keys1
  rw [((ins_perm x S).map _).nodup_iff]
  refine List.nodup_cons.2 ⟨fun hm => ?_, h⟩
  obtain ⟨y, hy, e⟩ := List.mem_map.1 hm
  exact hx y hy e
theorem keys_one {S : List KT} (h : Keys1 S) {a b : KT} (ha : a ∈ S) (hb : b ∈ S) (e : a.1 = b.1) : a = b := by
  obtain ⟨i, hi, rfl⟩ := List.mem_iff_getElem.1 ha
  obtain ⟨j, hj, rfl⟩ := List.mem_iff_getElem.1 hb
  by_cases hij : i = j
  · subst hij; rfl
  · exact absurd (by rw [List.getElem_map, List.getElem_map]; exact e) (nodup_ne h (i := i) (j := j) (by simpa using hi) (by simpa using hj) hij)
theorem atS_some {S : List KT} (h : Keys1 S) {k : ByteArray} {t : Int} : atS S k = some t ↔ (k, t) ∈ S := by
  unfold atS
  constructor
  · intro e
    obtain ⟨x, hx, rfl⟩ := Option.map_eq_some_iff.1 e
    have h1 := List.mem_of_find?_eq_some hx
    have h2 := List.find?_some hx
    simp at h2
    subst h2
    exact h1
  · intro hm
    cases hf : S.find? (fun x => decide (x.1 = k)) with
    | none => rw [List.find?_eq_none] at hf; exact absurd (hf _ hm) (by simp)
    | some x =>
      have h1 := List.mem_of_find?_eq_some hf
      have h2 := List.find?_some hf
      simp at h2
      have := keys_one h h1 hm h2
      subst this; rfl
theorem atS_none {S : List KT} {k : ByteArray} : atS S k = none ↔ ∀ y ∈ S, y.1 ≠ k := by
  unfold atS
  rw [Option.map_eq_none_iff, List.find?_eq_none]
  simp

/-! ### the row and the heap's items -/
theorem kt_nodup {L : List It} (h : (L.map It.key).Nodup) : (L.map It.kt).Nodup := by
  have : (L.map It.key) = (L.map It.kt).map Prod.fst := by rw [List.map_map]; rfl
  rw [this] at h
  exact List.Pairwise.imp (fun hab e => hab (by rw [e])) (List.pairwise_map.1 h)
theorem keys_of_perm {L : List It} {S : List KT} (h : (L.map It.key).Nodup) (hp : S.Perm (L.map It.kt)) : Keys1 S := by
  unfold Keys1
  rw [(hp.map _).nodup_iff, List.map_map]
  exact h
theorem row_nodup {S : List KT} (h : Row S) : S.Nodup := List.Pairwise.imp (fun hab e => by subst e; rw [klt_irrefl] at hab; cases hab) h

/-- The first one of the heap is the row's first. -/
theorem root_head {L : List It} {x : KT} {S : List KT} (hh : HeapP L.length (gk L)) (hr : Row (x :: S)) (hp : (x :: S).Perm (L.map It.kt)) : gk L 0 = x := by
  have hl : 0 < L.length := by have := hp.length_eq; simp at this; omega
  have h0 : gk L 0 ∈ x :: S := hp.mem_iff.2 (by unfold gk; exact List.mem_map_of_mem (ith_mem hl))
  rcases List.mem_cons.1 h0 with e | h0
  · exact e
  · have h1 := (List.pairwise_cons.1 hr).1 _ h0
    have hx : x ∈ L.map It.kt := hp.mem_iff.1 (by simp)
    obtain ⟨y, hy, rfl⟩ := List.mem_map.1 hx
    obtain ⟨i, hi, rfl⟩ := List.mem_iff_getElem.1 hy
    have := heap_root hh i hi
    unfold gk at this h1
    rw [ith_lt hi] at this
    unfold kle at this
    rw [this] at h1
    cases h1

/-- One item has another time. -/
theorem perm_set {L : List It} {S : List KT} (hk : (L.map It.key).Nodup) (hp : S.Perm (L.map It.kt)) {i : Nat} (hi : i < L.length) (t : Int) :
    (ins ((ith L i).key, t) (delS (ith L i).key S)).Perm ((L.set i ⟨(ith L i).blk, (ith L i).key, t⟩).map It.kt) ∧ ((L.set i ⟨(ith L i).blk, (ith L i).key, t⟩).map It.key) = L.map It.key := by
  have e2 : ((L.set i ⟨(ith L i).blk, (ith L i).key, t⟩).map It.key) = L.map It.key := by
    apply List.ext_getElem
    · simp
    · intro j h1 h2
      simp only [List.getElem_map, List.getElem_set]
      split
      · rename_i e; subst e; simp [ith_lt hi]
      · rfl
  refine ⟨?_, e2⟩
  have hS := keys_of_perm hk hp
  refine (ins_perm _ _).trans ?_
  rw [List.perm_ext_iff_of_nodup]
  · intro a
    simp only [List.mem_cons, delS_mem, List.mem_map]
    constructor
    · rintro (rfl | ⟨ha, hne⟩)
      · exact ⟨_, List.mem_set hi _, rfl⟩
      · obtain ⟨x, hx, rfl⟩ := List.mem_map.1 (hp.mem_iff.1 ha)
        obtain ⟨j, hj, rfl⟩ := List.mem_iff_getElem.1 hx
        have hij : i ≠ j := by rintro rfl; exact hne (by rw [ith_lt hi])
        exact ⟨L[j], List.mem_iff_getElem.2 ⟨j, by simpa using hj, by simp [hij]⟩, rfl⟩
    · rintro ⟨x, hx, rfl⟩
      obtain ⟨j, hj, rfl⟩ := List.mem_iff_getElem.1 hx
      have hj' : j < L.length := by simpa using hj
      rw [List.getElem_set]
      split
      · exact Or.inl rfl
      · rename_i hij
        refine Or.inr ⟨hp.mem_iff.2 (List.mem_map_of_mem (List.getElem_mem hj')), ?_⟩
        intro e
        have := nodup_ne hk (i := j) (j := i) (by simpa using hj') (by simpa using hi) (Ne.symm hij)
        have e' : L[j].key = (ith L i).key := e
        exact this (by simp only [List.getElem_map]; rw [e', ith_lt hi])
  · refine List.nodup_cons.2 ⟨fun hm => (delS_mem.1 hm).2 rfl, ?_⟩
    exact List.Nodup.sublist List.filter_sublist (hp.nodup_iff.2 (kt_nodup hk))
  · exact kt_nodup (by rw [e2]; exact hk)

/-- One item more. -/
theorem perm_new {L L' : List It} {S : List KT} (hp : S.Perm (L.map It.kt)) (x : It) (h : L'.Perm (L ++ [x])) : (ins x.kt S).Perm (L'.map It.kt) := by
  refine (ins_perm _ _).trans ?_
  refine List.Perm.trans ?_ (h.map It.kt).symm
  rw [List.map_append]
  exact (hp.cons _).trans (List.perm_append_singleton _ _).symm
/-- One item less. -/
theorem perm_less {L L' : List It} {S : List KT} (hk : (L.map It.key).Nodup) (hp : S.Perm (L.map It.kt)) (x : It) (h : (L' ++ [x]).Perm L) : (delS x.key S).Perm (L'.map It.kt) := by
  have hk' : ((L' ++ [x]).map It.key).Nodup := (h.map It.key).nodup_iff.2 hk
  have h1 : (delS x.key S).Perm (delS x.key ((L' ++ [x]).map It.kt)) := (hp.trans (h.map It.kt).symm).filter _
  refine h1.trans ?_
  have : delS x.key ((L' ++ [x]).map It.kt) = L'.map It.kt := by
    rw [List.map_append]
    unfold delS
    rw [List.filter_append]
    have e1 : (List.map It.kt L').filter (fun y => decide (y.1 ≠ x.key)) = List.map It.kt L' := by
      rw [List.filter_eq_self]
      intro y hy
      obtain ⟨z, hz, rfl⟩ := List.mem_map.1 hy
      rw [List.map_append] at hk'
      have := (List.nodup_append.1 hk').2.2 z.key (List.mem_map_of_mem hz) x.key (by simp)
      simpa using this
    rw [e1]
    simp
  rw [this]

/-! ### the first ones -/
def dueK (S : List KT) (now : Int) : List ByteArray := (S.takeWhile (fun x => decide (x.2 ≤ now))).map (·.1)
def dueR (S : List KT) (now : Int) : List KT := S.dropWhile (fun x => decide (x.2 ≤ now))
theorem head_del {x : KT} {S : List KT} (h : Keys1 (x :: S)) : delS x.1 (x :: S) = S := by
  have hx : ∀ y ∈ S, y.1 ≠ x.1 := by
    intro y hy e
    exact (List.nodup_cons.1 h).1 (List.mem_map.2 ⟨y, hy, e⟩)
  have := delS_none hx
  unfold delS at *
  rw [List.filter_cons]
  simpa using this

/-! ### the calls -/
def maxTime : Int := 1099511627776
def setS (S : List KT) (k : ByteArray) (t : Int) : List KT × Int :=
  if t < 0 ∨ 1099511627776 < t then (S, 1) else if atS S k = none ∧ 1024 ≤ S.length then (S, 9) else (ins (k, t) (delS k S), 0)

end Go.Proofs.Ytcakgponofbhkaa
