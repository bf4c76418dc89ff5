/- Plain law: keys with times in a row by time, then key: one put in, one struck, the first ones taken; how the heap's items stand to that row. A queue in memory: its heap, its map, and the row of keys that it stands for. The queue's calls that only read; a new queue. The queue: a key's time is set. The queue: a new key. The queue: a new one; a key dropped. The queue: all that are due, which are gone then. What the statements of this layer share: two rows of texts held against each other; keys that every program must know. -/
import Derived.Test.YtcakgponofbhkaaBase
import Derived.StringKeys
import Derived.StillTailTactics
namespace Go.Proofs.Ytcakgponofbhkaa
set_option linter.unusedVariables false
set_option maxRecDepth 100000

/-- By time, then key, each once. -/
def Row (S : List KT) : Prop := S.Pairwise (fun a b => klt a b = true)
def ins (x : KT) : List KT → List KT
  | [] => [x]
  | y :: r => if klt y x = true then y :: ins x r else x :: y :: r
def delS (k : ByteArray) (S : List KT) : List KT := S.filter (fun x => decide (x.1 ≠ k))
def atS (S : List KT) (k : ByteArray) : Option Int := (S.find? (fun x => decide (x.1 = k))).map (·.2)
def Keys1 (S : List KT) : Prop := (S.map (·.1)).Nodup

theorem ins_perm (x : KT) : ∀ S, (ins x S).Perm (x :: S)
  | [] => List.Perm.refl _
  | y :: r => by
    unfold ins
    split
    · exact ((ins_perm x r).cons y).trans (List.Perm.swap x y r)
    · exact List.Perm.refl _
theorem ins_length (x : KT) (S : List KT) : (ins x S).length = S.length + 1 := by simpa using (ins_perm x S).length_eq
theorem ins_mem {x y : KT} {S : List KT} : y ∈ ins x S ↔ y = x ∨ y ∈ S := by rw [(ins_perm x S).mem_iff]; simp
theorem ins_row {x : KT} : ∀ {S : List KT}, Row S → (∀ y ∈ S, y.1 ≠ x.1) → Row (ins x S)
  | [], _, _ => by simp [ins, Row]
  | y :: r, h, hne => by
    obtain ⟨h1, h2⟩ := List.pairwise_cons.1 h
    unfold ins
    split
    · rename_i hl
      refine List.pairwise_cons.2 ⟨fun z hz => ?_, ins_row h2 (fun z hz => hne z (List.mem_cons_of_mem _ hz))⟩
      rcases ins_mem.1 hz with rfl | hz
      · exact hl
      · exact h1 z hz
    · rename_i hl
      have hxy : klt x y = true := by
        cases e : klt x y
        · exact absurd (congrArg Prod.fst (klt_total (by simpa using hl) e)) (hne y (by simp))
        · rfl
      refine List.pairwise_cons.2 ⟨fun z hz => ?_, h⟩
      rcases List.mem_cons.1 hz with rfl | hz
      · exact hxy
      · exact klt_trans hxy (h1 z hz)
theorem delS_row {S : List KT} (h : Row S) (k : ByteArray) : Row (delS k S) := List.Pairwise.sublist List.filter_sublist h
theorem delS_mem {S : List KT} {k : ByteArray} {y : KT} : y ∈ delS k S ↔ y ∈ S ∧ y.1 ≠ k := by simp [delS]
theorem delS_keys {S : List KT} (h : Keys1 S) (k : ByteArray) : Keys1 (delS k S) := List.Nodup.sublist (List.filter_sublist.map _) h
theorem delS_none {S : List KT} {k : ByteArray} (h : ∀ y ∈ S, y.1 ≠ k) : delS k S = S := by
  unfold delS; rw [List.filter_eq_self]; intro y hy; simpa using h y hy
theorem ins_keys {S : List KT} {x : KT} (h : Keys1 S) (hx : ∀ y ∈ S, y.1 ≠ x.1) : Keys1 (ins x S) := by
  unfold Keys1
  rw [((ins_perm x S).map _).nodup_iff]
  refine List.nodup_cons.2 ⟨fun hm => ?_, h⟩
  obtain ⟨y, hy, e⟩ := List.mem_map.1 hm
  exact hx y hy e
theorem keys_one {S : List KT} (h : Keys1 S) {a b : KT} (ha : a ∈ S) (hb : b ∈ S) (e : a.1 = b.1) : a = b := by
  obtain ⟨i, hi, rfl⟩ := List.mem_iff_getElem.1 ha
  obtain ⟨j, hj, rfl⟩ := List.mem_iff_getElem.1 hb
  by_cases hij : i = j
  · subst hij; rfl
  · exact absurd (by rw [List.getElem_map, List.getElem_map]; exact e) (nodup_ne h (i := i) (j := j) (by simpa using hi) (by simpa using hj) hij)
theorem atS_some {S : List KT} (h : Keys1 S) {k : ByteArray} {t : Int} : atS S k = some t ↔ (k, t) ∈ S := by
  unfold atS
  constructor
  · intro e
    obtain ⟨x, hx, rfl⟩ := Option.map_eq_some_iff.1 e
    have h1 := List.mem_of_find?_eq_some hx
    have h2 := List.find?_some hx
    simp at h2
    subst h2
    exact h1
  · intro hm
    cases hf : S.find? (fun x => decide (x.1 = k)) with
    | none => rw [List.find?_eq_none] at hf; exact absurd (hf _ hm) (by simp)
    | some x =>
      have h1 := List.mem_of_find?_eq_some hf
      have h2 := List.find?_some hf
      simp at h2
      have := keys_one h h1 hm h2
      subst this; rfl
theorem atS_none {S : List KT} {k : ByteArray} : atS S k = none ↔ ∀ y ∈ S, y.1 ≠ k := by
  unfold atS
  rw [Option.map_eq_none_iff, List.find?_eq_none]
  simp

/-! ### the row and the heap's items -/
theorem kt_nodup {L : List It} (h : (L.map It.key).Nodup) : (L.map It.kt).Nodup := by
  have : (L.map It.key) = (L.map It.kt).map Prod.fst := by rw [List.map_map]; rfl
  rw [this] at h
  exact List.Pairwise.imp (fun hab e => hab (by rw [e])) (List.pairwise_map.1 h)
theorem keys_of_perm {L : List It} {S : List KT} (h : (L.map It.key).Nodup) (hp : S.Perm (L.map It.kt)) : Keys1 S := by
  unfold Keys1
  rw [(hp.map _).nodup_iff, List.map_map]
  exact h
theorem row_nodup {S : List KT} (h : Row S) : S.Nodup := List.Pairwise.imp (fun hab e => by subst e; rw [klt_irrefl] at hab; cases hab) h

/-- The first one of the heap is the row's first. -/
theorem root_head {L : List It} {x : KT} {S : List KT} (hh : HeapP L.length (gk L)) (hr : Row (x :: S)) (hp : (x :: S).Perm (L.map It.kt)) : gk L 0 = x := by
  have hl : 0 < L.length := by have := hp.length_eq; simp at this; omega
  have h0 : gk L 0 ∈ x :: S := hp.mem_iff.2 (by unfold gk; exact List.mem_map_of_mem (ith_mem hl))
  rcases List.mem_cons.1 h0 with e | h0
  · exact e
  · have h1 := (List.pairwise_cons.1 hr).1 _ h0
    have hx : x ∈ L.map It.kt := hp.mem_iff.1 (by simp)
    obtain ⟨y, hy, rfl⟩ := List.mem_map.1 hx
    obtain ⟨i, hi, rfl⟩ := List.mem_iff_getElem.1 hy
    have := heap_root hh i hi
    unfold gk at this h1
    rw [ith_lt hi] at this
    unfold kle at this
    rw [this] at h1
    cases h1

/-- One item has another time. -/
theorem perm_set {L : List It} {S : List KT} (hk : (L.map It.key).Nodup) (hp : S.Perm (L.map It.kt)) {i : Nat} (hi : i < L.length) (t : Int) :
    (ins ((ith L i).key, t) (delS (ith L i).key S)).Perm ((L.set i ⟨(ith L i).blk, (ith L i).key, t⟩).map It.kt) ∧ ((L.set i ⟨(ith L i).blk, (ith L i).key, t⟩).map It.key) = L.map It.key := by
  have e2 : ((L.set i ⟨(ith L i).blk, (ith L i).key, t⟩).map It.key) = L.map It.key := by
    apply List.ext_getElem
    · simp
    · intro j h1 h2
      simp only [List.getElem_map, List.getElem_set]
      split
      · rename_i e; subst e; simp [ith_lt hi]
      · rfl
  refine ⟨?_, e2⟩
  have hS := keys_of_perm hk hp
  refine (ins_perm _ _).trans ?_
  rw [List.perm_ext_iff_of_nodup]
  · intro a
    simp only [List.mem_cons, delS_mem, List.mem_map]
    constructor
    · rintro (rfl | ⟨ha, hne⟩)
      · exact ⟨_, List.mem_set hi _, rfl⟩
      · obtain ⟨x, hx, rfl⟩ := List.mem_map.1 (hp.mem_iff.1 ha)
        obtain ⟨j, hj, rfl⟩ := List.mem_iff_getElem.1 hx
        have hij : i ≠ j := by rintro rfl; exact hne (by rw [ith_lt hi])
        exact ⟨L[j], List.mem_iff_getElem.2 ⟨j, by simpa using hj, by simp [hij]⟩, rfl⟩
    · rintro ⟨x, hx, rfl⟩
      obtain ⟨j, hj, rfl⟩ := List.mem_iff_getElem.1 hx
      have hj' : j < L.length := by simpa using hj
      rw [List.getElem_set]
      split
      · exact Or.inl rfl
      · rename_i hij
        refine Or.inr ⟨hp.mem_iff.2 (List.mem_map_of_mem (List.getElem_mem hj')), ?_⟩
        intro e
        have := nodup_ne hk (i := j) (j := i) (by simpa using hj') (by simpa using hi) (Ne.symm hij)
        have e' : L[j].key = (ith L i).key := e
        exact this (by simp only [List.getElem_map]; rw [e', ith_lt hi])
  · refine List.nodup_cons.2 ⟨fun hm => (delS_mem.1 hm).2 rfl, ?_⟩
    exact List.Nodup.sublist List.filter_sublist (hp.nodup_iff.2 (kt_nodup hk))
  · exact kt_nodup (by rw [e2]; exact hk)

/-- One item more. -/
theorem perm_new {L L' : List It} {S : List KT} (hp : S.Perm (L.map It.kt)) (x : It) (h : L'.Perm (L ++ [x])) : (ins x.kt S).Perm (L'.map It.kt) := by
  refine (ins_perm _ _).trans ?_
  refine List.Perm.trans ?_ (h.map It.kt).symm
  rw [List.map_append]
  exact (hp.cons _).trans (List.perm_append_singleton _ _).symm
/-- One item less. -/
theorem perm_less {L L' : List It} {S : List KT} (hk : (L.map It.key).Nodup) (hp : S.Perm (L.map It.kt)) (x : It) (h : (L' ++ [x]).Perm L) : (delS x.key S).Perm (L'.map It.kt) := by
  have hk' : ((L' ++ [x]).map It.key).Nodup := (h.map It.key).nodup_iff.2 hk
  have h1 : (delS x.key S).Perm (delS x.key ((L' ++ [x]).map It.kt)) := (hp.trans (h.map It.kt).symm).filter _
  refine h1.trans ?_
  have : delS x.key ((L' ++ [x]).map It.kt) = L'.map It.kt := by
    rw [List.map_append]
    unfold delS
    rw [List.filter_append]
    have e1 : (List.map It.kt L').filter (fun y => decide (y.1 ≠ x.key)) = List.map It.kt L' := by
      rw [List.filter_eq_self]
      intro y hy
      obtain ⟨z, hz, rfl⟩ := List.mem_map.1 hy
      rw [List.map_append] at hk'
      have := (List.nodup_append.1 hk').2.2 z.key (List.mem_map_of_mem hz) x.key (by simp)
      simpa using this
    rw [e1]
    simp
  rw [this]

/-! ### the first ones -/
def dueK (S : List KT) (now : Int) : List ByteArray := (S.takeWhile (fun x => decide (x.2 ≤ now))).map (·.1)
def dueR (S : List KT) (now : Int) : List KT := S.dropWhile (fun x => decide (x.2 ≤ now))
theorem head_del {x : KT} {S : List KT} (h : Keys1 (x :: S)) : delS x.1 (x :: S) = S := by
  have hx : ∀ y ∈ S, y.1 ≠ x.1 := by
    intro y hy e
    exact (List.nodup_cons.1 h).1 (List.mem_map.2 ⟨y, hy, e⟩)
  have := delS_none hx
  unfold delS at *
  rw [List.filter_cons]
  simpa using this

/-! ### the calls -/
def maxTime : Int := 1099511627776
def setS (S : List KT) (k : ByteArray) (t : Int) : List KT × Int :=
  if t < 0 ∨ 1099511627776 < t then (S, 1) else if atS S k = none ∧ 1024 ≤ S.length then (S, 9) else (ins (k, t) (delS k S), 0)

end Go.Proofs.Ytcakgponofbhkaa
namespace Go.Proofs.Ytcakgponofbhkaa
open Go.RowKit
open Go.Maps (Keyed)
set_option linter.unusedVariables false
set_option maxRecDepth 100000

theorem strLaw : Keyed Try.prog 9 := Keyed.of_law (Go.WideMaps.string_law Try.underlying9)

def entR (L : List It) (k v : Value) : Prop := ∃ x ∈ L, k = .string x.key ∧ v = ptrV x

/-- The queue at bq: the slice v, the map bm, the items L, in the order of the heap; the row S; its blocks F. -/
structure QS (w : World) (bq : Nat) (v : Value) (bm : Nat) (L : List It) (S : List KT) (F : List Nat) : Prop where
  q : w.heap[bq]? = some (.cells #[v, .map (some bm)] 121 (0, 0))
  st : (v = .slice none 0 0 ∧ L = []) ∨ ∃ ba cap, v = .slice (some ⟨ba, 0, none⟩) L.length cap ∧ HS w bq ba L.length cap L
  heap : HeapP L.length (gk L)
  mp : MapR Try.prog 9 w bm (entR L) L.length
  keys : (L.map It.key).Nodup
  row : Row S
  perm : S.Perm (L.map It.kt)
  fp : F = bq :: bm :: (v.ownBlock.toList ++ blks L)
  nodup : F.Nodup
  small : ∀ x ∈ L, x.key.size ≤ maxLen
  most : L.length ≤ 1024

def IsQ (w : World) (bq : Nat) (S : List KT) (F : List Nat) : Prop := ∃ v bm L, QS w bq v bm L S F

theorem HS.keep {w w' : World} {bq ba n cap : Nat} {L : List It} (h : HS w bq ba n cap L) (hb : ∀ b ∈ bq :: ba :: blks L, w'.heap[b]? = w.heap[b]?) : HS w' bq ba n cap L := by
  refine ⟨?_, h.len, h.room, h.capm, h.most, h.nodup, ?_, fun i hi => ?_⟩
  · rw [World.cell?_of_block (a := ⟨bq, 0, none⟩) (hb bq (by simp))]; exact h.cell
  · rw [hb ba (by simp)]; exact h.arr
  · rw [hb _ (List.mem_cons_of_mem _ (List.mem_cons_of_mem _ (blk_mem (by have := h.len; omega))))]; exact h.item i hi

theorem QS.keep {w w' : World} {bq : Nat} {v : Value} {bm : Nat} {L : List It} {S : List KT} {F : List Nat} (h : QS w bq v bm L S F) (hb : ∀ b ∈ F, w'.heap[b]? = w.heap[b]?) : QS w' bq v bm L S F := by
  have hf := h.fp
  refine ⟨?_, ?_, h.heap, h.mp.keep (hb bm (by rw [hf]; simp)), h.keys, h.row, h.perm, h.fp, h.nodup, h.small, h.most⟩
  · rw [hb bq (by rw [hf]; simp)]; exact h.q
  · rcases h.st with h1 | ⟨ba, cap, h1, h2⟩
    · exact Or.inl h1
    · refine Or.inr ⟨ba, cap, h1, h2.keep (fun b hm => hb b ?_)⟩
      rw [hf, h1]
      simp only [List.mem_cons] at hm
      rcases hm with rfl | rfl | hm
      · simp
      · simp [Value.ownBlock]
      · simp [Value.ownBlock, hm]
theorem IsQ.keep {w w' : World} {bq : Nat} {S : List KT} {F : List Nat} (h : IsQ w bq S F) (hb : ∀ b ∈ F, w'.heap[b]? = w.heap[b]?) : IsQ w' bq S F := by
  obtain ⟨v, bm, L, h⟩ := h
  exact ⟨v, bm, L, h.keep hb⟩
theorem QS.lt {w : World} {bq : Nat} {v : Value} {bm : Nat} {L : List It} {S : List KT} {F : List Nat} (h : QS w bq v bm L S F) : ∀ b ∈ F, b < w.heap.size := by
  intro b hb
  rw [h.fp] at hb
  simp only [List.mem_cons, List.mem_append] at hb
  rcases hb with rfl | rfl | hb | hb
  · exact hp_lt h.q
  · exact h.mp.lt
  · rcases h.st with ⟨rfl, _⟩ | ⟨ba, cap, rfl, h2⟩
    · simp [Value.ownBlock] at hb
    · simp [Value.ownBlock] at hb
      subst hb
      obtain ⟨C, hC, _⟩ := h2.arr
      exact hp_lt hC
  · rcases h.st with ⟨_, rfl⟩ | ⟨ba, cap, _, h2⟩
    · simp at hb
    · obtain ⟨x, hx, rfl⟩ := List.mem_map.1 hb
      obtain ⟨i, hi, rfl⟩ := List.mem_iff_getElem.1 hx
      obtain ⟨T, hT⟩ := h2.item i hi
      rw [ith_lt hi] at hT
      exact hp_lt hT
theorem IsQ.lt {w : World} {bq : Nat} {S : List KT} {F : List Nat} (h : IsQ w bq S F) : ∀ b ∈ F, b < w.heap.size := by
  obtain ⟨v, bm, L, h⟩ := h
  exact h.lt
theorem IsQ.row {w : World} {bq : Nat} {S : List KT} {F : List Nat} (h : IsQ w bq S F) : Row S := by obtain ⟨v, bm, L, h⟩ := h; exact h.row
theorem IsQ.keys {w : World} {bq : Nat} {S : List KT} {F : List Nat} (h : IsQ w bq S F) : Keys1 S := by obtain ⟨v, bm, L, h⟩ := h; exact keys_of_perm h.keys h.perm
theorem IsQ.len {w : World} {bq : Nat} {S : List KT} {F : List Nat} (h : IsQ w bq S F) : S.length ≤ 1024 := by obtain ⟨v, bm, L, h⟩ := h; have := h.perm.length_eq; have := h.most; simp at *; omega
/-- Blocks that another call may not have written stay. -/
theorem IsQ.mod {w w' : World} {bq : Nat} {S : List KT} {F G : List Nat} (h : IsQ w bq S F) (hm : Mod G w w') (ha : Apart F G) : IsQ w' bq S F :=
  h.keep (fun b hb => hm.block b (h.lt b hb) (ha b hb))
theorem QS.len {w : World} {bq : Nat} {v : Value} {bm : Nat} {L : List It} {S : List KT} {F : List Nat} (h : QS w bq v bm L S F) : S.length = L.length := by have := h.perm.length_eq; simpa using this
theorem QS.val {w : World} {bq : Nat} {v : Value} {bm : Nat} {L : List It} {S : List KT} {F : List Nat} (h : QS w bq v bm L S F) : ∃ a cap, v = .slice a L.length cap := by
  rcases h.st with ⟨rfl, rfl⟩ | ⟨ba, cap, rfl, _⟩
  · exact ⟨none, 0, rfl⟩
  · exact ⟨_, cap, rfl⟩

/-- The item of a key. -/
theorem QS.find {w : World} {bq : Nat} {v : Value} {bm : Nat} {L : List It} {S : List KT} {F : List Nat} (h : QS w bq v bm L S F) {k : ByteArray} (hk : k.size ≤ maxLen) :
    (∃ i, ∃ hi : i < L.length, (ith L i).key = k ∧ atS S k = some (ith L i).tm ∧ (Instr.lookup 117 (.map (some bm)) (.string k) false).run Try.prog w = .ok (.pointer (some ⟨(ith L i).blk, 0, none⟩)) w) ∨
    (atS S k = none ∧ (∀ x ∈ L, x.key ≠ k) ∧ (Instr.lookup 117 (.map (some bm)) (.string k) false).run Try.prog w = .ok (.pointer none) w) := by
  have hz : (zeroValue 122).run Try.prog w = .ok (.pointer none) w := by kernel_rfl
  have hkey := Go.WideMaps.keyOf_string_mk Try.underlying9 hk
  have hS := keys_of_perm h.keys h.perm
  rcases h.mp.look strLaw Try.underlying117 hz hkey false with ⟨u, ⟨x, hx, h1, h2⟩, h3⟩ | ⟨h1, h2⟩
  · obtain ⟨i, hi, rfl⟩ := List.mem_iff_getElem.1 hx
    simp only [Value.string.injEq] at h1
    refine Or.inl ⟨i, hi, by rw [ith_lt hi]; exact h1.symm, ?_, ?_⟩
    · rw [atS_some hS, h.perm.mem_iff, ith_lt hi, h1]
      exact List.mem_map.2 ⟨_, List.getElem_mem hi, rfl⟩
    · rw [h3, h2, ith_lt hi]; rfl
  · have hno : ∀ x ∈ L, x.key ≠ k := fun x hx e => h1 (ptrV x) ⟨x, hx, by rw [e], rfl⟩
    refine Or.inr ⟨?_, hno, by rw [h2]; rfl⟩
    rw [atS_none]
    intro y hy e
    obtain ⟨x, hx, rfl⟩ := List.mem_map.1 (h.perm.mem_iff.1 hy)
    exact hno x hx e

end Go.Proofs.Ytcakgponofbhkaa
namespace Go.Proofs.Ytcakgponofbhkaa
open Go.RowKit
open Go.Maps (Keyed)
set_option linter.unusedVariables false
set_option maxRecDepth 100000

/-- Nothing has turned but the count of draws. -/
def Drawn (w w' : World) : Prop := ∃ m, w' = w.drewN m

theorem qfind_nil (k : ByteArray) (w : World) : Calls Try.prog 80 #[.pointer none, .string k] w fun e w' => e = .returned (.pointer none) ∧ w = w' := by
  go_enter Try.func80, Try.ntmps80
  go_wp2
  go_ret
  exact ⟨rfl, rfl⟩

theorem qfind_raw {w : World} {bq bm : Nat} {k : ByteArray} {u v : Value} (hv : v.cells = #[v]) (c1 : w.cell? ⟨bq, 1, none⟩ = some (.map (some bm))) (hl : (Instr.lookup 117 (.map (some bm)) (.string k) false).run Try.prog w = .ok u w) :
    Calls Try.prog 80 #[.pointer (some ⟨bq, 0, none⟩), .string k] w fun e w' => e = .returned u ∧ w = w' := by
  go_enter Try.func80, Try.ntmps80
  go_wp2
  go_ret
  exact ⟨rfl, rfl⟩

theorem qlen_nil (w : World) : Calls Try.prog 58 #[.pointer none] w fun e w' => e = .returned (.int .i64 0) ∧ w = w' := by
  go_enter Try.func58, Try.ntmps58
  go_wp2
  go_ret
  exact ⟨rfl, rfl⟩
theorem qlen_raw {w : World} {bq : Nat} {a : Option Addr} {n cap : Nat} (c0 : w.cell? ⟨bq, 0, none⟩ = some (.slice a n cap)) : Calls Try.prog 58 #[.pointer (some ⟨bq, 0, none⟩)] w fun e w' => e = .returned (.int .i64 n) ∧ w = w' := by
  go_enter Try.func58, Try.ntmps58
  go_wp2
  go_ret
  exact ⟨rfl, rfl⟩
theorem qlen {w : World} {bq : Nat} {S : List KT} {F : List Nat} (h : IsQ w bq S F) : Calls Try.prog 58 #[.pointer (some ⟨bq, 0, none⟩)] w fun e w' => e = .returned (.int .i64 S.length) ∧ w = w' := by
  obtain ⟨v, bm, L, h⟩ := h
  obtain ⟨a, cap, rfl⟩ := h.val
  rw [h.len]
  exact qlen_raw (cell_of h.q rfl)

theorem qat_nil (k : ByteArray) (w : World) : Calls Try.prog 61 #[.pointer none, .string k] w fun e w' => e = .returned (.tuple #[.int .i64 0, .bool false]) ∧ Drawn w w' := by
  go_enter Try.func61, Try.ntmps61
  go_wp2_with fail
  refine (qfind_nil _ _).mono ?_
  rintro e w1 ⟨rfl, rfl⟩
  go_wp2_with fail
  go_ret2
  exact ⟨rfl, 0, rfl⟩

def AtPost (r : Option Int) (w : World) (e : Ending) (w' : World) : Prop := e = .returned (.tuple #[.int .i64 (r.getD 0), .bool r.isSome]) ∧ Drawn w w'
theorem qat {w : World} {bq : Nat} {S : List KT} {F : List Nat} (h : IsQ w bq S F) {k : ByteArray} (hk : k.size ≤ maxLen) :
    Calls Try.prog 61 #[.pointer (some ⟨bq, 0, none⟩), .string k] w (AtPost (atS S k) w) := by
  obtain ⟨v, bm, L, h⟩ := h
  rcases h.find hk with ⟨i, hi, h1, h2, h3⟩ | ⟨h1, h2, h3⟩
  · have cf := qfind_raw (v := v) (by obtain ⟨a, cap, rfl⟩ := h.val; rfl) (cell_of h.q rfl) h3
    have E : ∀ m, AtPost (atS S k) w (.returned (.tuple #[.int .i64 (ith L i).tm, .bool true])) (w.drewN m) := fun m => by rw [h2]; exact ⟨rfl, m, rfl⟩
    have HE := Lib.hid E
    have c1 : w.cell? ⟨(ith L i).blk, 1, none⟩ = some (.int .i64 (ith L i).tm) := by
      rcases h.st with ⟨_, rfl⟩ | ⟨ba, cap, _, hs⟩
      · simp at hi
      · exact hs.tm hi
    clear E h1 h2 h3 h hk
    go_enter Try.func61, Try.ntmps61
    go_wp2_with fail
    refine cf.mono ?_
    rintro e w1 ⟨rfl, rfl⟩
    go_wp2_with fail
    go_ret2
    exact HE.out 0
  · have cf := qfind_raw (v := v) (by obtain ⟨a, cap, rfl⟩ := h.val; rfl) (cell_of h.q rfl) h3
    have E : ∀ m, AtPost (atS S k) w (.returned (.tuple #[.int .i64 0, .bool false])) (w.drewN m) := fun m => by rw [h1]; exact ⟨rfl, m, rfl⟩
    have HE := Lib.hid E
    clear E h1 h2 h3 h hk
    go_enter Try.func61, Try.ntmps61
    go_wp2_with fail
    refine cf.mono ?_
    rintro e w1 ⟨rfl, rfl⟩
    go_wp2_with fail
    go_ret2
    exact HE.out 0

end Go.Proofs.Ytcakgponofbhkaa
namespace Go.Proofs.Ytcakgponofbhkaa
open Go.RowKit
open Go.Maps (Keyed)
set_option linter.unusedVariables false
set_option maxRecDepth 100000

/-- Behind a call that changes the queue. -/
structure QPost (bq : Nat) (S' : List KT) (F : List Nat) (r : Value) (w : World) (e : Ending) (w' : World) : Prop where
  ret : e = .returned r
  now : ∃ F', IsQ w' bq S' F' ∧ Grew F F' w
  mod : Mod F w w'

/-! ### another time for an item that is there -/
def setT (L : List It) (i : Nat) (t : Int) : List It := L.set i ⟨(ith L i).blk, (ith L i).key, t⟩
theorem ith_setT {L : List It} {i : Nat} (hi : i < L.length) (t : Int) (k : Nat) : ith (setT L i t) k = if k = i then ⟨(ith L i).blk, (ith L i).key, t⟩ else ith L k := by
  simp only [setT, ith, List.getD_eq_getElem?_getD, List.getElem?_set]
  by_cases h : k = i
  · subst h; simp [hi]
  · simp [h, Ne.symm h]
theorem setT_blks {L : List It} {i : Nat} (hi : i < L.length) (t : Int) : blks (setT L i t) = blks L := by
  apply List.ext_getElem
  · simp [setT]
  · intro j h1 h2
    simp only [setT, List.getElem_map, List.getElem_set]
    split
    · rename_i e; subst e; simp [ith_lt hi]
    · rfl
theorem setT_keys {L : List It} {i : Nat} (hi : i < L.length) (t : Int) : (setT L i t).map It.key = L.map It.key := by
  apply List.ext_getElem
  · simp [setT]
  · intro j h1 h2
    simp only [setT, List.getElem_map, List.getElem_set]
    split
    · rename_i e; subst e; simp [ith_lt hi]
    · rfl
theorem setT_length (L : List It) (i : Nat) (t : Int) : (setT L i t).length = L.length := by simp [setT]

theorem HS.setT {w : World} {bq ba n cap : Nat} {L : List It} (h : HS w bq ba n cap L) {i : Nat} (hi : i < L.length) (t : Int) : HS (w.setCell ⟨(ith L i).blk, 1, none⟩ (.int .i64 t)) bq ba n cap (setT L i t) := by
  have ai : ba ≠ (ith L i).blk := fun e => h.ab (e ▸ blk_mem hi)
  have qi : bq ≠ (ith L i).blk := fun e => h.qb (e ▸ blk_mem hi)
  refine ⟨?_, by rw [setT_length]; exact h.len, h.room, h.capm, h.most, by rw [setT_blks hi]; exact h.nodup, ?_, fun k hk => ?_⟩
  · rw [World.cell?_setCell_other _ _ _ _ (by simp)]; exact h.cell
  · obtain ⟨C, hC, h2, h3⟩ := h.arr
    refine ⟨C, by rw [hp_setCell_other (by exact ai)]; exact hC, h2, fun k hk => ?_⟩
    rw [ith_setT hi]
    split
    · rename_i e; subst e; exact h3 k hk
    · exact h3 k hk
  · obtain ⟨T, hT⟩ := h.item k hk
    rw [ith_setT hi]
    by_cases e : k = i
    · subst e
      refine ⟨T, ?_⟩
      rw [if_pos rfl, hp_setCell_same hT]
      simp
    · refine ⟨T, ?_⟩
      rw [if_neg e, hp_setCell_other (by exact blk_ne h.nb (by have := h.len; omega) hi e)]
      exact hT

theorem gk_setT {L : List It} {i : Nat} (hi : i < L.length) (t : Int) : ∀ k, k ≠ i → gk (setT L i t) k = gk L k := by
  intro k hk
  unfold gk
  rw [ith_setT hi, if_neg hk]

theorem entR_perm {L L' : List It} (h : L'.Perm L) (k v : Value) : entR L' k v ↔ entR L k v := by
  unfold entR
  constructor
  · rintro ⟨x, hx, h1⟩; exact ⟨x, h.mem_iff.1 hx, h1⟩
  · rintro ⟨x, hx, h1⟩; exact ⟨x, h.mem_iff.2 hx, h1⟩
theorem entR_setT {L : List It} {i : Nat} (hi : i < L.length) (t : Int) (k v : Value) : entR (setT L i t) k v ↔ entR L k v := by
  have aux : ∀ L1 L2 : List It, blks L1 = blks L2 → L1.map It.key = L2.map It.key → ∀ k v, entR L1 k v → entR L2 k v := by
    rintro L1 L2 h1 h2 k v ⟨x, hx, rfl, rfl⟩
    obtain ⟨j, hj, rfl⟩ := List.mem_iff_getElem.1 hx
    have hl : L1.length = L2.length := by simpa using congrArg List.length h1
    have e1 : (blks L1)[j]? = (blks L2)[j]? := by rw [h1]
    have e2 : (L1.map It.key)[j]? = (L2.map It.key)[j]? := by rw [h2]
    simp [hj, (by omega : j < L2.length)] at e1 e2
    exact ⟨L2[j], List.getElem_mem _, by rw [e2], by simp [ptrV, e1]⟩
  exact ⟨aux _ _ (setT_blks hi t) (setT_keys hi t) k v, aux _ _ (setT_blks hi t).symm (setT_keys hi t).symm k v⟩

theorem qs_fixed {w w2 : World} {bq ba cap bm : Nat} {L L2 : List It} {S : List KT} {F : List Nat} (h : QS w bq (.slice (some ⟨ba, 0, none⟩) L.length cap) bm L S F) {i : Nat} (hi : i < L.length) (t : Int)
    (hp : HP bq ba L.length cap L.length (setT L i t) (w.setCell ⟨(ith L i).blk, 1, none⟩ (.int .i64 t)) L2 w2) (hh : HeapP L.length (gk L2)) :
    IsQ w2 bq (ins ((ith L i).key, t) (delS (ith L i).key S)) (bq :: bm :: ([ba] ++ blks L2)) ∧ Grew F (bq :: bm :: ([ba] ++ blks L2)) w ∧ Mod F w w2 := by
  have hl2 : L2.length = L.length := by rw [hp.perm.length_eq, setT_length]
  have hfp := h.fp
  have hpb : (blks L2).Perm (blks L) := by have := hp.perm.map It.blk; rw [show List.map It.blk (setT L i t) = blks L from setT_blks hi t] at this; exact this
  have hkp : (L2.map It.key).Perm (L.map It.key) := by have := hp.perm.map It.key; rw [setT_keys hi t] at this; exact this
  have hFp : (bq :: bm :: ([ba] ++ blks L2)).Perm F := by rw [hfp]; exact ((hpb.cons ba).cons bm).cons bq
  have hmod : Mod F w w2 := by
    have h1 : Mod F w (w.setCell ⟨(ith L i).blk, 1, none⟩ (.int .i64 t)) := (Mod.refl F w).setCell (Or.inl (by rw [hfp]; simp [Value.ownBlock, blk_mem hi])) _
    refine h1.trans hp.mod (fun b hb => Or.inl ?_)
    rw [setT_blks hi] at hb
    rw [hfp]
    rcases List.mem_cons.1 hb with rfl | hb
    · simp [Value.ownBlock]
    · simp [hb]
  have hnd := h.nodup
  rw [hfp] at hnd
  have hbq : bq ∉ ba :: blks (setT L i t) := by
    rw [setT_blks hi]; intro hm; exact (List.nodup_cons.1 hnd).1 (List.mem_cons_of_mem _ hm)
  have hbm : bm ∉ ba :: blks (setT L i t) := by
    rw [setT_blks hi]; exact (List.nodup_cons.1 (List.nodup_cons.1 hnd).2).1
  have hbi : (ith L i).blk ∈ ba :: blks L := List.mem_cons_of_mem _ (blk_mem hi)
  refine ⟨⟨.slice (some ⟨ba, 0, none⟩) L.length cap, bm, L2, ⟨?_, ?_, by rw [hl2]; exact hh, ?_, hkp.nodup_iff.2 h.keys, ?_, ?_, by simp [Value.ownBlock], hFp.nodup_iff.2 h.nodup, ?_, by rw [hl2]; exact h.most⟩⟩, ?_, hmod⟩
  · rw [hp.mod.block bq (by simpa using hp_lt h.q) hbq, hp_setCell_other]
    · exact h.q
    · intro e; rw [setT_blks hi] at hbq; exact hbq (by rw [show bq = (ith L i).blk from e]; exact hbi)
  · exact Or.inr ⟨ba, cap, by rw [hl2], by rw [hl2]; exact hp.hs⟩
  · have h1 : MapR Try.prog 9 w2 bm (entR L) L.length := h.mp.keep (by
      rw [hp.mod.block bm (by simpa using h.mp.lt) hbm, hp_setCell_other]
      intro e; rw [setT_blks hi] at hbm; exact hbm (by rw [show bm = (ith L i).blk from e]; exact hbi))
    rw [hl2]
    exact h1.congr (fun k v => (entR_perm hp.perm k v).trans (entR_setT hi t k v))
  · exact ins_row (delS_row h.row _) (fun y hy => (delS_mem.1 hy).2)
  · exact (perm_set h.keys h.perm hi t).1.trans (hp.perm.map It.kt).symm
  · intro x hx
    have := List.mem_map_of_mem (f := It.key) hx
    rw [hkp.mem_iff] at this
    obtain ⟨y, hy, e⟩ := List.mem_map.1 this
    rw [← e]; exact h.small y hy
  · exact fun b hb => Or.inl (hFp.mem_iff.1 hb)

theorem qset_nil (k : ByteArray) (t : Int) (w : World) : Calls Try.prog 52 #[.pointer none, .string k, .int .i64 t] w fun e w' => e = .returned (.int .i64 1) ∧ w = w' := by
  go_enter Try.func52, Try.ntmps52
  go_wp2
  go_ret
  exact ⟨rfl, rfl⟩

set_option maxHeartbeats 1000000 in
theorem qset_arg {w : World} {bq : Nat} (k : ByteArray) (t : Int) (ht : t < 0 ∨ 1099511627776 < t) : Calls Try.prog 52 #[.pointer (some ⟨bq, 0, none⟩), .string k, .int .i64 t] w fun e w' => e = .returned (.int .i64 1) ∧ w = w' := by
  by_cases h0 : t < 0
  · clear ht
    go_enter Try.func52, Try.ntmps52
    go_wp2
    go_ret
    exact ⟨rfl, rfl⟩
  · have h1 : 1099511627776 < t := by omega
    have h0' : decide (t < 0) = false := by simp; omega
    clear ht h0
    go_enter Try.func52, Try.ntmps52
    go_wp2
    go_ret
    exact ⟨rfl, rfl⟩

set_option maxHeartbeats 1000000 in
theorem qset_there {w : World} {bq ba cap bm : Nat} {L : List It} {S : List KT} {F : List Nat} (h : QS w bq (.slice (some ⟨ba, 0, none⟩) L.length cap) bm L S F) (hs : HS w bq ba L.length cap L) {i : Nat} (hi : i < L.length) (t : Int) (h0 : 0 ≤ t) (h1 : t ≤ 1099511627776)
    (hl : (Instr.lookup 117 (.map (some bm)) (.string (ith L i).key) false).run Try.prog w = .ok (.pointer (some ⟨(ith L i).blk, 0, none⟩)) w) :
    Calls Try.prog 52 #[.pointer (some ⟨bq, 0, none⟩), .string (ith L i).key, .int .i64 t] w (QPost bq (ins ((ith L i).key, t) (delS (ith L i).key S)) F (.int .i64 0) w) := by
  obtain ⟨bi, ebi⟩ : ∃ b, (ith L i).blk = b := ⟨_, rfl⟩
  have c0 := hs.cell
  have c1 : w.cell? ⟨bq, 1, none⟩ = some (.map (some bm)) := cell_of h.q rfl
  have ct := hs.tm hi
  have cx := hs.ix hi
  have ft := hs.ifree hi 1
  have hs1 := hs.setT hi t
  have hx : ExceptP L.length (gk (setT L i t)) i := (h.heap.except i hi).other (fun k _ hk => gk_setT hi t k hk)
  have cf : ∀ m, Calls Try.prog 75 #[.iface 126 (.pointer (some ⟨bq, 0, none⟩)), .int .i64 i] ((w.setCell ⟨(ith L i).blk, 1, none⟩ (.int .i64 t)).drewN m) (QPost bq (ins ((ith L i).key, t) (delS (ith L i).key S)) F (.tuple #[]) w) := by
    intro m
    refine (fix_hs (hs1.drewN m) i hi hx).mono fun e w2 ⟨he, L2, hp, hh⟩ => ?_
    have hp' : HP bq ba L.length cap L.length (setT L i t) (w.setCell ⟨(ith L i).blk, 1, none⟩ (.int .i64 t)) L2 w2 := ⟨hp.hs, hp.perm, ⟨hp.mod.os, hp.mod.tape, hp.mod.output, hp.mod.size, hp.mod.block⟩, hp.above⟩
    obtain ⟨g1, g2, g3⟩ := qs_fixed h hi t hp' hh
    exact ⟨he, ⟨_, g1, g2⟩, g3⟩
  have E : ∀ w2, QPost bq (ins ((ith L i).key, t) (delS (ith L i).key S)) F (.tuple #[]) w (.returned (.tuple #[])) w2 → QPost bq (ins ((ith L i).key, t) (delS (ith L i).key S)) F (.int .i64 0) w (.returned (.int .i64 0)) w2 :=
    fun w2 hq => ⟨rfl, hq.now, hq.mod⟩
  rw [ebi] at ct cx ft cf hl
  generalize (ith L i).key = k at *
  have HF := Lib.hid cf
  have HE := Lib.hid E
  have hlm : (L.length : Int) ≤ 4096 := by have := h.most; omega
  clear cf E hs1 hx ebi h hs
  go_enter Try.func52, Try.ntmps52
  go_wp2_with fail
  have cx1 : (w.setCell ⟨bi, 1, none⟩ (.int .i64 t)).cell? ⟨bi, 2, none⟩ = some (.int .i64 i) := by rw [World.cell?_setCell_other _ _ _ _ (by simp)]; exact cx
  generalize w.setCell ⟨bi, 1, none⟩ (.int .i64 t) = w1 at *
  go_still_tail 8, (by kernel_rfl)
  change wpList _ _ _ _ _ (w1.drewN 1)
  go_wp2_with fail
  refine (HF.out 1).mono ?_
  rintro e w2 hq
  obtain rfl := hq.ret
  have hq := Lib.hid (HE.out w2 hq)
  go_wp2_with fail
  go_ret
  exact hq.out
end Go.Proofs.Ytcakgponofbhkaa
namespace Go.Proofs.Ytcakgponofbhkaa
open Go.RowKit
open Go.Maps (Keyed)
set_option linter.unusedVariables false
set_option maxRecDepth 100000

set_option maxRecDepth 100000 in
set_option maxHeartbeats 1000000 in
theorem qset_full {w : World} {bq bm : Nat} {a : Option Addr} {n cap : Nat} (k : ByteArray) (t : Int) (h0 : 0 ≤ t) (h1 : t ≤ 1099511627776) (hn : 1024 ≤ n) (hn2 : n ≤ 4096) (c0 : w.cell? ⟨bq, 0, none⟩ = some (.slice a n cap)) (c1 : w.cell? ⟨bq, 1, none⟩ = some (.map (some bm)))
    (hl : (Instr.lookup 117 (.map (some bm)) (.string k) false).run Try.prog w = .ok (.pointer none) w) :
    Calls Try.prog 52 #[.pointer (some ⟨bq, 0, none⟩), .string k, .int .i64 t] w fun e w' => e = .returned (.int .i64 9) ∧ w = w' := by
  go_enter Try.func52, Try.ntmps52
  go_wp2
  go_ret
  exact ⟨rfl, rfl⟩

theorem QS.owns {w : World} {bq : Nat} {v : Value} {bm : Nat} {L : List It} {S : List KT} {F : List Nat} (h : QS w bq v bm L S F) : w.ownsRow 0 122 1 v L.length (L.map ptrV) := by
  rcases h.st with ⟨rfl, rfl⟩ | ⟨ba, cap, rfl, hs⟩
  · exact ⟨by simp, Or.inl ⟨rfl, rfl⟩⟩
  · exact hs.owns
theorem QS.items {w : World} {bq : Nat} {v : Value} {bm : Nat} {L : List It} {S : List KT} {F : List Nat} (h : QS w bq v bm L S F) :
    ∀ i, i < L.length → ∃ T, w.heap[(ith L i).blk]? = some (.cells #[.string (ith L i).key, .int .i64 (ith L i).tm, .int .i64 i] T (0, 0)) := by
  rcases h.st with ⟨_, rfl⟩ | ⟨ba, cap, _, hs⟩
  · intro i hi; simp at hi
  · exact hs.item

theorem entR_new {L L' : List It} {k : ByteArray} {b : Nat} {t : Int} (h : L'.Perm (L ++ [⟨b, k, t⟩])) (hno : ∀ x ∈ L, x.key ≠ k) (key v : Value) :
    entR L' key v ↔ ((key = .string k ∧ v = .pointer (some ⟨b, 0, none⟩)) ∨ (key ≠ .string k ∧ entR L key v)) := by
  rw [entR_perm h]
  unfold entR
  constructor
  · rintro ⟨x, hx, rfl, rfl⟩
    rcases List.mem_append.1 hx with hx | hx
    · exact Or.inr ⟨by simpa using hno x hx, x, hx, rfl, rfl⟩
    · simp at hx; subst hx; exact Or.inl ⟨rfl, rfl⟩
  · rintro (⟨rfl, rfl⟩ | ⟨_, x, hx, rfl, rfl⟩)
    · exact ⟨⟨b, k, t⟩, List.mem_append_right _ (by simp), rfl, rfl⟩
    · exact ⟨x, List.mem_append_left _ hx, rfl, rfl⟩

set_option maxRecDepth 100000 in
set_option maxHeartbeats 1000000 in
theorem qset_new {w : World} {bq bm : Nat} {v : Value} {L : List It} {S : List KT} {F : List Nat} (h : QS w bq v bm L S F) {k : ByteArray} (hk : k.size ≤ maxLen) (t : Int) (h0 : 0 ≤ t) (h1 : t ≤ 1099511627776) (hn : L.length < 1024)
    (hno : ∀ x ∈ L, x.key ≠ k) (hl : (Instr.lookup 117 (.map (some bm)) (.string k) false).run Try.prog w = .ok (.pointer none) w) :
    Calls Try.prog 52 #[.pointer (some ⟨bq, 0, none⟩), .string k, .int .i64 t] w (QPost bq (ins (k, t) (delS k S)) F (.int .i64 0) w) := by
  obtain ⟨a, cap, hv⟩ := h.val
  have hkey := WideMaps.keyOf_string_mk Try.underlying9 hk
  have lq := hp_lt h.q
  have lm := h.mp.lt
  have hfp := h.fp
  obtain ⟨w2, hrun, hturn, hc⟩ := (h.mp.keep (w' := w.alloc (.cells #[.string k, .int .i64 t, .int .i64 0] 124)) (hp_alloc_old lm)).put strLaw Try.underlying117 (val := .pointer (some ⟨w.heap.size, 0, none⟩)) hkey
  have hm2 : MapR Try.prog 9 w2 bm (fun key v => (key = .string k ∧ v = .pointer (some ⟨w.heap.size, 0, none⟩)) ∨ (key ≠ .string k ∧ entR L key v)) (L.length + 1) := by
    rcases hc with ⟨⟨v, x, hx, e, _⟩, _⟩ | ⟨_, hm⟩
    · simp only [Value.string.injEq] at e; exact absurd e.symm (hno x hx)
    · exact hm
  have hnd := h.nodup
  have hlt := h.lt
  rw [hfp] at hnd hlt
  have old : ∀ b, b ∈ F → b ≠ bm → w2.heap[b]? = w.heap[b]? := fun b hb hbm => by
    rw [hturn.block b hbm, hp_alloc_old (h.lt b hb)]
  have hbqm : bq ≠ bm := by intro e; exact (List.nodup_cons.1 hnd).1 (by simp [e])
  have hq2 : w2.heap[bq]? = some (.cells #[v, .map (some bm)] 121 (0, 0)) := by rw [old bq (by rw [hfp]; simp) hbqm]; exact h.q
  have hbl : ∀ b, b ∈ v.ownBlock.toList ++ blks L → b ≠ bm := by
    intro b hb e; subst e; exact (List.nodup_cons.1 (List.nodup_cons.1 hnd).2).1 hb
  have hown2 : w2.ownsRow 0 122 1 v L.length (L.map ptrV) := by
    obtain ⟨g1, g2⟩ := h.owns
    refine ⟨g1, ?_⟩
    rcases g2 with g2 | ⟨g, cap2, cur, rfl, g3, g4, g5⟩
    · exact Or.inl g2
    · exact Or.inr ⟨g, cap2, cur, rfl, g3, by rw [old g (by rw [hfp]; simp [Value.ownBlock]) (hbl g (by simp [Value.ownBlock]))]; exact g4, g5⟩
  have hit2 : ∀ i, i < L.length → ∃ T, w2.heap[(ith L i).blk]? = some (.cells #[.string (ith L i).key, .int .i64 (ith L i).tm, .int .i64 i] T (0, 0)) := by
    intro i hi
    obtain ⟨T, hT⟩ := h.items i hi
    exact ⟨T, by rw [old _ (by rw [hfp]; simp [blk_mem hi]) (hbl _ (List.mem_append_right _ (blk_mem hi)))]; exact hT⟩
  have hbi2 : w2.heap[w.heap.size]? = some (.cells #[.string k, .int .i64 t, .int .i64 0] 124 (0, 0)) := by
    rw [hturn.block _ (by omega)]; exact hp_alloc_new
  have hnd2 : (bq :: w.heap.size :: v.ownBlock.toList ++ blks L).Nodup := by
    have n1 := List.nodup_cons.1 hnd
    have n2 := List.nodup_cons.1 n1.2
    refine List.nodup_cons.2 ⟨?_, List.nodup_cons.2 ⟨?_, n2.2⟩⟩
    · intro hm
      rcases List.mem_cons.1 hm with e | hm
      · omega
      · exact n1.1 (List.mem_cons_of_mem _ hm)
    · intro hm
      have := hlt _ (List.mem_cons_of_mem _ (List.mem_cons_of_mem _ hm))
      omega
  have cp := push_hs (m := .map (some bm)) a cap hv rfl (by omega) hq2 hown2 hit2 hbi2 hnd2 h.heap
  have hsz2 : w2.heap.size = w.heap.size + 1 := by rw [hturn.size]; simp
  have E : ∀ w3, PushedPost bq w.heap.size L.length v (.map (some bm)) L k t w2 (.returned (.tuple #[])) w3 → QPost bq (ins (k, t) (delS k S)) F (.int .i64 0) w (.returned (.int .i64 0)) w3 := by
    intro w3 hp
    obtain ⟨ba, cap', L', g1, g2, g3, g4, g5, g6⟩ := hp.now
    have hl' : L'.length = L.length + 1 := by have := g3.length_eq; simpa using this
    have hbm6 : bm ∉ bq :: w.heap.size :: v.ownBlock.toList ++ blks L := by
      intro hm
      rcases List.mem_cons.1 hm with e | hm
      · exact hbqm e.symm
      · rcases List.mem_cons.1 hm with e | hm
        · omega
        · exact hbl bm hm rfl
    have hm3 : MapR Try.prog 9 w3 bm (entR L') L'.length := by
      have := hm2.keep (g6.block bm (hm2.lt) hbm6)
      rw [hl']
      exact this.congr (fun key v => entR_new g3 hno key v)
    have hpb : (blks L').Perm (w.heap.size :: blks L) := by
      have := g3.map It.blk
      simp only [List.map_append, List.map_cons, List.map_nil] at this
      exact this.trans (List.perm_append_singleton _ _)
    have hpk : (L'.map It.key).Perm (k :: L.map It.key) := by
      have := g3.map It.key
      simp only [List.map_append, List.map_cons, List.map_nil] at this
      exact this.trans (List.perm_append_singleton _ _)
    have hnoS : ∀ y ∈ S, y.1 ≠ k := by
      intro y hy e
      obtain ⟨x, hx, rfl⟩ := List.mem_map.1 (h.perm.mem_iff.1 hy)
      exact hno x hx e
    have hba : ba < w3.heap.size := by obtain ⟨C, hC, _⟩ := g2.arr; exact hp_lt hC
    have hg : Grew F (bq :: bm :: ([ba] ++ blks L')) w := by
      intro b hb
      simp only [List.mem_cons, List.singleton_append] at hb
      rcases hb with rfl | rfl | rfl | hb
      · left; rw [hfp]; simp
      · left; rw [hfp]; simp
      · rcases g5 with g5 | g5
        · left; rw [hfp, g5]; simp
        · right; omega
      · rcases List.mem_cons.1 (hpb.mem_iff.1 hb) with rfl | hb
        · right; exact Nat.le_refl _
        · left; rw [hfp]; simp [hb]
    refine ⟨rfl, ⟨bq :: bm :: ([ba] ++ blks L'), ⟨.slice (some ⟨ba, 0, none⟩) (L.length + 1) cap', bm, L', ⟨g1, Or.inr ⟨ba, cap', by rw [hl'], by rw [hl']; exact g2⟩, by rw [hl']; exact g4, hm3, ?_, ?_, ?_, by simp [Value.ownBlock], ?_, ?_, by omega⟩⟩, hg⟩, ?_⟩
    · rw [hpk.nodup_iff]
      refine List.nodup_cons.2 ⟨fun hm => ?_, h.keys⟩
      obtain ⟨x, hx, e⟩ := List.mem_map.1 hm
      exact hno x hx e
    · rw [delS_none hnoS]; exact ins_row h.row hnoS
    · rw [delS_none hnoS]; exact perm_new h.perm ⟨w.heap.size, k, t⟩ g3
    · have q1 := g2.nodup
      have q2 := List.nodup_cons.1 q1
      refine List.nodup_cons.2 ⟨fun hm => ?_, List.nodup_cons.2 ⟨fun hm => ?_, q2.2⟩⟩
      · rcases List.mem_cons.1 hm with e | hm
        · exact hbqm e
        · exact q2.1 hm
      · rcases List.mem_cons.1 hm with e | hm
        · subst e
          rcases g5 with g5 | g5
          · exact hbl bm (by simp [g5]) rfl
          · omega
        · rcases List.mem_cons.1 (hpb.mem_iff.1 hm) with e | hm
          · omega
          · exact hbl bm (List.mem_append_right _ hm) rfl
    · intro x hx
      rcases List.mem_append.1 (g3.mem_iff.1 hx) with hx | hx
      · exact h.small x hx
      · simp at hx; subst hx; exact hk
    · have m1 : Mod F w (w.alloc (.cells #[.string k, .int .i64 t, .int .i64 0] 124)) := (Mod.refl F w).alloc _
      have m2 : Mod F w w2 := m1.trans hturn.mod (fun b hb => Or.inl (by simp at hb; subst hb; rw [hfp]; simp))
      refine m2.trans g6 (fun b hb => ?_)
      rcases List.mem_cons.1 hb with rfl | hb
      · left; rw [hfp]; simp
      · rcases List.mem_cons.1 hb with rfl | hb
        · right; exact Nat.le_refl _
        · left; rw [hfp]; exact List.mem_cons_of_mem _ (List.mem_cons_of_mem _ hb)
  have c0 : w.cell? ⟨bq, 0, none⟩ = some (.slice a L.length cap) := by rw [← hv]; exact cell_of h.q rfl
  have c1 : w.cell? ⟨bq, 1, none⟩ = some (.map (some bm)) := cell_of h.q rfl
  have c3 : w2.cell? ⟨bq, 0, none⟩ = some (.slice a L.length cap) := by rw [← hv]; exact cell_of hq2 rfl
  have hlm : (L.length : Int) < 1024 := by omega
  have HE := Lib.hid E
  have HP := Lib.hid cp
  have hsz2' := Lib.hid hsz2
  have hkk := Lib.hid hkey
  clear E cp hbi2 hit2 hown2 hq2 hbl hbqm old hlt hnd hm2 hc hturn hfp hv hnd2 hsz2 hkey h hno lm
  go_enter Try.func52, Try.ntmps52
  go_wp2_with fail
  refine HP.out.mono ?_
  rintro e w3 hp
  obtain rfl := hp.ret
  have hp := Lib.hid (HE.out w3 hp)
  go_wp2_with fail
  go_ret
  exact hp.out

/-- 'Set'. -/
theorem qset {w : World} {bq : Nat} {S : List KT} {F : List Nat} (h : IsQ w bq S F) {k : ByteArray} (hk : k.size ≤ maxLen) (t : Int) :
    Calls Try.prog 52 #[.pointer (some ⟨bq, 0, none⟩), .string k, .int .i64 t] w (QPost bq (setS S k t).1 F (.int .i64 (setS S k t).2) w) := by
  by_cases ht : t < 0 ∨ 1099511627776 < t
  · rw [setS, if_pos ht]
    exact (qset_arg k t ht).mono fun e w' ⟨he, hw⟩ => by subst hw; exact ⟨he, ⟨F, h, Grew.refl _ _⟩, Mod.refl _ _⟩
  · have hh := h
    obtain ⟨v, bm, L, h⟩ := h
    have h0 : 0 ≤ t := by omega
    have h1 : t ≤ 1099511627776 := by omega
    rcases h.find hk with ⟨i, hi, e1, e2, e3⟩ | ⟨e1, e2, e3⟩
    · rw [setS, if_neg ht, if_neg (by rw [e2]; simp)]
      rcases h.st with ⟨_, rfl⟩ | ⟨ba, cap, rfl, hs⟩
      · simp at hi
      · subst e1
        exact qset_there h hs hi t h0 h1 e3
    · have hl := h.len
      by_cases hn : 1024 ≤ L.length
      · rw [setS, if_neg ht, if_pos ⟨e1, by omega⟩]
        obtain ⟨a, cap, hv⟩ := h.val
        have hm := h.most
        exact (qset_full k t h0 h1 hn (by omega) (by rw [← hv]; exact cell_of h.q rfl) (cell_of h.q rfl) e3).mono fun e w' ⟨he, hw⟩ => by subst hw; exact ⟨he, ⟨F, hh, Grew.refl _ _⟩, Mod.refl _ _⟩
      · rw [setS, if_neg ht, if_neg (by omega)]
        exact qset_new h hk t h0 h1 (by omega) e2 e3
end Go.Proofs.Ytcakgponofbhkaa
namespace Go.Proofs.Ytcakgponofbhkaa
open Go.RowKit
open Go.Maps (Keyed)
set_option linter.unusedVariables false
set_option maxRecDepth 100000

def NewPost (w : World) (e : Ending) (w' : World) : Prop := ∃ bq F, e = .returned (.pointer (some ⟨bq, 0, none⟩)) ∧ IsQ w' bq [] F ∧ (∀ b ∈ F, w.heap.size ≤ b) ∧ Mod [] w w'
theorem new_world (w : World) : NewPost w (.returned (.pointer (some ⟨w.heap.size + 1, 0, none⟩))) ((w.alloc (.map #[] 0)).alloc (.cells #[.slice none 0 0, .map (some w.heap.size)] 121)) := by
  refine ⟨w.heap.size + 1, [w.heap.size + 1, w.heap.size], rfl, ⟨.slice none 0 0, w.heap.size, [], ?_, Or.inl ⟨rfl, rfl⟩, ?_, ?_, by simp, by simp [Row], by simp, by simp [Value.ownBlock], by simp, by simp, by simp⟩, ?_, ?_⟩
  · exact hp_alloc_at (by simp)
  · intro c h0 h1; simp at h1
  · have := map_made Try.prog 9 w
    exact (this.keep (hp_alloc_old (by simp))).congr (fun k v => by simp [entR])
  · intro b hb; simp at hb; omega
  · exact ((Mod.refl [] w).alloc _).alloc _
theorem qnew (w : World) : Calls Try.prog 50 #[] w (NewPost w) := by
  have HE := Lib.hid (new_world w)
  have hmm := @run_makeMap Try.prog
  go_enter Try.func50, Try.ntmps50
  go_wp2_with fail
  go_ret
  exact HE.out

theorem qdrop_nil (k : ByteArray) (w : World) : Calls Try.prog 60 #[.pointer none, .string k] w fun e w' => e = .returned (.bool false) ∧ w = w' := by
  go_enter Try.func60, Try.ntmps60
  go_wp2_with fail
  refine (qfind_nil _ _).mono ?_
  rintro e w1 ⟨rfl, rfl⟩
  go_wp2_with fail
  go_ret
  exact ⟨rfl, rfl⟩
theorem qdrop_none {w : World} {bq bm : Nat} {k : ByteArray} (c1 : w.cell? ⟨bq, 1, none⟩ = some (.map (some bm))) (hl : (Instr.lookup 117 (.map (some bm)) (.string k) false).run Try.prog w = .ok (.pointer none) w) :
    Calls Try.prog 60 #[.pointer (some ⟨bq, 0, none⟩), .string k] w fun e w' => e = .returned (.bool false) ∧ w = w' := by
  have cf := qfind_raw (v := .pointer none) rfl c1 hl
  clear c1 hl
  go_enter Try.func60, Try.ntmps60
  go_wp2_with fail
  refine cf.mono ?_
  rintro e w1 ⟨rfl, rfl⟩
  go_wp2_with fail
  go_ret
  exact ⟨rfl, rfl⟩

theorem entR_less {L L' : List It} {x : It} (h : (L' ++ [x]).Perm L) (hk : (L.map It.key).Nodup) (key v : Value) : entR L' key v ↔ (key ≠ .string x.key ∧ entR L key v) := by
  have hk' : ((L' ++ [x]).map It.key).Nodup := (h.map It.key).nodup_iff.2 hk
  rw [List.map_append] at hk'
  rw [← entR_perm h]
  unfold entR
  constructor
  · rintro ⟨y, hy, rfl, rfl⟩
    refine ⟨?_, y, List.mem_append_left _ hy, rfl, rfl⟩
    have := (List.nodup_append.1 hk').2.2 y.key (List.mem_map_of_mem hy) x.key (by simp)
    simpa using this
  · rintro ⟨hne, y, hy, rfl, rfl⟩
    rcases List.mem_append.1 hy with hy | hy
    · exact ⟨y, hy, rfl, rfl⟩
    · simp at hy; subst hy; exact absurd rfl hne

set_option maxRecDepth 100000 in
set_option maxHeartbeats 1000000 in
theorem qdrop_there {w : World} {bq ba cap bm : Nat} {L : List It} {S : List KT} {F : List Nat} (h : QS w bq (.slice (some ⟨ba, 0, none⟩) L.length cap) bm L S F) (hs : HS w bq ba L.length cap L) {i : Nat} (hi : i < L.length) {k : ByteArray} (hk : k.size ≤ maxLen) (hki : (ith L i).key = k)
    (hl : (Instr.lookup 117 (.map (some bm)) (.string k) false).run Try.prog w = .ok (.pointer (some ⟨(ith L i).blk, 0, none⟩)) w) :
    Calls Try.prog 60 #[.pointer (some ⟨bq, 0, none⟩), .string k] w (QPost bq (delS k S) F (.bool true) w) := by
  have cf := qfind_raw (v := .pointer none) rfl (cell_of h.q rfl) hl
  obtain ⟨n, hn⟩ : ∃ n, L.length = n + 1 := ⟨L.length - 1, by omega⟩
  have cx := hs.ix hi
  have hkey := WideMaps.keyOf_string_mk Try.underlying9 hk
  have cr : ∀ m, Calls Try.prog 81 #[.iface 126 (.pointer (some ⟨bq, 0, none⟩)), .int .i64 i] (w.drewN m) (RemPost bq ba n cap (.map (some bm)) L (ith L i) (w.drewN m)) := fun m =>
    remove_hs (by have := hs.drewN m; rwa [hn] at this) (by have := h.q; rwa [hn] at this) (by have := h.heap; rwa [hn] at this) i (by omega)
  have hfp := h.fp
  have hnd := h.nodup
  rw [hfp] at hnd
  have hbm : bm ∉ bq :: ba :: blks L := by
    intro hm
    rcases List.mem_cons.1 hm with e | hm
    · exact (List.nodup_cons.1 hnd).1 (by simp [e])
    · exact (List.nodup_cons.1 (List.nodup_cons.1 hnd).2).1 (by simpa [Value.ownBlock] using hm)
  have D : ∀ m e w2, RemPost bq ba n cap (.map (some bm)) L (ith L i) (w.drewN m) e w2 →
      w2.cell? ⟨bq, 1, none⟩ = some (.map (some bm)) ∧ ∃ w3, (Builtin.delete_ #[117, 9] 0 #[.map (some bm), .string k]).run Try.prog w2 = .ok (.tuple #[]) w3 ∧ QPost bq (delS k S) F (.bool true) w (.returned (.bool true)) w3 := by
    intro m e w2 hr
    obtain ⟨L', g1, g2, g3, g4⟩ := hr.now
    have hl' : L'.length = n := by have := g3.length_eq; simp at this; omega
    have hmod0 : Mod (bq :: ba :: blks L) w w2 := ⟨hr.mod.os, hr.mod.tape, hr.mod.output, hr.mod.size, hr.mod.block⟩
    have hm2 : MapR Try.prog 9 w2 bm (entR L) (n + 1) := by have := h.mp.keep (hmod0.block bm h.mp.lt hbm); rwa [hn] at this
    obtain ⟨w3, r1, r2, r3⟩ := hm2.del strLaw Try.underlying117 hkey 9 0
    have hm3 : MapR Try.prog 9 w3 bm (entR L') n := by
      rcases r3 with ⟨_, r3, _⟩ | ⟨r3, _⟩
      · exact r3.congr (fun key v => by rw [← hki]; exact entR_less g3 h.keys key v)
      · exact absurd ⟨ith L i, ith_mem hi, by rw [hki], rfl⟩ (r3 (ptrV (ith L i)))
    have hpb : ((blks L') ++ [(ith L i).blk]).Perm (blks L) := by have := g3.map It.blk; simpa using this
    have hsub : ∀ b, b ∈ blks L' → b ∈ blks L := fun b hb => hpb.mem_iff.1 (List.mem_append_left _ hb)
    have hq3 : w3.heap[bq]? = some (.cells #[.slice (some ⟨ba, 0, none⟩) n cap, .map (some bm)] 121 (0, 0)) := by
      rw [r2.block bq (fun e => hbm (by simp [e]))]; exact g1
    refine ⟨cell_of g1 rfl, w3, r1, rfl, ⟨bq :: bm :: ([ba] ++ blks L'), ⟨.slice (some ⟨ba, 0, none⟩) n cap, bm, L', hq3, Or.inr ⟨ba, cap, by rw [hl'], ?_⟩, by rw [hl']; exact g4, by rw [hl']; exact hm3, ?_, delS_row h.row k, ?_, by simp [Value.ownBlock], ?_, ?_, ?_⟩, ?_⟩, ?_⟩
    · rw [hl']
      refine g2.keep (fun b hb => r2.block b ?_)
      rintro rfl
      rcases List.mem_cons.1 hb with e | hb
      · exact hbm (by simp [e])
      · rcases List.mem_cons.1 hb with e | hb
        · exact hbm (by simp [e])
        · exact hbm (by simp [hsub _ hb])
    · have := (g3.map It.key).nodup_iff.2 h.keys
      rw [List.map_append] at this
      exact (List.nodup_append.1 this).1
    · rw [← hki]; exact perm_less h.keys h.perm _ g3
    · have := (((hpb.cons ba).cons bm).cons bq).nodup_iff.2 (by simpa [Value.ownBlock] using hnd)
      exact this.sublist (List.Sublist.cons_cons bq (List.Sublist.cons_cons bm (List.Sublist.cons_cons ba (List.sublist_append_left _ _))))
    · intro x hx; exact h.small x (g3.mem_iff.1 (List.mem_append_left _ hx))
    · have := h.most; omega
    · intro b hb
      left; rw [hfp]
      simp only [List.mem_cons, List.singleton_append] at hb
      rcases hb with rfl | rfl | rfl | hb
      · simp
      · simp
      · simp [Value.ownBlock]
      · simp [hsub b hb]
    · have m1 : Mod F w w2 := hmod0.mono (fun b hb => by
        rw [hfp]
        rcases List.mem_cons.1 hb with rfl | hb
        · simp
        · rcases List.mem_cons.1 hb with rfl | hb
          · simp [Value.ownBlock]
          · simp [hb])
      exact m1.trans r2.mod (fun b hb => Or.inl (by simp at hb; subst hb; rw [hfp]; simp))
  have HD := Lib.hid D
  have HR := Lib.hid cr
  generalize (ith L i).blk = bi at *
  generalize ith L i = x at *
  clear D cr hfp hnd hbm hkey hn hl h hs hki
  go_enter Try.func60, Try.ntmps60
  go_wp2_with fail
  refine cf.mono ?_
  rintro e w1 ⟨rfl, rfl⟩
  go_wp2_with fail
  go_still_tail 8, (by kernel_rfl)
  change wpList _ _ _ _ _ (w.drewN 1)
  go_wp2_with fail
  refine (HR.out 1).mono ?_
  rintro e w2 hr
  obtain ⟨c1, w3, hrun, hq⟩ := HD.out 1 e w2 hr
  obtain ⟨u, rfl⟩ := hr.ret
  have hq := Lib.hid hq
  clear hr
  go_wp2_with fail
  go_ret
  exact hq.out

/-- 'Drop'. -/
theorem qdrop {w : World} {bq : Nat} {S : List KT} {F : List Nat} (h : IsQ w bq S F) {k : ByteArray} (hk : k.size ≤ maxLen) :
    Calls Try.prog 60 #[.pointer (some ⟨bq, 0, none⟩), .string k] w (QPost bq (delS k S) F (.bool (atS S k).isSome) w) := by
  have hh := h
  obtain ⟨v, bm, L, h⟩ := h
  rcases h.find hk with ⟨i, hi, e1, e2, e3⟩ | ⟨e1, e2, e3⟩
  · rw [e2]
    rcases h.st with ⟨_, rfl⟩ | ⟨ba, cap, rfl, hs⟩
    · simp at hi
    · exact qdrop_there h hs hi hk e1 e3
  · rw [e1, delS_none (atS_none.1 e1)]
    exact (qdrop_none (cell_of h.q rfl) e3).mono fun e w' ⟨he, hw⟩ => by subst hw; exact ⟨he, ⟨F, hh, Grew.refl _ _⟩, Mod.refl _ _⟩
end Go.Proofs.Ytcakgponofbhkaa
namespace Go.Proofs.Ytcakgponofbhkaa
open Go.RowKit
open Go.Maps (Keyed)
set_option linter.unusedVariables false
set_option maxRecDepth 100000

theorem infoStr : (Try.prog.info? 9).map (fun i => (i.zero, i.size, i.bytes)) = some (some (.string ByteArray.empty), 1, 16) := by kernel_rfl

/-- The value v is a row of the texts l, in a block of its own. -/
def Strs (w : World) (v : Value) (l : List ByteArray) : Prop := w.ownsRow 0 9 1 v l.length (l.map Value.string)
theorem Strs.keep {w w' : World} {v : Value} {l : List ByteArray} (h : Strs w v l) (hb : ∀ b, v.ownBlock = some b → w'.heap[b]? = w.heap[b]?) : Strs w' v l := by
  obtain ⟨h1, h2⟩ := h
  refine ⟨h1, ?_⟩
  rcases h2 with h2 | ⟨g, cap, cur, rfl, h3, h4, h5⟩
  · exact Or.inl h2
  · exact Or.inr ⟨g, cap, cur, rfl, h3, by rw [hb g rfl]; exact h4, h5⟩
theorem Strs.lt {w : World} {v : Value} {l : List ByteArray} (h : Strs w v l) : ∀ b, v.ownBlock = some b → b < w.heap.size := by
  obtain ⟨h1, h2⟩ := h
  rcases h2 with ⟨rfl, _⟩ | ⟨g, cap, cur, rfl, h3, h4, h5⟩
  · intro b hb; cases hb
  · intro b hb; cases hb; exact hp_lt h4
theorem Strs.nil (w : World) : Strs w (.slice none 0 0) [] := ⟨rfl, Or.inl ⟨rfl, rfl⟩⟩

/-- Behind 'Due': the keys, in new memory; the row that is left. -/
structure DuePost (bq : Nat) (S : List KT) (now : Int) (F : List Nat) (w : World) (e : Ending) (w' : World) : Prop where
  ret : ∃ v, e = .returned v ∧ Strs w' v (dueK S now) ∧ (∀ b, v.ownBlock = some b → w.heap.size ≤ b) ∧ ∃ F', IsQ w' bq (dueR S now) F' ∧ Grew F F' w ∧ ∀ b, v.ownBlock = some b → b ∉ F'
  mod : Mod F w w'

def DueRel (bq : Nat) (S : List KT) (now : Int) (F : List Nat) (w : World) (v : Value) (wr : World) : Prop :=
  ∃ S1 S2 F2, S = S1 ++ S2 ∧ (∀ x ∈ S1, x.2 ≤ now) ∧ Strs wr v (S1.map (·.1)) ∧ (∀ b, v.ownBlock = some b → w.heap.size ≤ b) ∧ IsQ wr bq S2 F2 ∧ Grew F F2 w ∧ (∀ b, v.ownBlock = some b → b ∉ F2) ∧ Mod F w wr

theorem due_split {S1 S2 : List KT} {now : Int} (h1 : ∀ x ∈ S1, x.2 ≤ now) (h2 : ∀ x, S2.head? = some x → now < x.2) : dueK (S1 ++ S2) now = S1.map (·.1) ∧ dueR (S1 ++ S2) now = S2 := by
  unfold dueK dueR
  induction S1 with
  | nil =>
    cases S2 with
    | nil => simp
    | cons x r =>
      have := h2 x rfl
      rw [List.nil_append, List.takeWhile_cons, List.dropWhile_cons]
      simp; omega
  | cons y r ih =>
    have hy := h1 y (by simp)
    have := ih (fun x hx => h1 x (List.mem_cons_of_mem _ hx))
    rw [List.cons_append, List.takeWhile_cons, List.dropWhile_cons]
    simp [hy, this]

/-- The measure of the loop: how many keys the queue has. -/
def qLeft (bq : Nat) (w : World) : Nat := match w.cell? ⟨bq, 0, none⟩ with | some (.slice _ n _) => n | _ => 0
theorem IsQ.left {w : World} {bq : Nat} {S : List KT} {F : List Nat} (h : IsQ w bq S F) : qLeft bq w = S.length := by
  obtain ⟨v, bm, L, h⟩ := h
  obtain ⟨a, cap, rfl⟩ := h.val
  unfold qLeft
  rw [cell_of (o := 0) (v := .slice a L.length cap) h.q rfl, h.len]

/-- The first item's cells. -/
theorem IsQ.first {w : World} {bq : Nat} {x : KT} {S : List KT} {F : List Nat} (h : IsQ w bq (x :: S) F) :
    ∃ ba n cap bi, w.cell? ⟨bq, 0, none⟩ = some (.slice (some ⟨ba, 0, none⟩) (n + 1) cap) ∧ w.cell? ⟨ba, 0, none⟩ = some (.pointer (some ⟨bi, 0, none⟩)) ∧ w.cell? ⟨bi, 0, none⟩ = some (.string x.1) ∧ w.cell? ⟨bi, 1, none⟩ = some (.int .i64 x.2) ∧ x.1.size ≤ maxLen ∧ n ≤ 1024 := by
  obtain ⟨v, bm, L, h⟩ := h
  have hlen := h.len
  have hroot := root_head h.heap h.row h.perm
  rcases h.st with ⟨_, rfl⟩ | ⟨ba, cap, rfl, hs⟩
  · simp at hlen
  · have hl0 : 0 < L.length := by simp at hlen; omega
    refine ⟨ba, L.length - 1, cap, (ith L 0).blk, ?_, hs.ptr hl0, ?_, ?_, ?_, ?_⟩
    · have : L.length - 1 + 1 = L.length := by omega
      rw [this]; exact hs.cell
    · have := hs.key hl0; rwa [show (ith L 0).key = x.1 from congrArg Prod.fst hroot] at this
    · have := hs.tm hl0; rwa [show (ith L 0).tm = x.2 from congrArg Prod.snd hroot] at this
    · have := h.small _ (ith_mem hl0); rwa [show (ith L 0).key = x.1 from congrArg Prod.fst hroot] at this
    · have := h.most; omega

theorem qdue_nil (now : Int) (w : World) : Calls Try.prog 54 #[.pointer none, .int .i64 now] w fun e w' => e = .returned (.slice none 0 0) ∧ w = w' := by
  go_enter Try.func54, Try.ntmps54
  go_wp2_with fail
  refine wp_loop_rounds 1 ?_
  rw [rounds_succ]
  go_wp2_with fail
  refine (qlen_nil _).mono ?_
  rintro e w1 ⟨rfl, rfl⟩
  go_wp2_with fail
  go_ret
  exact ⟨rfl, rfl⟩

set_option maxRecDepth 100000 in
set_option maxHeartbeats 2000000 in
theorem qdue {w : World} {bq : Nat} {S : List KT} {F : List Nat} (h : IsQ w bq S F) (now : Int) : Calls Try.prog 54 #[.pointer (some ⟨bq, 0, none⟩), .int .i64 now] w (DuePost bq S now F w) := by
  obtain ⟨i0, hinf, hz0, hz1, hz2⟩ := info_parts infoStr
  have hinf1 := Lib.hid hinf
  have hz01 := Lib.hid hz0
  have hz11 := Lib.hid hz1
  have hz21 := Lib.hid hz2
  clear hinf hz0 hz1 hz2
  have HS0 : Hid (DueRel bq S now F w (.slice none 0 0) w) := Lib.hid ⟨[], S, F, rfl, by simp, Strs.nil w, fun b hb => by simp [Value.ownBlock] at hb, h, Grew.refl _ _, fun b hb => by simp [Value.ownBlock] at hb, Mod.refl _ _⟩
  have H1024 := Lib.hid h.len
  clear h
  go_enter Try.func54, Try.ntmps54
  go_wp2_with fail
  go_loopw [5] (DueRel bq S now F w) (fun _ wr => qLeft bq wr)
  case atStart => exact HS0.out
  case round =>
    obtain ⟨S1, S2, F2, hS, h1, hv, hvn, hq, hg, hvF, hm⟩ := hrel
    clear HS0
    have cl := qlen hq
    cases S2 with
    | nil =>
      have E : DuePost bq S now F w (.returned u5) wr := by
        have := due_split (S2 := []) h1 (by simp)
        rw [← hS] at this
        exact ⟨⟨_, rfl, by rw [this.1]; exact hv, hvn, F2, by rw [this.2]; exact hq, hg, hvF⟩, hm⟩
      have HE := Lib.hid E
      clear E hS h1 hv hvn hq hg hvF hm
      go_wp2_with fail
      refine cl.mono ?_
      rintro e w1 ⟨rfl, rfl⟩
      go_wp2_with fail
      go_ret
      exact HE.out
    | cons x S2 =>
      obtain ⟨ba, n, cap, bi, c0, c1, c2, c3, hx, hn⟩ := hq.first
      have hl1 : (0 : Int) < (S2.length : Int) + 1 := by omega
      by_cases ht : x.2 ≤ now
      · have hqk := hq.keys
        have hS1 : S1.length ≤ 1023 := by
          have := H1024.out
          rw [hS] at this
          simp at this
          omega
        have hdel : delS x.1 (x :: S2) = S2 := head_del hqk
        have hat : (atS (x :: S2) x.1).isSome = true := by rw [(atS_some hqk (k := x.1) (t := x.2)).2 (by simp)]; rfl
        have hlt := hv.lt
        have hFlt := hq.lt
        have hwsz := hm.size
        have E : ∀ v' w1, w1.ownsRow 0 9 1 v' ((S1.map (·.1)).length + 1) ((S1.map (·.1)).map Value.string ++ [.string x.1]) → (wr.alloc (.cells #[.string x.1] 9)).grownBy w1 u5.ownBlock → (v'.ownBlock = u5.ownBlock ∨ v'.ownBlock = some (wr.heap.size + 1)) →
            Calls Try.prog 60 #[.pointer (some ⟨bq, 0, none⟩), .string x.1] w1 fun e w2 => e = .returned (.bool true) ∧ DueRel bq S now F w v' w2 ∧ qLeft bq w2 < qLeft bq wr := by
          intro v' w1 ho hgr ha
          have hsz := hgr.size
          simp at hsz
          have kold : ∀ b, b < wr.heap.size → u5.ownBlock ≠ some b → w1.heap[b]? = wr.heap[b]? := fun b hb hne => by
            rw [hgr.block b (by simp; omega) (fun e => hne e.symm), hp_alloc_old hb]
          have hq1 : IsQ w1 bq (x :: S2) F2 := hq.keep (fun b hb => kold b (hFlt b hb) (fun e => hvF b e hb))
          have hm1 : Mod F w w1 := (hm.alloc _).of_grown hgr (fun k hk => Or.inr (hvn k hk))
          have hvF1 : ∀ b, v'.ownBlock = some b → b ∉ F2 ∧ w.heap.size ≤ b := by
            intro b hb
            rcases ha with ha | ha
            · rw [ha] at hb; exact ⟨hvF b hb, hvn b hb⟩
            · rw [ha] at hb; cases hb; exact ⟨fun hf => by have := hFlt _ hf; omega, by omega⟩
          refine (qdrop hq1 hx).mono fun e w2 hp => ?_
          obtain ⟨F3, g1, g2⟩ := hp.now
          rw [hdel] at g1
          refine ⟨by rw [hp.ret, hat], ⟨S1 ++ [x], S2, F3, by rw [hS]; simp, ?_, ?_, fun b hb => (hvF1 b hb).2, g1, ?_, ?_, ?_⟩, ?_⟩
          · intro y hy
            rcases List.mem_append.1 hy with hy | hy
            · exact h1 y hy
            · simp at hy; subst hy; exact ht
          · have : Strs w1 v' ((S1 ++ [x]).map (·.1)) := by
              have e1 : (List.map (fun y : KT => y.1) (S1 ++ [x])).length = (S1.map (·.1)).length + 1 := by simp
              have e2 : (List.map (fun y : KT => y.1) (S1 ++ [x])).map Value.string = (S1.map (·.1)).map Value.string ++ [.string x.1] := by simp
              unfold Strs
              rw [e1, e2]; exact ho
            exact this.keep (fun b hb => hp.mod.block b (this.lt b hb) (hvF1 b hb).1)
          · intro b hb
            rcases g2 b hb with h | h
            · exact hg b h
            · right; omega
          · intro b hb hf
            rcases g2 b hf with h | h
            · exact (hvF1 b hb).1 h
            · have : b < w1.heap.size := by
                obtain ⟨_, h2⟩ := ho
                rcases h2 with ⟨rfl, _⟩ | ⟨g, cap2, cur, rfl, _, h4, _⟩
                · cases hb
                · cases hb; exact hp_lt h4
              omega
          · exact hm1.trans hp.mod hg
          · rw [g1.left, hq.left]; simp
        have HE := Lib.hid E
        have Hv := Lib.hid hv
        clear E hS h1 hv hvn hq hg hvF hm hqk hdel hat hlt hFlt hwsz
        go_wp2_with fail
        refine cl.mono ?_
        rintro e w1 ⟨rfl, rfl⟩
        go_wp2_with (at_builtin; refine wpList_append_own_at _ rfl (.tmp 32) (.tmp 34) 93 rfl 0 9 i0 (.string ByteArray.empty) 1 16 Try.underlying93 hinf1.out hz01.out hz11.out hz21.out rfl (by decide) _ _ _ rfl (Hv.out.alloc _) ⟨_, 0, none⟩ 1 1 [.string x.1] rfl rfl ?c1 ?c2 ?c3 ?c4 ?c5 ?_)
        case c1 => intro j u hu; cases j with
          | zero => simp at hu; subst hu; exact cell_of hp_alloc_new rfl
          | succ j => simp at hu
        case c2 => intro u hu; simp at hu; subst hu; rfl
        case c3 => simp; unfold maxLen; omega
        case c4 => simp; omega
        case c5 => omega
        intro v' w1 ho hgr _ ha
        have HC := Lib.hid (HE.out v' w1 (by simpa using ho) hgr (by simpa using ha))
        clear ho hgr ha
        go_wp2_with fail
        refine HC.out.mono ?_
        rintro e w2 ⟨rfl, hr, hlt⟩
        have hr := Lib.hid hr
        go_wp2_with fail
        go_roundw
        case rel => exact hr.out
        case measure => exact hlt
      · have E : DuePost bq S now F w (.returned u5) wr := by
          have := due_split (S2 := x :: S2) h1 (by simp; omega)
          rw [← hS] at this
          exact ⟨⟨_, rfl, by rw [this.1]; exact hv, hvn, F2, by rw [this.2]; exact hq, hg, hvF⟩, hm⟩
        have HE := Lib.hid E
        have ht' : now < x.2 := by omega
        clear E hS h1 hv hvn hq hg hvF hm ht
        go_wp2_with fail
        refine cl.mono ?_
        rintro e w1 ⟨rfl, rfl⟩
        go_wp2_with fail
        go_ret
        exact HE.out
end Go.Proofs.Ytcakgponofbhkaa
namespace Go.Proofs.Ytcakgponofbhkaa
open Go.RowKit
set_option linter.unusedVariables false
set_option maxRecDepth 100000

theorem Strs.shape {w : World} {v : Value} {l : List ByteArray} (h : Strs w v l) : ∃ a cap, v = .slice a l.length cap ∧ l.length ≤ cap ∧ cap ≤ maxLen ∧ ∀ i (hi : i < l.length), ∃ b, a = some ⟨b, 0, none⟩ ∧ w.cell? ⟨b, i, none⟩ = some (.string l[i]) := by
  obtain ⟨h1, h2⟩ := h
  rcases h2 with ⟨rfl, h2⟩ | ⟨g, cap, cur, rfl, _, h3, h4, h5, h6, h7⟩
  · exact ⟨none, 0, by rw [h2], by omega, Nat.zero_le _, fun i hi => by omega⟩
  · refine ⟨_, cap, rfl, h4, h5, fun i hi => ⟨g, rfl, cell_of h3 ?_⟩⟩
    have : (cur.toList.take (l.length * 1))[i]? = (l.map Value.string)[i]? := by rw [h7]
    rw [List.getElem?_take, if_pos (by omega), Array.getElem?_toList] at this
    rw [this]; simp [hi]


def kA : ByteArray := ⟨#[97]⟩
def kB : ByteArray := ⟨#[98]⟩
def kC : ByteArray := ⟨#[99]⟩
theorem setS_ok {S : List KT} {k : ByteArray} {t : Int} (h0 : 0 ≤ t) (h1 : t ≤ 1099511627776) (hl : S.length < 1024) : setS S k t = (ins (k, t) (delS k S), 0) := by
  rw [setS, if_neg (by omega), if_neg (by omega)]
theorem awake1 : setS [] kB 5 = ([(kB, 5)], 0) := by decide +kernel
theorem awake2 : setS [(kB, 5)] kA 5 = ([(kA, 5), (kB, 5)], 0) := by decide +kernel
theorem awake3 : setS [(kA, 5), (kB, 5)] kC 9 = ([(kA, 5), (kB, 5), (kC, 9)], 0) := by decide +kernel
theorem awake4 : dueK [(kA, 5), (kB, 5), (kC, 9)] 5 = [kA, kB] ∧ dueR [(kA, 5), (kB, 5), (kC, 9)] 5 = [(kC, 9)] := by decide +kernel

def TruePost (w : World) (e : Ending) (w' : World) : Prop := e = .returned (.bool true) ∧ Mod [] w w'

/-- A queue of the call's own: its blocks are new. -/
def OwnQ (w0 : World) (w : World) (bq : Nat) (S : List KT) : Prop := ∃ F, IsQ w bq S F ∧ (∀ b ∈ F, w0.heap.size ≤ b) ∧ Mod [] w0 w
theorem ownQ_new {w0 w w' : World} (hm : Mod [] w0 w) {e : Ending} (h : NewPost w e w') : ∃ bq, e = .returned (.pointer (some ⟨bq, 0, none⟩)) ∧ OwnQ w0 w' bq [] := by
  obtain ⟨bq, F, he, hq, hF, hmm⟩ := h
  have := hm.size
  exact ⟨bq, he, F, hq, fun b hb => by have := hF b hb; omega, hm.trans' hmm⟩
theorem own_post {w0 w w' : World} {bq : Nat} {S' : List KT} {F : List Nat} {r : Value} {e : Ending} (hF : ∀ b ∈ F, w0.heap.size ≤ b) (hm : Mod [] w0 w) (hp : QPost bq S' F r w e w') : e = .returned r ∧ OwnQ w0 w' bq S' := by
  obtain ⟨he, ⟨F', hq', hg⟩, hmod⟩ := hp
  have := hm.size
  exact ⟨he, F', hq', fun b hb => by rcases hg b hb with h1 | h1; exact hF b h1; omega, hm.trans hmod (fun b hb => Or.inr (hF b hb))⟩
theorem OwnQ.mod {w0 w : World} {bq : Nat} {S : List KT} (h : OwnQ w0 w bq S) : Mod [] w0 w := h.choose_spec.2.2
theorem own_set {w0 w : World} {bq : Nat} {S : List KT} (h : OwnQ w0 w bq S) {k : ByteArray} (hk : k.size ≤ maxLen) (t : Int) :
    Calls Try.prog 52 #[.pointer (some ⟨bq, 0, none⟩), .string k, .int .i64 t] w fun e w' => e = .returned (.int .i64 (setS S k t).2) ∧ OwnQ w0 w' bq (setS S k t).1 := by
  obtain ⟨F, hq, hF, hm⟩ := h
  exact (qset hq hk t).mono fun e w' hp => own_post hF hm hp
theorem own_drop {w0 w : World} {bq : Nat} {S : List KT} (h : OwnQ w0 w bq S) {k : ByteArray} (hk : k.size ≤ maxLen) :
    Calls Try.prog 60 #[.pointer (some ⟨bq, 0, none⟩), .string k] w fun e w' => e = .returned (.bool (atS S k).isSome) ∧ OwnQ w0 w' bq (delS k S) := by
  obtain ⟨F, hq, hF, hm⟩ := h
  exact (qdrop hq hk).mono fun e w' hp => own_post hF hm hp
theorem own_new {w0 w : World} (hm : Mod [] w0 w) : Calls Try.prog 50 #[] w fun e w' => ∃ bq, e = .returned (.pointer (some ⟨bq, 0, none⟩)) ∧ OwnQ w0 w' bq [] :=
  (qnew w).mono fun e w' h => ownQ_new hm h
theorem OwnQ.drewN {w0 w : World} {bq : Nat} {S : List KT} (h : OwnQ w0 w bq S) (m : Nat) : OwnQ w0 (w.drewN m) bq S := by
  obtain ⟨F, hq, hF, hm⟩ := h
  exact ⟨F, hq.keep (fun _ _ => rfl), hF, hm.drewN m⟩
theorem own_len {w0 w : World} {bq : Nat} {S : List KT} (h : OwnQ w0 w bq S) : Calls Try.prog 58 #[.pointer (some ⟨bq, 0, none⟩)] w fun e w' => e = .returned (.int .i64 S.length) ∧ w = w' := by
  obtain ⟨F, hq, hF, hm⟩ := h
  exact qlen hq
theorem own_at {w0 w : World} {bq : Nat} {S : List KT} (h : OwnQ w0 w bq S) {k : ByteArray} (hk : k.size ≤ maxLen) :
    Calls Try.prog 61 #[.pointer (some ⟨bq, 0, none⟩), .string k] w (AtPost (atS S k) w) := by
  obtain ⟨F, hq, hF, hm⟩ := h
  exact qat hq hk
/-- .. of 'Due': the keys lie apart from the queue. -/
theorem own_due {w0 w : World} {bq : Nat} {S : List KT} (h : OwnQ w0 w bq S) (now : Int) :
    Calls Try.prog 54 #[.pointer (some ⟨bq, 0, none⟩), .int .i64 now] w fun e w' => ∃ v, e = .returned v ∧ Strs w' v (dueK S now) ∧ OwnQ w0 w' bq (dueR S now) := by
  obtain ⟨F, hq, hF, hm⟩ := h
  refine (qdue hq now).mono fun e w' hp => ?_
  obtain ⟨v, he, hs, hn, F', hq', hg, _⟩ := hp.ret
  have := hm.size
  exact ⟨v, he, hs, F', hq', fun b hb => by rcases hg b hb with h1 | h1; exact hF b h1; omega, hm.trans hp.mod (fun b hb => Or.inr (hF b hb))⟩

end Go.Proofs.Ytcakgponofbhkaa
