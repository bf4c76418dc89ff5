/- Rows.PathPlaysSaid -/
import Derived.Test.YtgapbecddgfkmaaGreatPY1
import Derived.StringKeys
import Derived.StillTailTactics
namespace Go.Proofs.YtgapbecddgfkmaaGreat
open Go.RowKit
open Go.Maps (Keyed)
set_option linter.unusedVariables false
set_option maxHeartbeats 64000000
set_option maxRecDepth 100000
def Row (S : List KT) : Prop := S.Pairwise (fun a b => klt a b = true)
def ins (x : KT) : List KT → List KT
  | [] => [x]
  | y :: r => if klt y x = true then y :: ins x r else x :: y :: r
def delS (k : ByteArray) (S : List KT) : List KT := S.filter (fun x => decide (x.1 ≠ k))
def atS (S : List KT) (k : ByteArray) : Option Int := (S.find? (fun x => decide (x.1 = k))).map (·.2)
def Keys1 (S : List KT) : Prop := (S.map (·.1)).Nodup
theorem ins_perm (x : KT) : ∀ S, (ins x S).Perm (x :: S)
  | [] => List.Perm.refl _
  | y :: r => by
    unfold ins
    split
    · exact ((ins_perm x r).cons y).trans (List.Perm.swap x y r)
    · exact List.Perm.refl _
theorem ins_mem {x y : KT} {S : List KT} : y ∈ ins x S ↔ y = x ∨ y ∈ S := by rw [(ins_perm x S).mem_iff]; simp
theorem ins_row {x : KT} : ∀ {S : List KT}, Row S → (∀ y ∈ S, y.1 ≠ x.1) → Row (ins x S)
  | [], _, _ => by simp [ins, Row]
  | y :: r, h, hne => by
    obtain ⟨h1, h2⟩ := List.pairwise_cons.1 h
    unfold ins
    split
    · rename_i hl
      refine List.pairwise_cons.2 ⟨fun z hz => ?_, ins_row h2 (fun z hz => hne z (List.mem_cons_of_mem _ hz))⟩
      rcases ins_mem.1 hz with rfl | hz
      · exact hl
      · exact h1 z hz
    · rename_i hl
      have hxy : klt x y = true := by
        cases e : klt x y
        · exact absurd (congrArg Prod.fst (klt_total (by simpa using hl) e)) (hne y (by simp))
        · rfl
      refine List.pairwise_cons.2 ⟨fun z hz => ?_, h⟩
      rcases List.mem_cons.1 hz with rfl | hz
      · exact hxy
      · exact klt_trans hxy (h1 z hz)
theorem delS_row {S : List KT} (h : Row S) (k : ByteArray) : Row (delS k S) := List.Pairwise.sublist List.filter_sublist h
theorem delS_mem {S : List KT} {k : ByteArray} {y : KT} : y ∈ delS k S ↔ y ∈ S ∧ y.1 ≠ k := by simp [delS]
theorem delS_none {S : List KT} {k : ByteArray} (h : ∀ y ∈ S, y.1 ≠ k) : delS k S = S := by
  unfold delS; rw [List.filter_eq_self]; intro y hy; simpa using h y hy
theorem keys_one {S : List KT} (h : Keys1 S) {a b : KT} (ha : a ∈ S) (hb : b ∈ S) (e : a.1 = b.1) : a = b := by
  obtain ⟨i, hi, rfl⟩ := List.mem_iff_getElem.1 ha
  obtain ⟨j, hj, rfl⟩ := List.mem_iff_getElem.1 hb
  by_cases hij : i = j
  · subst hij; rfl
  · exact absurd (by rw [List.getElem_map, List.getElem_map]; exact e) (nodup_ne h (i := i) (j := j) (by simpa using hi) (by simpa using hj) hij)
theorem atS_some {S : List KT} (h : Keys1 S) {k : ByteArray} {t : Int} : atS S k = some t ↔ (k, t) ∈ S := by
  unfold atS
  constructor
  · intro e
    obtain ⟨x, hx, rfl⟩ := Option.map_eq_some_iff.1 e
    have h1 := List.mem_of_find?_eq_some hx
    have h2 := List.find?_some hx
    simp at h2
    subst h2
    exact h1
  · intro hm
    cases hf : S.find? (fun x => decide (x.1 = k)) with
    | none => rw [List.find?_eq_none] at hf; exact absurd (hf _ hm) (by simp)
    | some x =>
      have h1 := List.mem_of_find?_eq_some hf
      have h2 := List.find?_some hf
      simp at h2
      have := keys_one h h1 hm h2
      subst this; rfl
theorem atS_none {S : List KT} {k : ByteArray} : atS S k = none ↔ ∀ y ∈ S, y.1 ≠ k := by
  unfold atS
  rw [Option.map_eq_none_iff, List.find?_eq_none]
  simp
/-! ### the row and the heap's items -/
theorem kt_nodup {L : List It} (h : (L.map It.key).Nodup) : (L.map It.kt).Nodup := by
  have : (L.map It.key) = (L.map It.kt).map Prod.fst := by rw [List.map_map]; rfl
  rw [this] at h
  exact List.Pairwise.imp (fun hab e => hab (by rw [e])) (List.pairwise_map.1 h)
theorem keys_of_perm {L : List It} {S : List KT} (h : (L.map It.key).Nodup) (hp : S.Perm (L.map It.kt)) : Keys1 S := by
  unfold Keys1
  rw [(hp.map _).nodup_iff, List.map_map]
  exact h
theorem perm_set {L : List It} {S : List KT} (hk : (L.map It.key).Nodup) (hp : S.Perm (L.map It.kt)) {i : Nat} (hi : i < L.length) (t : Int) :
    (ins ((ith L i).key, t) (delS (ith L i).key S)).Perm ((L.set i ⟨(ith L i).blk, (ith L i).key, t⟩).map It.kt) ∧ ((L.set i ⟨(ith L i).blk, (ith L i).key, t⟩).map It.key) = L.map It.key := by
  have e2 : ((L.set i ⟨(ith L i).blk, (ith L i).key, t⟩).map It.key) = L.map It.key := by
    apply List.ext_getElem
    · simp
    · intro j h1 h2
      simp only [List.getElem_map, List.getElem_set]
      split
      · rename_i e; subst e; simp [ith_lt hi]
      · rfl
  refine ⟨?_, e2⟩
  have hS := keys_of_perm hk hp
  refine (ins_perm _ _).trans ?_
  rw [List.perm_ext_iff_of_nodup]
  · intro a
    simp only [List.mem_cons, delS_mem, List.mem_map]
    constructor
    · rintro (rfl | ⟨ha, hne⟩)
      · exact ⟨_, List.mem_set hi _, rfl⟩
      · obtain ⟨x, hx, rfl⟩ := List.mem_map.1 (hp.mem_iff.1 ha)
        obtain ⟨j, hj, rfl⟩ := List.mem_iff_getElem.1 hx
        have hij : i ≠ j := by rintro rfl; exact hne (by rw [ith_lt hi])
        exact ⟨L[j], List.mem_iff_getElem.2 ⟨j, by simpa using hj, by simp [hij]⟩, rfl⟩
    · rintro ⟨x, hx, rfl⟩
      obtain ⟨j, hj, rfl⟩ := List.mem_iff_getElem.1 hx
      have hj' : j < L.length := by simpa using hj
      rw [List.getElem_set]
      split
      · exact Or.inl rfl
      · rename_i hij
        refine Or.inr ⟨hp.mem_iff.2 (List.mem_map_of_mem (List.getElem_mem hj')), ?_⟩
        intro e
        have := nodup_ne hk (i := j) (j := i) (by simpa using hj') (by simpa using hi) (Ne.symm hij)
        have e' : L[j].key = (ith L i).key := e
        exact this (by simp only [List.getElem_map]; rw [e', ith_lt hi])
  · refine List.nodup_cons.2 ⟨fun hm => (delS_mem.1 hm).2 rfl, ?_⟩
    exact List.Nodup.sublist List.filter_sublist (hp.nodup_iff.2 (kt_nodup hk))
  · exact kt_nodup (by rw [e2]; exact hk)
theorem perm_new {L L' : List It} {S : List KT} (hp : S.Perm (L.map It.kt)) (x : It) (h : L'.Perm (L ++ [x])) : (ins x.kt S).Perm (L'.map It.kt) := by
  refine (ins_perm _ _).trans ?_
  refine List.Perm.trans ?_ (h.map It.kt).symm
  rw [List.map_append]
  exact (hp.cons _).trans (List.perm_append_singleton _ _).symm
theorem perm_less {L L' : List It} {S : List KT} (hk : (L.map It.key).Nodup) (hp : S.Perm (L.map It.kt)) (x : It) (h : (L' ++ [x]).Perm L) : (delS x.key S).Perm (L'.map It.kt) := by
  have hk' : ((L' ++ [x]).map It.key).Nodup := (h.map It.key).nodup_iff.2 hk
  have h1 : (delS x.key S).Perm (delS x.key ((L' ++ [x]).map It.kt)) := (hp.trans (h.map It.kt).symm).filter _
  refine h1.trans ?_
  have : delS x.key ((L' ++ [x]).map It.kt) = L'.map It.kt := by
    rw [List.map_append]
    unfold delS
    rw [List.filter_append]
    have e1 : (List.map It.kt L').filter (fun y => decide (y.1 ≠ x.key)) = List.map It.kt L' := by
      rw [List.filter_eq_self]
      intro y hy
      obtain ⟨z, hz, rfl⟩ := List.mem_map.1 hy
      rw [List.map_append] at hk'
      have := (List.nodup_append.1 hk').2.2 z.key (List.mem_map_of_mem hz) x.key (by simp)
      simpa using this
    rw [e1]
    simp
  rw [this]
/-! ### the first ones -/
def dueK (S : List KT) (now : Int) : List ByteArray := (S.takeWhile (fun x => decide (x.2 ≤ now))).map (·.1)
def dueR (S : List KT) (now : Int) : List KT := S.dropWhile (fun x => decide (x.2 ≤ now))
/-! ### the calls -/
def maxTime : Int := 1099511627776
def setS (S : List KT) (k : ByteArray) (t : Int) : List KT × Int :=
  if t < 0 ∨ 1099511627776 < t then (S, 1) else if atS S k = none ∧ 1024 ≤ S.length then (S, 9) else (ins (k, t) (delS k S), 0)
theorem strLaw : Keyed Tryz.prog 9 := Keyed.of_law (Go.WideMaps.string_law Tryz.underlying9)
def entR (L : List It) (k v : Value) : Prop := ∃ x ∈ L, k = .string x.key ∧ v = ptrV x
structure QS (w : World) (bq : Nat) (v : Value) (bm : Nat) (L : List It) (S : List KT) (F : List Nat) : Prop where
  q : w.heap[bq]? = some (.cells #[v, .map (some bm)] 131 (0, 0))
  st : (v = .slice none 0 0 ∧ L = []) ∨ ∃ ba cap, v = .slice (some ⟨ba, 0, none⟩) L.length cap ∧ HS w bq ba L.length cap L
  heap : HeapP L.length (gk L)
  mp : MapR Tryz.prog 9 w bm (entR L) L.length
  keys : (L.map It.key).Nodup
  row : Row S
  perm : S.Perm (L.map It.kt)
  fp : F = bq :: bm :: (v.ownBlock.toList ++ blks L)
  nodup : F.Nodup
  small : ∀ x ∈ L, x.key.size ≤ maxLen
  most : L.length ≤ 1024
def IsQ (w : World) (bq : Nat) (S : List KT) (F : List Nat) : Prop := ∃ v bm L, QS w bq v bm L S F
theorem HS.keep {w w' : World} {bq ba n cap : Nat} {L : List It} (h : HS w bq ba n cap L) (hb : ∀ b ∈ bq :: ba :: blks L, w'.heap[b]? = w.heap[b]?) : HS w' bq ba n cap L := by
  refine ⟨?_, h.len, h.room, h.capm, h.most, h.nodup, ?_, fun i hi => ?_⟩
  · rw [World.cell?_of_block (a := ⟨bq, 0, none⟩) (hb bq (by simp))]; exact h.cell
  · rw [hb ba (by simp)]; exact h.arr
  · rw [hb _ (List.mem_cons_of_mem _ (List.mem_cons_of_mem _ (blk_mem (by have := h.len; omega))))]; exact h.item i hi
theorem QS.keep {w w' : World} {bq : Nat} {v : Value} {bm : Nat} {L : List It} {S : List KT} {F : List Nat} (h : QS w bq v bm L S F) (hb : ∀ b ∈ F, w'.heap[b]? = w.heap[b]?) : QS w' bq v bm L S F := by
  have hf := h.fp
  refine ⟨?_, ?_, h.heap, h.mp.keep (hb bm (by rw [hf]; simp)), h.keys, h.row, h.perm, h.fp, h.nodup, h.small, h.most⟩
  · rw [hb bq (by rw [hf]; simp)]; exact h.q
  · rcases h.st with h1 | ⟨ba, cap, h1, h2⟩
    · exact Or.inl h1
    · refine Or.inr ⟨ba, cap, h1, h2.keep (fun b hm => hb b ?_)⟩
      rw [hf, h1]
      simp only [List.mem_cons] at hm
      rcases hm with rfl | rfl | hm
      · simp
      · simp [Value.ownBlock]
      · simp [Value.ownBlock, hm]
theorem IsQ.keep {w w' : World} {bq : Nat} {S : List KT} {F : List Nat} (h : IsQ w bq S F) (hb : ∀ b ∈ F, w'.heap[b]? = w.heap[b]?) : IsQ w' bq S F := by
  obtain ⟨v, bm, L, h⟩ := h
  exact ⟨v, bm, L, h.keep hb⟩
theorem QS.lt {w : World} {bq : Nat} {v : Value} {bm : Nat} {L : List It} {S : List KT} {F : List Nat} (h : QS w bq v bm L S F) : ∀ b ∈ F, b < w.heap.size := by
  intro b hb
  rw [h.fp] at hb
  simp only [List.mem_cons, List.mem_append] at hb
  rcases hb with rfl | rfl | hb | hb
  · exact hp_lt h.q
  · exact h.mp.lt
  · rcases h.st with ⟨rfl, _⟩ | ⟨ba, cap, rfl, h2⟩
    · simp [Value.ownBlock] at hb
    · simp [Value.ownBlock] at hb
      subst hb
      obtain ⟨C, hC, _⟩ := h2.arr
      exact hp_lt hC
  · rcases h.st with ⟨_, rfl⟩ | ⟨ba, cap, _, h2⟩
    · simp at hb
    · obtain ⟨x, hx, rfl⟩ := List.mem_map.1 hb
      obtain ⟨i, hi, rfl⟩ := List.mem_iff_getElem.1 hx
      obtain ⟨T, hT⟩ := h2.item i hi
      rw [ith_lt hi] at hT
      exact hp_lt hT
theorem IsQ.lt {w : World} {bq : Nat} {S : List KT} {F : List Nat} (h : IsQ w bq S F) : ∀ b ∈ F, b < w.heap.size := by
  obtain ⟨v, bm, L, h⟩ := h
  exact h.lt
theorem QS.len {w : World} {bq : Nat} {v : Value} {bm : Nat} {L : List It} {S : List KT} {F : List Nat} (h : QS w bq v bm L S F) : S.length = L.length := by have := h.perm.length_eq; simpa using this
theorem QS.val {w : World} {bq : Nat} {v : Value} {bm : Nat} {L : List It} {S : List KT} {F : List Nat} (h : QS w bq v bm L S F) : ∃ a cap, v = .slice a L.length cap := by
  rcases h.st with ⟨rfl, rfl⟩ | ⟨ba, cap, rfl, _⟩
  · exact ⟨none, 0, rfl⟩
  · exact ⟨_, cap, rfl⟩
theorem QS.find {w : World} {bq : Nat} {v : Value} {bm : Nat} {L : List It} {S : List KT} {F : List Nat} (h : QS w bq v bm L S F) {k : ByteArray} (hk : k.size ≤ maxLen) :
    (∃ i, ∃ hi : i < L.length, (ith L i).key = k ∧ atS S k = some (ith L i).tm ∧ (Instr.lookup 127 (.map (some bm)) (.string k) false).run Tryz.prog w = .ok (.pointer (some ⟨(ith L i).blk, 0, none⟩)) w) ∨
    (atS S k = none ∧ (∀ x ∈ L, x.key ≠ k) ∧ (Instr.lookup 127 (.map (some bm)) (.string k) false).run Tryz.prog w = .ok (.pointer none) w) := by
  have hz : (zeroValue 195).run Tryz.prog w = .ok (.pointer none) w := by kernel_rfl
  have hkey := Go.WideMaps.keyOf_string_mk Tryz.underlying9 hk
  have hS := keys_of_perm h.keys h.perm
  rcases h.mp.look strLaw Tryz.underlying127 hz hkey false with ⟨u, ⟨x, hx, h1, h2⟩, h3⟩ | ⟨h1, h2⟩
  · obtain ⟨i, hi, rfl⟩ := List.mem_iff_getElem.1 hx
    simp only [Value.string.injEq] at h1
    refine Or.inl ⟨i, hi, by rw [ith_lt hi]; exact h1.symm, ?_, ?_⟩
    · rw [atS_some hS, h.perm.mem_iff, ith_lt hi, h1]
      exact List.mem_map.2 ⟨_, List.getElem_mem hi, rfl⟩
    · rw [h3, h2, ith_lt hi]; rfl
  · have hno : ∀ x ∈ L, x.key ≠ k := fun x hx e => h1 (ptrV x) ⟨x, hx, by rw [e], rfl⟩
    refine Or.inr ⟨?_, hno, by rw [h2]; rfl⟩
    rw [atS_none]
    intro y hy e
    obtain ⟨x, hx, rfl⟩ := List.mem_map.1 (h.perm.mem_iff.1 hy)
    exact hno x hx e
def Drawn (w w' : World) : Prop := ∃ m, w' = w.drewN m
theorem qfind_raw {w : World} {bq bm : Nat} {k : ByteArray} {u v : Value} (hv : v.cells = #[v]) (c1 : w.cell? ⟨bq, 1, none⟩ = some (.map (some bm))) (hl : (Instr.lookup 127 (.map (some bm)) (.string k) false).run Tryz.prog w = .ok u w) :
    Calls Tryz.prog 144 #[.pointer (some ⟨bq, 0, none⟩), .string k] w fun e w' => e = .returned u ∧ w = w' := by
  go_enter Tryz.func144, Tryz.ntmps144
  go_wp2
  go_ret
  exact ⟨rfl, rfl⟩
def AtPost (r : Option Int) (w : World) (e : Ending) (w' : World) : Prop := e = .returned (.tuple #[.int .i64 (r.getD 0), .bool r.isSome]) ∧ Drawn w w'
structure QPost (bq : Nat) (S' : List KT) (F : List Nat) (r : Value) (w : World) (e : Ending) (w' : World) : Prop where
  ret : e = .returned r
  now : ∃ F', IsQ w' bq S' F' ∧ Grew F F' w
  mod : Mod F w w'
/-! ### another time for an item that is there -/
def setT (L : List It) (i : Nat) (t : Int) : List It := L.set i ⟨(ith L i).blk, (ith L i).key, t⟩
theorem ith_setT {L : List It} {i : Nat} (hi : i < L.length) (t : Int) (k : Nat) : ith (setT L i t) k = if k = i then ⟨(ith L i).blk, (ith L i).key, t⟩ else ith L k := by
  simp only [setT, ith, List.getD_eq_getElem?_getD, List.getElem?_set]
  by_cases h : k = i
  · subst h; simp [hi]
  · simp [h, Ne.symm h]
theorem setT_blks {L : List It} {i : Nat} (hi : i < L.length) (t : Int) : blks (setT L i t) = blks L := by
  apply List.ext_getElem
  · simp [setT]
  · intro j h1 h2
    simp only [setT, List.getElem_map, List.getElem_set]
    split
    · rename_i e; subst e; simp [ith_lt hi]
    · rfl
theorem setT_keys {L : List It} {i : Nat} (hi : i < L.length) (t : Int) : (setT L i t).map It.key = L.map It.key := by
  apply List.ext_getElem
  · simp [setT]
  · intro j h1 h2
    simp only [setT, List.getElem_map, List.getElem_set]
    split
    · rename_i e; subst e; simp [ith_lt hi]
    · rfl
theorem setT_length (L : List It) (i : Nat) (t : Int) : (setT L i t).length = L.length := by simp [setT]
theorem HS.setT {w : World} {bq ba n cap : Nat} {L : List It} (h : HS w bq ba n cap L) {i : Nat} (hi : i < L.length) (t : Int) : HS (w.setCell ⟨(ith L i).blk, 1, none⟩ (.int .i64 t)) bq ba n cap (setT L i t) := by
  have ai : ba ≠ (ith L i).blk := fun e => h.ab (e ▸ blk_mem hi)
  have qi : bq ≠ (ith L i).blk := fun e => h.qb (e ▸ blk_mem hi)
  refine ⟨?_, by rw [setT_length]; exact h.len, h.room, h.capm, h.most, by rw [setT_blks hi]; exact h.nodup, ?_, fun k hk => ?_⟩
  · rw [World.cell?_setCell_other _ _ _ _ (by simp)]; exact h.cell
  · obtain ⟨C, hC, h2, h3⟩ := h.arr
    refine ⟨C, by rw [hp_setCell_other (by exact ai)]; exact hC, h2, fun k hk => ?_⟩
    rw [ith_setT hi]
    split
    · rename_i e; subst e; exact h3 k hk
    · exact h3 k hk
  · obtain ⟨T, hT⟩ := h.item k hk
    rw [ith_setT hi]
    by_cases e : k = i
    · subst e
      refine ⟨T, ?_⟩
      rw [if_pos rfl, hp_setCell_same hT]
      simp
    · refine ⟨T, ?_⟩
      rw [if_neg e, hp_setCell_other (by exact blk_ne h.nb (by have := h.len; omega) hi e)]
      exact hT
theorem gk_setT {L : List It} {i : Nat} (hi : i < L.length) (t : Int) : ∀ k, k ≠ i → gk (setT L i t) k = gk L k := by
  intro k hk
  unfold gk
  rw [ith_setT hi, if_neg hk]
theorem entR_perm {L L' : List It} (h : L'.Perm L) (k v : Value) : entR L' k v ↔ entR L k v := by
  unfold entR
  constructor
  · rintro ⟨x, hx, h1⟩; exact ⟨x, h.mem_iff.1 hx, h1⟩
  · rintro ⟨x, hx, h1⟩; exact ⟨x, h.mem_iff.2 hx, h1⟩
theorem entR_setT {L : List It} {i : Nat} (hi : i < L.length) (t : Int) (k v : Value) : entR (setT L i t) k v ↔ entR L k v := by
  have aux : ∀ L1 L2 : List It, blks L1 = blks L2 → L1.map It.key = L2.map It.key → ∀ k v, entR L1 k v → entR L2 k v := by
    rintro L1 L2 h1 h2 k v ⟨x, hx, rfl, rfl⟩
    obtain ⟨j, hj, rfl⟩ := List.mem_iff_getElem.1 hx
    have hl : L1.length = L2.length := by simpa using congrArg List.length h1
    have e1 : (blks L1)[j]? = (blks L2)[j]? := by rw [h1]
    have e2 : (L1.map It.key)[j]? = (L2.map It.key)[j]? := by rw [h2]
    simp [hj, (by omega : j < L2.length)] at e1 e2
    exact ⟨L2[j], List.getElem_mem _, by rw [e2], by simp [ptrV, e1]⟩
  exact ⟨aux _ _ (setT_blks hi t) (setT_keys hi t) k v, aux _ _ (setT_blks hi t).symm (setT_keys hi t).symm k v⟩
theorem qs_fixed {w w2 : World} {bq ba cap bm : Nat} {L L2 : List It} {S : List KT} {F : List Nat} (h : QS w bq (.slice (some ⟨ba, 0, none⟩) L.length cap) bm L S F) {i : Nat} (hi : i < L.length) (t : Int)
    (hp : HP bq ba L.length cap L.length (setT L i t) (w.setCell ⟨(ith L i).blk, 1, none⟩ (.int .i64 t)) L2 w2) (hh : HeapP L.length (gk L2)) :
    IsQ w2 bq (ins ((ith L i).key, t) (delS (ith L i).key S)) (bq :: bm :: ([ba] ++ blks L2)) ∧ Grew F (bq :: bm :: ([ba] ++ blks L2)) w ∧ Mod F w w2 := by
  have hl2 : L2.length = L.length := by rw [hp.perm.length_eq, setT_length]
  have hfp := h.fp
  have hpb : (blks L2).Perm (blks L) := by have := hp.perm.map It.blk; rw [show List.map It.blk (setT L i t) = blks L from setT_blks hi t] at this; exact this
  have hkp : (L2.map It.key).Perm (L.map It.key) := by have := hp.perm.map It.key; rw [setT_keys hi t] at this; exact this
  have hFp : (bq :: bm :: ([ba] ++ blks L2)).Perm F := by rw [hfp]; exact ((hpb.cons ba).cons bm).cons bq
  have hmod : Mod F w w2 := by
    have h1 : Mod F w (w.setCell ⟨(ith L i).blk, 1, none⟩ (.int .i64 t)) := (Mod.refl F w).setCell (Or.inl (by rw [hfp]; simp [Value.ownBlock, blk_mem hi])) _
    refine h1.trans hp.mod (fun b hb => Or.inl ?_)
    rw [setT_blks hi] at hb
    rw [hfp]
    rcases List.mem_cons.1 hb with rfl | hb
    · simp [Value.ownBlock]
    · simp [hb]
  have hnd := h.nodup
  rw [hfp] at hnd
  have hbq : bq ∉ ba :: blks (setT L i t) := by
    rw [setT_blks hi]; intro hm; exact (List.nodup_cons.1 hnd).1 (List.mem_cons_of_mem _ hm)
  have hbm : bm ∉ ba :: blks (setT L i t) := by
    rw [setT_blks hi]; exact (List.nodup_cons.1 (List.nodup_cons.1 hnd).2).1
  have hbi : (ith L i).blk ∈ ba :: blks L := List.mem_cons_of_mem _ (blk_mem hi)
  refine ⟨⟨.slice (some ⟨ba, 0, none⟩) L.length cap, bm, L2, ⟨?_, ?_, by rw [hl2]; exact hh, ?_, hkp.nodup_iff.2 h.keys, ?_, ?_, by simp [Value.ownBlock], hFp.nodup_iff.2 h.nodup, ?_, by rw [hl2]; exact h.most⟩⟩, ?_, hmod⟩
  · rw [hp.mod.block bq (by simpa using hp_lt h.q) hbq, hp_setCell_other]
    · exact h.q
    · intro e; rw [setT_blks hi] at hbq; exact hbq (by rw [show bq = (ith L i).blk from e]; exact hbi)
  · exact Or.inr ⟨ba, cap, by rw [hl2], by rw [hl2]; exact hp.hs⟩
  · have h1 : MapR Tryz.prog 9 w2 bm (entR L) L.length := h.mp.keep (by
      rw [hp.mod.block bm (by simpa using h.mp.lt) hbm, hp_setCell_other]
      intro e; rw [setT_blks hi] at hbm; exact hbm (by rw [show bm = (ith L i).blk from e]; exact hbi))
    rw [hl2]
    exact h1.congr (fun k v => (entR_perm hp.perm k v).trans (entR_setT hi t k v))
  · exact ins_row (delS_row h.row _) (fun y hy => (delS_mem.1 hy).2)
  · exact (perm_set h.keys h.perm hi t).1.trans (hp.perm.map It.kt).symm
  · intro x hx
    have := List.mem_map_of_mem (f := It.key) hx
    rw [hkp.mem_iff] at this
    obtain ⟨y, hy, e⟩ := List.mem_map.1 this
    rw [← e]; exact h.small y hy
  · exact fun b hb => Or.inl (hFp.mem_iff.1 hb)
theorem qset_arg {w : World} {bq : Nat} (k : ByteArray) (t : Int) (ht : t < 0 ∨ 1099511627776 < t) : Calls Tryz.prog 143 #[.pointer (some ⟨bq, 0, none⟩), .string k, .int .i64 t] w fun e w' => e = .returned (.int .i64 1) ∧ w = w' := by
  by_cases h0 : t < 0
  · clear ht
    go_enter Tryz.func143, Tryz.ntmps143
    go_wp2
    go_ret
    exact ⟨rfl, rfl⟩
  · have h1 : 1099511627776 < t := by omega
    have h0' : decide (t < 0) = false := by simp; omega
    clear ht h0
    go_enter Tryz.func143, Tryz.ntmps143
    go_wp2
    go_ret
    exact ⟨rfl, rfl⟩
theorem qset_there {w : World} {bq ba cap bm : Nat} {L : List It} {S : List KT} {F : List Nat} (h : QS w bq (.slice (some ⟨ba, 0, none⟩) L.length cap) bm L S F) (hs : HS w bq ba L.length cap L) {i : Nat} (hi : i < L.length) (t : Int) (h0 : 0 ≤ t) (h1 : t ≤ 1099511627776)
    (hl : (Instr.lookup 127 (.map (some bm)) (.string (ith L i).key) false).run Tryz.prog w = .ok (.pointer (some ⟨(ith L i).blk, 0, none⟩)) w) :
    Calls Tryz.prog 143 #[.pointer (some ⟨bq, 0, none⟩), .string (ith L i).key, .int .i64 t] w (QPost bq (ins ((ith L i).key, t) (delS (ith L i).key S)) F (.int .i64 0) w) := by
  obtain ⟨bi, ebi⟩ : ∃ b, (ith L i).blk = b := ⟨_, rfl⟩
  have c0 := hs.cell
  have c1 : w.cell? ⟨bq, 1, none⟩ = some (.map (some bm)) := cell_of h.q rfl
  have ct := hs.tm hi
  have cx := hs.ix hi
  have ft := hs.ifree hi 1
  have hs1 := hs.setT hi t
  have hx : ExceptP L.length (gk (setT L i t)) i := (h.heap.except i hi).other (fun k _ hk => gk_setT hi t k hk)
  have cf : ∀ m, Calls Tryz.prog 159 #[.iface 198 (.pointer (some ⟨bq, 0, none⟩)), .int .i64 i] ((w.setCell ⟨(ith L i).blk, 1, none⟩ (.int .i64 t)).drewN m) (QPost bq (ins ((ith L i).key, t) (delS (ith L i).key S)) F (.tuple #[]) w) := by
    intro m
    refine (fix_hs (hs1.drewN m) i hi hx).mono fun e w2 ⟨he, L2, hp, hh⟩ => ?_
    have hp' : HP bq ba L.length cap L.length (setT L i t) (w.setCell ⟨(ith L i).blk, 1, none⟩ (.int .i64 t)) L2 w2 := ⟨hp.hs, hp.perm, ⟨hp.mod.os, hp.mod.tape, hp.mod.output, hp.mod.size, hp.mod.block⟩, hp.above⟩
    obtain ⟨g1, g2, g3⟩ := qs_fixed h hi t hp' hh
    exact ⟨he, ⟨_, g1, g2⟩, g3⟩
  have E : ∀ w2, QPost bq (ins ((ith L i).key, t) (delS (ith L i).key S)) F (.tuple #[]) w (.returned (.tuple #[])) w2 → QPost bq (ins ((ith L i).key, t) (delS (ith L i).key S)) F (.int .i64 0) w (.returned (.int .i64 0)) w2 :=
    fun w2 hq => ⟨rfl, hq.now, hq.mod⟩
  rw [ebi] at ct cx ft cf hl
  generalize (ith L i).key = k at *
  have HF := Lib.hid cf
  have HE := Lib.hid E
  have hlm : (L.length : Int) ≤ 4096 := by have := h.most; omega
  clear cf E hs1 hx ebi h hs
  go_enter Tryz.func143, Tryz.ntmps143
  go_wp2_with fail
  have cx1 : (w.setCell ⟨bi, 1, none⟩ (.int .i64 t)).cell? ⟨bi, 2, none⟩ = some (.int .i64 i) := by rw [World.cell?_setCell_other _ _ _ _ (by simp)]; exact cx
  generalize w.setCell ⟨bi, 1, none⟩ (.int .i64 t) = w1 at *
  go_still_tail 8, (by kernel_rfl)
  change wpList _ _ _ _ _ (w1.drewN 1)
  go_wp2_with fail
  refine (HF.out 1).mono ?_
  rintro e w2 hq
  obtain rfl := hq.ret
  have hq := Lib.hid (HE.out w2 hq)
  go_wp2_with fail
  go_ret
  exact hq.out
theorem qset_full {w : World} {bq bm : Nat} {a : Option Addr} {n cap : Nat} (k : ByteArray) (t : Int) (h0 : 0 ≤ t) (h1 : t ≤ 1099511627776) (hn : 1024 ≤ n) (hn2 : n ≤ 4096) (c0 : w.cell? ⟨bq, 0, none⟩ = some (.slice a n cap)) (c1 : w.cell? ⟨bq, 1, none⟩ = some (.map (some bm)))
    (hl : (Instr.lookup 127 (.map (some bm)) (.string k) false).run Tryz.prog w = .ok (.pointer none) w) :
    Calls Tryz.prog 143 #[.pointer (some ⟨bq, 0, none⟩), .string k, .int .i64 t] w fun e w' => e = .returned (.int .i64 9) ∧ w = w' := by
  go_enter Tryz.func143, Tryz.ntmps143
  go_wp2
  go_ret
  exact ⟨rfl, rfl⟩
theorem QS.owns {w : World} {bq : Nat} {v : Value} {bm : Nat} {L : List It} {S : List KT} {F : List Nat} (h : QS w bq v bm L S F) : w.ownsRow 0 195 1 v L.length (L.map ptrV) := by
  rcases h.st with ⟨rfl, rfl⟩ | ⟨ba, cap, rfl, hs⟩
  · exact ⟨by simp, Or.inl ⟨rfl, rfl⟩⟩
  · exact hs.owns
theorem QS.items {w : World} {bq : Nat} {v : Value} {bm : Nat} {L : List It} {S : List KT} {F : List Nat} (h : QS w bq v bm L S F) :
    ∀ i, i < L.length → ∃ T, w.heap[(ith L i).blk]? = some (.cells #[.string (ith L i).key, .int .i64 (ith L i).tm, .int .i64 i] T (0, 0)) := by
  rcases h.st with ⟨_, rfl⟩ | ⟨ba, cap, _, hs⟩
  · intro i hi; simp at hi
  · exact hs.item
theorem entR_new {L L' : List It} {k : ByteArray} {b : Nat} {t : Int} (h : L'.Perm (L ++ [⟨b, k, t⟩])) (hno : ∀ x ∈ L, x.key ≠ k) (key v : Value) :
    entR L' key v ↔ ((key = .string k ∧ v = .pointer (some ⟨b, 0, none⟩)) ∨ (key ≠ .string k ∧ entR L key v)) := by
  rw [entR_perm h]
  unfold entR
  constructor
  · rintro ⟨x, hx, rfl, rfl⟩
    rcases List.mem_append.1 hx with hx | hx
    · exact Or.inr ⟨by simpa using hno x hx, x, hx, rfl, rfl⟩
    · simp at hx; subst hx; exact Or.inl ⟨rfl, rfl⟩
  · rintro (⟨rfl, rfl⟩ | ⟨_, x, hx, rfl, rfl⟩)
    · exact ⟨⟨b, k, t⟩, List.mem_append_right _ (by simp), rfl, rfl⟩
    · exact ⟨x, List.mem_append_left _ hx, rfl, rfl⟩
theorem qset_new {w : World} {bq bm : Nat} {v : Value} {L : List It} {S : List KT} {F : List Nat} (h : QS w bq v bm L S F) {k : ByteArray} (hk : k.size ≤ maxLen) (t : Int) (h0 : 0 ≤ t) (h1 : t ≤ 1099511627776) (hn : L.length < 1024)
    (hno : ∀ x ∈ L, x.key ≠ k) (hl : (Instr.lookup 127 (.map (some bm)) (.string k) false).run Tryz.prog w = .ok (.pointer none) w) :
    Calls Tryz.prog 143 #[.pointer (some ⟨bq, 0, none⟩), .string k, .int .i64 t] w (QPost bq (ins (k, t) (delS k S)) F (.int .i64 0) w) := by
  obtain ⟨a, cap, hv⟩ := h.val
  have hkey := WideMaps.keyOf_string_mk Tryz.underlying9 hk
  have lq := hp_lt h.q
  have lm := h.mp.lt
  have hfp := h.fp
  obtain ⟨w2, hrun, hturn, hc⟩ := (h.mp.keep (w' := w.alloc (.cells #[.string k, .int .i64 t, .int .i64 0] 200)) (hp_alloc_old lm)).put strLaw Tryz.underlying127 (val := .pointer (some ⟨w.heap.size, 0, none⟩)) hkey
  have hm2 : MapR Tryz.prog 9 w2 bm (fun key v => (key = .string k ∧ v = .pointer (some ⟨w.heap.size, 0, none⟩)) ∨ (key ≠ .string k ∧ entR L key v)) (L.length + 1) := by
    rcases hc with ⟨⟨v, x, hx, e, _⟩, _⟩ | ⟨_, hm⟩
    · simp only [Value.string.injEq] at e; exact absurd e.symm (hno x hx)
    · exact hm
  have hnd := h.nodup
  have hlt := h.lt
  rw [hfp] at hnd hlt
  have old : ∀ b, b ∈ F → b ≠ bm → w2.heap[b]? = w.heap[b]? := fun b hb hbm => by
    rw [hturn.block b hbm, hp_alloc_old (h.lt b hb)]
  have hbqm : bq ≠ bm := by intro e; exact (List.nodup_cons.1 hnd).1 (by simp [e])
  have hq2 : w2.heap[bq]? = some (.cells #[v, .map (some bm)] 131 (0, 0)) := by rw [old bq (by rw [hfp]; simp) hbqm]; exact h.q
  have hbl : ∀ b, b ∈ v.ownBlock.toList ++ blks L → b ≠ bm := by
    intro b hb e; subst e; exact (List.nodup_cons.1 (List.nodup_cons.1 hnd).2).1 hb
  have hown2 : w2.ownsRow 0 195 1 v L.length (L.map ptrV) := by
    obtain ⟨g1, g2⟩ := h.owns
    refine ⟨g1, ?_⟩
    rcases g2 with g2 | ⟨g, cap2, cur, rfl, g3, g4, g5⟩
    · exact Or.inl g2
    · exact Or.inr ⟨g, cap2, cur, rfl, g3, by rw [old g (by rw [hfp]; simp [Value.ownBlock]) (hbl g (by simp [Value.ownBlock]))]; exact g4, g5⟩
  have hit2 : ∀ i, i < L.length → ∃ T, w2.heap[(ith L i).blk]? = some (.cells #[.string (ith L i).key, .int .i64 (ith L i).tm, .int .i64 i] T (0, 0)) := by
    intro i hi
    obtain ⟨T, hT⟩ := h.items i hi
    exact ⟨T, by rw [old _ (by rw [hfp]; simp [blk_mem hi]) (hbl _ (List.mem_append_right _ (blk_mem hi)))]; exact hT⟩
  have hbi2 : w2.heap[w.heap.size]? = some (.cells #[.string k, .int .i64 t, .int .i64 0] 200 (0, 0)) := by
    rw [hturn.block _ (by omega)]; exact hp_alloc_new
  have hnd2 : (bq :: w.heap.size :: v.ownBlock.toList ++ blks L).Nodup := by
    have n1 := List.nodup_cons.1 hnd
    have n2 := List.nodup_cons.1 n1.2
    refine List.nodup_cons.2 ⟨?_, List.nodup_cons.2 ⟨?_, n2.2⟩⟩
    · intro hm
      rcases List.mem_cons.1 hm with e | hm
      · omega
      · exact n1.1 (List.mem_cons_of_mem _ hm)
    · intro hm
      have := hlt _ (List.mem_cons_of_mem _ (List.mem_cons_of_mem _ hm))
      omega
  have cp := push_hs (m := .map (some bm)) a cap hv rfl (by omega) hq2 hown2 hit2 hbi2 hnd2 h.heap
  have hsz2 : w2.heap.size = w.heap.size + 1 := by rw [hturn.size]; simp
  have E : ∀ w3, PushedPost bq w.heap.size L.length v (.map (some bm)) L k t w2 (.returned (.tuple #[])) w3 → QPost bq (ins (k, t) (delS k S)) F (.int .i64 0) w (.returned (.int .i64 0)) w3 := by
    intro w3 hp
    obtain ⟨ba, cap', L', g1, g2, g3, g4, g5, g6⟩ := hp.now
    have hl' : L'.length = L.length + 1 := by have := g3.length_eq; simpa using this
    have hbm6 : bm ∉ bq :: w.heap.size :: v.ownBlock.toList ++ blks L := by
      intro hm
      rcases List.mem_cons.1 hm with e | hm
      · exact hbqm e.symm
      · rcases List.mem_cons.1 hm with e | hm
        · omega
        · exact hbl bm hm rfl
    have hm3 : MapR Tryz.prog 9 w3 bm (entR L') L'.length := by
      have := hm2.keep (g6.block bm (hm2.lt) hbm6)
      rw [hl']
      exact this.congr (fun key v => entR_new g3 hno key v)
    have hpb : (blks L').Perm (w.heap.size :: blks L) := by
      have := g3.map It.blk
      simp only [List.map_append, List.map_cons, List.map_nil] at this
      exact this.trans (List.perm_append_singleton _ _)
    have hpk : (L'.map It.key).Perm (k :: L.map It.key) := by
      have := g3.map It.key
      simp only [List.map_append, List.map_cons, List.map_nil] at this
      exact this.trans (List.perm_append_singleton _ _)
    have hnoS : ∀ y ∈ S, y.1 ≠ k := by
      intro y hy e
      obtain ⟨x, hx, rfl⟩ := List.mem_map.1 (h.perm.mem_iff.1 hy)
      exact hno x hx e
    have hba : ba < w3.heap.size := by obtain ⟨C, hC, _⟩ := g2.arr; exact hp_lt hC
    have hg : Grew F (bq :: bm :: ([ba] ++ blks L')) w := by
      intro b hb
      simp only [List.mem_cons, List.singleton_append] at hb
      rcases hb with rfl | rfl | rfl | hb
      · left; rw [hfp]; simp
      · left; rw [hfp]; simp
      · rcases g5 with g5 | g5
        · left; rw [hfp, g5]; simp
        · right; omega
      · rcases List.mem_cons.1 (hpb.mem_iff.1 hb) with rfl | hb
        · right; exact Nat.le_refl _
        · left; rw [hfp]; simp [hb]
    refine ⟨rfl, ⟨bq :: bm :: ([ba] ++ blks L'), ⟨.slice (some ⟨ba, 0, none⟩) (L.length + 1) cap', bm, L', ⟨g1, Or.inr ⟨ba, cap', by rw [hl'], by rw [hl']; exact g2⟩, by rw [hl']; exact g4, hm3, ?_, ?_, ?_, by simp [Value.ownBlock], ?_, ?_, by omega⟩⟩, hg⟩, ?_⟩
    · rw [hpk.nodup_iff]
      refine List.nodup_cons.2 ⟨fun hm => ?_, h.keys⟩
      obtain ⟨x, hx, e⟩ := List.mem_map.1 hm
      exact hno x hx e
    · rw [delS_none hnoS]; exact ins_row h.row hnoS
    · rw [delS_none hnoS]; exact perm_new h.perm ⟨w.heap.size, k, t⟩ g3
    · have q1 := g2.nodup
      have q2 := List.nodup_cons.1 q1
      refine List.nodup_cons.2 ⟨fun hm => ?_, List.nodup_cons.2 ⟨fun hm => ?_, q2.2⟩⟩
      · rcases List.mem_cons.1 hm with e | hm
        · exact hbqm e
        · exact q2.1 hm
      · rcases List.mem_cons.1 hm with e | hm
        · subst e
          rcases g5 with g5 | g5
          · exact hbl bm (by simp [g5]) rfl
          · omega
        · rcases List.mem_cons.1 (hpb.mem_iff.1 hm) with e | hm
          · omega
          · exact hbl bm (List.mem_append_right _ hm) rfl
    · intro x hx
      rcases List.mem_append.1 (g3.mem_iff.1 hx) with hx | hx
      · exact h.small x hx
      · simp at hx; subst hx; exact hk
    · have m1 : Mod F w (w.alloc (.cells #[.string k, .int .i64 t, .int .i64 0] 200)) := (Mod.refl F w).alloc _
      have m2 : Mod F w w2 := m1.trans hturn.mod (fun b hb => Or.inl (by simp at hb; subst hb; rw [hfp]; simp))
      refine m2.trans g6 (fun b hb => ?_)
      rcases List.mem_cons.1 hb with rfl | hb
      · left; rw [hfp]; simp
      · rcases List.mem_cons.1 hb with rfl | hb
        · right; exact Nat.le_refl _
        · left; rw [hfp]; exact List.mem_cons_of_mem _ (List.mem_cons_of_mem _ hb)
  have c0 : w.cell? ⟨bq, 0, none⟩ = some (.slice a L.length cap) := by rw [← hv]; exact cell_of h.q rfl
  have c1 : w.cell? ⟨bq, 1, none⟩ = some (.map (some bm)) := cell_of h.q rfl
  have c3 : w2.cell? ⟨bq, 0, none⟩ = some (.slice a L.length cap) := by rw [← hv]; exact cell_of hq2 rfl
  have hlm : (L.length : Int) < 1024 := by omega
  have HE := Lib.hid E
  have HP := Lib.hid cp
  have hsz2' := Lib.hid hsz2
  have hkk := Lib.hid hkey
  clear E cp hbi2 hit2 hown2 hq2 hbl hbqm old hlt hnd hm2 hc hturn hfp hv hnd2 hsz2 hkey h hno lm
  go_enter Tryz.func143, Tryz.ntmps143
  go_wp2_with fail
  refine HP.out.mono ?_
  rintro e w3 hp
  obtain rfl := hp.ret
  have hp := Lib.hid (HE.out w3 hp)
  go_wp2_with fail
  go_ret
  exact hp.out
theorem qset {w : World} {bq : Nat} {S : List KT} {F : List Nat} (h : IsQ w bq S F) {k : ByteArray} (hk : k.size ≤ maxLen) (t : Int) :
    Calls Tryz.prog 143 #[.pointer (some ⟨bq, 0, none⟩), .string k, .int .i64 t] w (QPost bq (setS S k t).1 F (.int .i64 (setS S k t).2) w) := by
  by_cases ht : t < 0 ∨ 1099511627776 < t
  · rw [setS, if_pos ht]
    exact (qset_arg k t ht).mono fun e w' ⟨he, hw⟩ => by subst hw; exact ⟨he, ⟨F, h, Grew.refl _ _⟩, Mod.refl _ _⟩
  · have hh := h
    obtain ⟨v, bm, L, h⟩ := h
    have h0 : 0 ≤ t := by omega
    have h1 : t ≤ 1099511627776 := by omega
    rcases h.find hk with ⟨i, hi, e1, e2, e3⟩ | ⟨e1, e2, e3⟩
    · rw [setS, if_neg ht, if_neg (by rw [e2]; simp)]
      rcases h.st with ⟨_, rfl⟩ | ⟨ba, cap, rfl, hs⟩
      · simp at hi
      · subst e1
        exact qset_there h hs hi t h0 h1 e3
    · have hl := h.len
      by_cases hn : 1024 ≤ L.length
      · rw [setS, if_neg ht, if_pos ⟨e1, by omega⟩]
        obtain ⟨a, cap, hv⟩ := h.val
        have hm := h.most
        exact (qset_full k t h0 h1 hn (by omega) (by rw [← hv]; exact cell_of h.q rfl) (cell_of h.q rfl) e3).mono fun e w' ⟨he, hw⟩ => by subst hw; exact ⟨he, ⟨F, hh, Grew.refl _ _⟩, Mod.refl _ _⟩
      · rw [setS, if_neg ht, if_neg (by omega)]
        exact qset_new h hk t h0 h1 (by omega) e2 e3
def NewPost (w : World) (e : Ending) (w' : World) : Prop := ∃ bq F, e = .returned (.pointer (some ⟨bq, 0, none⟩)) ∧ IsQ w' bq [] F ∧ (∀ b ∈ F, w.heap.size ≤ b) ∧ Mod [] w w'
theorem new_world (w : World) : NewPost w (.returned (.pointer (some ⟨w.heap.size + 1, 0, none⟩))) ((w.alloc (.map #[] 0)).alloc (.cells #[.slice none 0 0, .map (some w.heap.size)] 131)) := by
  refine ⟨w.heap.size + 1, [w.heap.size + 1, w.heap.size], rfl, ⟨.slice none 0 0, w.heap.size, [], ?_, Or.inl ⟨rfl, rfl⟩, ?_, ?_, by simp, by simp [Row], by simp, by simp [Value.ownBlock], by simp, by simp, by simp⟩, ?_, ?_⟩
  · exact hp_alloc_at (by simp)
  · intro c h0 h1; simp at h1
  · have := map_made Tryz.prog 9 w
    exact (this.keep (hp_alloc_old (by simp))).congr (fun k v => by simp [entR])
  · intro b hb; simp at hb; omega
  · exact ((Mod.refl [] w).alloc _).alloc _
theorem qnew (w : World) : Calls Tryz.prog 31 #[] w (NewPost w) := by
  have HE := Lib.hid (new_world w)
  have hmm := @run_makeMap Tryz.prog
  go_enter Tryz.func31, Tryz.ntmps31
  go_wp2_with fail
  go_ret
  exact HE.out
theorem qdrop_none {w : World} {bq bm : Nat} {k : ByteArray} (c1 : w.cell? ⟨bq, 1, none⟩ = some (.map (some bm))) (hl : (Instr.lookup 127 (.map (some bm)) (.string k) false).run Tryz.prog w = .ok (.pointer none) w) :
    Calls Tryz.prog 125 #[.pointer (some ⟨bq, 0, none⟩), .string k] w fun e w' => e = .returned (.bool false) ∧ w = w' := by
  have cf := qfind_raw (v := .pointer none) rfl c1 hl
  clear c1 hl
  go_enter Tryz.func125, Tryz.ntmps125
  go_wp2_with fail
  refine cf.mono ?_
  rintro e w1 ⟨rfl, rfl⟩
  go_wp2_with fail
  go_ret
  exact ⟨rfl, rfl⟩
theorem entR_less {L L' : List It} {x : It} (h : (L' ++ [x]).Perm L) (hk : (L.map It.key).Nodup) (key v : Value) : entR L' key v ↔ (key ≠ .string x.key ∧ entR L key v) := by
  have hk' : ((L' ++ [x]).map It.key).Nodup := (h.map It.key).nodup_iff.2 hk
  rw [List.map_append] at hk'
  rw [← entR_perm h]
  unfold entR
  constructor
  · rintro ⟨y, hy, rfl, rfl⟩
    refine ⟨?_, y, List.mem_append_left _ hy, rfl, rfl⟩
    have := (List.nodup_append.1 hk').2.2 y.key (List.mem_map_of_mem hy) x.key (by simp)
    simpa using this
  · rintro ⟨hne, y, hy, rfl, rfl⟩
    rcases List.mem_append.1 hy with hy | hy
    · exact ⟨y, hy, rfl, rfl⟩
    · simp at hy; subst hy; exact absurd rfl hne
theorem qdrop_there {w : World} {bq ba cap bm : Nat} {L : List It} {S : List KT} {F : List Nat} (h : QS w bq (.slice (some ⟨ba, 0, none⟩) L.length cap) bm L S F) (hs : HS w bq ba L.length cap L) {i : Nat} (hi : i < L.length) {k : ByteArray} (hk : k.size ≤ maxLen) (hki : (ith L i).key = k)
    (hl : (Instr.lookup 127 (.map (some bm)) (.string k) false).run Tryz.prog w = .ok (.pointer (some ⟨(ith L i).blk, 0, none⟩)) w) :
    Calls Tryz.prog 125 #[.pointer (some ⟨bq, 0, none⟩), .string k] w (QPost bq (delS k S) F (.bool true) w) := by
  have cf := qfind_raw (v := .pointer none) rfl (cell_of h.q rfl) hl
  obtain ⟨n, hn⟩ : ∃ n, L.length = n + 1 := ⟨L.length - 1, by omega⟩
  have cx := hs.ix hi
  have hkey := WideMaps.keyOf_string_mk Tryz.underlying9 hk
  have cr : ∀ m, Calls Tryz.prog 145 #[.iface 198 (.pointer (some ⟨bq, 0, none⟩)), .int .i64 i] (w.drewN m) (RemPost bq ba n cap (.map (some bm)) L (ith L i) (w.drewN m)) := fun m =>
    remove_hs (by have := hs.drewN m; rwa [hn] at this) (by have := h.q; rwa [hn] at this) (by have := h.heap; rwa [hn] at this) i (by omega)
  have hfp := h.fp
  have hnd := h.nodup
  rw [hfp] at hnd
  have hbm : bm ∉ bq :: ba :: blks L := by
    intro hm
    rcases List.mem_cons.1 hm with e | hm
    · exact (List.nodup_cons.1 hnd).1 (by simp [e])
    · exact (List.nodup_cons.1 (List.nodup_cons.1 hnd).2).1 (by simpa [Value.ownBlock] using hm)
  have D : ∀ m e w2, RemPost bq ba n cap (.map (some bm)) L (ith L i) (w.drewN m) e w2 →
      w2.cell? ⟨bq, 1, none⟩ = some (.map (some bm)) ∧ ∃ w3, (Builtin.delete_ #[127, 9] 0 #[.map (some bm), .string k]).run Tryz.prog w2 = .ok (.tuple #[]) w3 ∧ QPost bq (delS k S) F (.bool true) w (.returned (.bool true)) w3 := by
    intro m e w2 hr
    obtain ⟨L', g1, g2, g3, g4⟩ := hr.now
    have hl' : L'.length = n := by have := g3.length_eq; simp at this; omega
    have hmod0 : Mod (bq :: ba :: blks L) w w2 := ⟨hr.mod.os, hr.mod.tape, hr.mod.output, hr.mod.size, hr.mod.block⟩
    have hm2 : MapR Tryz.prog 9 w2 bm (entR L) (n + 1) := by have := h.mp.keep (hmod0.block bm h.mp.lt hbm); rwa [hn] at this
    obtain ⟨w3, r1, r2, r3⟩ := hm2.del strLaw Tryz.underlying127 hkey 9 0
    have hm3 : MapR Tryz.prog 9 w3 bm (entR L') n := by
      rcases r3 with ⟨_, r3, _⟩ | ⟨r3, _⟩
      · exact r3.congr (fun key v => by rw [← hki]; exact entR_less g3 h.keys key v)
      · exact absurd ⟨ith L i, ith_mem hi, by rw [hki], rfl⟩ (r3 (ptrV (ith L i)))
    have hpb : ((blks L') ++ [(ith L i).blk]).Perm (blks L) := by have := g3.map It.blk; simpa using this
    have hsub : ∀ b, b ∈ blks L' → b ∈ blks L := fun b hb => hpb.mem_iff.1 (List.mem_append_left _ hb)
    have hq3 : w3.heap[bq]? = some (.cells #[.slice (some ⟨ba, 0, none⟩) n cap, .map (some bm)] 131 (0, 0)) := by
      rw [r2.block bq (fun e => hbm (by simp [e]))]; exact g1
    refine ⟨cell_of g1 rfl, w3, r1, rfl, ⟨bq :: bm :: ([ba] ++ blks L'), ⟨.slice (some ⟨ba, 0, none⟩) n cap, bm, L', hq3, Or.inr ⟨ba, cap, by rw [hl'], ?_⟩, by rw [hl']; exact g4, by rw [hl']; exact hm3, ?_, delS_row h.row k, ?_, by simp [Value.ownBlock], ?_, ?_, ?_⟩, ?_⟩, ?_⟩
    · rw [hl']
      refine g2.keep (fun b hb => r2.block b ?_)
      rintro rfl
      rcases List.mem_cons.1 hb with e | hb
      · exact hbm (by simp [e])
      · rcases List.mem_cons.1 hb with e | hb
        · exact hbm (by simp [e])
        · exact hbm (by simp [hsub _ hb])
    · have := (g3.map It.key).nodup_iff.2 h.keys
      rw [List.map_append] at this
      exact (List.nodup_append.1 this).1
    · rw [← hki]; exact perm_less h.keys h.perm _ g3
    · have := (((hpb.cons ba).cons bm).cons bq).nodup_iff.2 (by simpa [Value.ownBlock] using hnd)
      exact this.sublist (List.Sublist.cons_cons bq (List.Sublist.cons_cons bm (List.Sublist.cons_cons ba (List.sublist_append_left _ _))))
    · intro x hx; exact h.small x (g3.mem_iff.1 (List.mem_append_left _ hx))
    · have := h.most; omega
    · intro b hb
      left; rw [hfp]
      simp only [List.mem_cons, List.singleton_append] at hb
      rcases hb with rfl | rfl | rfl | hb
      · simp
      · simp
      · simp [Value.ownBlock]
      · simp [hsub b hb]
    · have m1 : Mod F w w2 := hmod0.mono (fun b hb => by
        rw [hfp]
        rcases List.mem_cons.1 hb with rfl | hb
        · simp
        · rcases List.mem_cons.1 hb with rfl | hb
          · simp [Value.ownBlock]
          · simp [hb])
      exact m1.trans r2.mod (fun b hb => Or.inl (by simp at hb; subst hb; rw [hfp]; simp))
  have HD := Lib.hid D
  have HR := Lib.hid cr
  generalize (ith L i).blk = bi at *
  generalize ith L i = x at *
  clear D cr hfp hnd hbm hkey hn hl h hs hki
  go_enter Tryz.func125, Tryz.ntmps125
  go_wp2_with fail
  refine cf.mono ?_
  rintro e w1 ⟨rfl, rfl⟩
  go_wp2_with fail
  go_still_tail 8, (by kernel_rfl)
  change wpList _ _ _ _ _ (w.drewN 1)
  go_wp2_with fail
  refine (HR.out 1).mono ?_
  rintro e w2 hr
  obtain ⟨c1, w3, hrun, hq⟩ := HD.out 1 e w2 hr
  obtain ⟨u, rfl⟩ := hr.ret
  have hq := Lib.hid hq
  clear hr
  go_wp2_with fail
  go_ret
  exact hq.out
theorem qdrop {w : World} {bq : Nat} {S : List KT} {F : List Nat} (h : IsQ w bq S F) {k : ByteArray} (hk : k.size ≤ maxLen) :
    Calls Tryz.prog 125 #[.pointer (some ⟨bq, 0, none⟩), .string k] w (QPost bq (delS k S) F (.bool (atS S k).isSome) w) := by
  have hh := h
  obtain ⟨v, bm, L, h⟩ := h
  rcases h.find hk with ⟨i, hi, e1, e2, e3⟩ | ⟨e1, e2, e3⟩
  · rw [e2]
    rcases h.st with ⟨_, rfl⟩ | ⟨ba, cap, rfl, hs⟩
    · simp at hi
    · exact qdrop_there h hs hi hk e1 e3
  · rw [e1, delS_none (atS_none.1 e1)]
    exact (qdrop_none (cell_of h.q rfl) e3).mono fun e w' ⟨he, hw⟩ => by subst hw; exact ⟨he, ⟨F, hh, Grew.refl _ _⟩, Mod.refl _ _⟩
def Strs (w : World) (v : Value) (l : List ByteArray) : Prop := w.ownsRow 0 9 1 v l.length (l.map Value.string)
theorem Strs.lt {w : World} {v : Value} {l : List ByteArray} (h : Strs w v l) : ∀ b, v.ownBlock = some b → b < w.heap.size := by
  obtain ⟨h1, h2⟩ := h
  rcases h2 with ⟨rfl, _⟩ | ⟨g, cap, cur, rfl, h3, h4, h5⟩
  · intro b hb; cases hb
  · intro b hb; cases hb; exact hp_lt h4
theorem Strs.nil (w : World) : Strs w (.slice none 0 0) [] := ⟨rfl, Or.inl ⟨rfl, rfl⟩⟩
structure DuePost (bq : Nat) (S : List KT) (now : Int) (F : List Nat) (w : World) (e : Ending) (w' : World) : Prop where
  ret : ∃ v, e = .returned v ∧ Strs w' v (dueK S now) ∧ (∀ b, v.ownBlock = some b → w.heap.size ≤ b) ∧ ∃ F', IsQ w' bq (dueR S now) F' ∧ Grew F F' w ∧ ∀ b, v.ownBlock = some b → b ∉ F'
  mod : Mod F w w'
def DueRel (bq : Nat) (S : List KT) (now : Int) (F : List Nat) (w : World) (v : Value) (wr : World) : Prop :=
  ∃ S1 S2 F2, S = S1 ++ S2 ∧ (∀ x ∈ S1, x.2 ≤ now) ∧ Strs wr v (S1.map (·.1)) ∧ (∀ b, v.ownBlock = some b → w.heap.size ≤ b) ∧ IsQ wr bq S2 F2 ∧ Grew F F2 w ∧ (∀ b, v.ownBlock = some b → b ∉ F2) ∧ Mod F w wr
def qLeft (bq : Nat) (w : World) : Nat := match w.cell? ⟨bq, 0, none⟩ with | some (.slice _ n _) => n | _ => 0
def kA : ByteArray := ⟨#[97]⟩
def kB : ByteArray := ⟨#[98]⟩
def kC : ByteArray := ⟨#[99]⟩
def TruePost (w : World) (e : Ending) (w' : World) : Prop := e = .returned (.bool true) ∧ Mod [] w w'
def OwnQ (w0 : World) (w : World) (bq : Nat) (S : List KT) : Prop := ∃ F, IsQ w bq S F ∧ (∀ b ∈ F, w0.heap.size ≤ b) ∧ Mod [] w0 w
theorem OwnQ.drewN {w0 w : World} {bq : Nat} {S : List KT} (h : OwnQ w0 w bq S) (m : Nat) : OwnQ w0 (w.drewN m) bq S := by
  obtain ⟨F, hq, hF, hm⟩ := h
  exact ⟨F, hq.keep (fun _ _ => rfl), hF, hm.drewN m⟩
end Go.Proofs.YtgapbecddgfkmaaGreat
