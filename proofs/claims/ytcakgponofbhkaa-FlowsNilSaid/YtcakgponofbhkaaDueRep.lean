/- A queue in memory: its heap, its map, and the row of keys that it stands for. -/
import Derived.Test.YtcakgponofbhkaaMaps
import Derived.Test.YtcakgponofbhkaaDuePlain
import Derived.Test.YtcakgponofbhkaaHeapRemove
import Derived.StringKeys
namespace Go.Proofs.Ytcakgponofbhkaa
open Go.RowKit
open Go.Maps (Keyed)
set_option linter.unusedVariables false
set_option maxRecDepth 100000

theorem strLaw : Keyed Try.prog 9 := Keyed.of_law (Go.WideMaps.string_law Try.underlying9)

def entR (L : List It) (k v : Value) : Prop := ∃ x ∈ L, k = .string x.key ∧ v = ptrV x

/-- The queue at bq: the slice v, the map bm, the items L, in the order of the heap; the row S; its blocks F. -/
structure QS (w : World) (bq : Nat) (v : Value) (bm : Nat) (L : List It) (S : List KT) (F : List Nat) : Prop where
  q : w.heap[bq]? = some (.cells #[v, .map (some bm)] 121 (0, 0))
  st : (v = .slice none 0 0 ∧ L = []) ∨ ∃ ba cap, v = .slice (some ⟨ba, 0, none⟩) L.length cap ∧ HS w bq ba L.length cap L
  heap : HeapP L.length (gk L)
  mp : MapR Try.prog 9 w bm (entR L) L.length
  keys : (L.map It.key).Nodup
  row : Row S
  perm : S.Perm (L.map It.kt)
  fp : F = bq :: bm :: (v.ownBlock.toList ++ blks L)
  nodup : F.Nodup
  small : ∀ x ∈ L, x.key.size ≤ maxLen
  most : L.length ≤ 1024

def IsQ (w : World) (bq : Nat) (S : List KT) (F : List Nat) : Prop := ∃ v bm L, QS w bq v bm L S F

theorem HS.keep {w w' : World} {bq ba n cap : Nat} {L : List It} (h : HS w bq ba n cap L) (hb : ∀ b ∈ bq :: ba :: blks L, w'.heap[b]? = w.heap[b]?) : HS w' bq ba n cap L := by
  refine ⟨?_, h.len, h.room, h.capm, h.most, h.nodup, ?_, fun i hi => ?_⟩
  · rw [World.cell?_of_block (a := ⟨bq, 0, none⟩) (hb bq (by simp))]; exact h.cell
  · rw [hb ba (by simp)]; exact h.arr
  · rw [hb _ (List.mem_cons_of_mem _ (List.mem_cons_of_mem _ (blk_mem (by have := h.len; omega))))]; exact h.item i hi

theorem QS.keep {w w' : World} {bq : Nat} {v : Value} {bm : Nat} {L : List It} {S : List KT} {F : List Nat} (h : QS w bq v bm L S F) (hb : ∀ b ∈ F, w'.heap[b]? = w.heap[b]?) : QS w' bq v bm L S F := by
  have hf := h.fp
  refine ⟨?_, ?_, h.heap, h.mp.keep (hb bm (by rw [hf]; simp)), h.keys, h.row, h.perm, h.fp, h.nodup, h.small, h.most⟩
  · rw [hb bq (by rw [hf]; simp)]; exact h.q
  · rcases h.st with h1 | ⟨ba, cap, h1, h2⟩
    · exact Or.inl h1
    · refine Or.inr ⟨ba, cap, h1, h2.keep (fun b hm => hb b ?_)⟩
      rw [hf, h1]
      simp only [List.mem_cons] at hm
      rcases hm with rfl | rfl | hm
      · simp
      · simp [Value.ownBlock]
      · simp [Value.ownBlock, hm]
theorem IsQ.keep {w w' : World} {bq : Nat} {S : List KT} {F : List Nat} (h : IsQ w bq S F) (hb : ∀ b ∈ F, w'.heap[b]? = w.heap[b]?) : IsQ w' bq S F := by
  obtain ⟨v, bm, L, h⟩ := h
  exact ⟨v, bm, L, h.keep hb⟩
theorem QS.lt {w : World} {bq : Nat} {v : Value} {bm : Nat} {L : List It} {S : List KT} {F : List Nat} (h : QS w bq v bm L S F) : ∀ b ∈ F, b < w.heap.size := by
  intro b hb
  rw [h.fp] at hb
  simp only [List.mem_cons, List.mem_append] at hb
  rcases hb with rfl | rfl | hb | hb
  · exact hp_lt h.q
  · exact h.mp.lt
  · rcases h.st with ⟨rfl, _⟩ | ⟨ba, cap, rfl, h2⟩
    · simp [Value.ownBlock] at hb
    · simp [Value.ownBlock] at hb
      subst hb
      obtain ⟨C, hC, _⟩ := h2.arr
      exact hp_lt hC
  · rcases h.st with ⟨_, rfl⟩ | ⟨ba, cap, _, h2⟩
    · simp at hb
    · obtain ⟨x, hx, rfl⟩ := List.mem_map.1 hb
      obtain ⟨i, hi, rfl⟩ := List.mem_iff_getElem.1 hx
      obtain ⟨T, hT⟩ := h2.item i hi
      rw [ith_lt hi] at hT
      exact hp_lt hT
theorem IsQ.lt {w : World} {bq : Nat} {S : List KT} {F : List Nat} (h : IsQ w bq S F) : ∀ b ∈ F, b < w.heap.size := by
  obtain ⟨v, bm, L, h⟩ := h
  exact h.lt
theorem IsQ.row {w : World} {bq : Nat} {S : List KT} {F : List Nat} (h : IsQ w bq S F) : Row S := by obtain ⟨v, bm, L, h⟩ := h; exact h.row
theorem IsQ.keys {w : World} {bq : Nat} {S : List KT} {F : List Nat} (h : IsQ w bq S F) : Keys1 S := by obtain ⟨v, bm, L, h⟩ := h; exact keys_of_perm h.keys h.perm
theorem IsQ.len {w : World} {bq : Nat} {S : List KT} {F : List Nat} (h : IsQ w bq S F) : S.length ≤ 1024 := by obtain ⟨v, bm, L, h⟩ := h; have := h.perm.length_eq; have := h.most; simp at *; omega
/-- Blocks that another call may not have written stay. -/
theorem IsQ.mod {w w' : World} {bq : Nat} {S : List KT} {F G : List Nat} (h : IsQ w bq S F) (hm : Mod G w w') (ha : Apart F G) : IsQ w' bq S F :=
  h.keep (fun b hb => hm.block b (h.lt b hb) (ha b hb))
theorem QS.len {w : World} {bq : Nat} {v : Value} {bm : Nat} {L : List It} {S : List KT} {F : List Nat} (h : QS w bq v bm L S F) : S.length = L.length := by have := h.perm.length_eq; simpa using this
theorem QS.val {w : World} {bq : Nat} {v : Value} {bm : Nat} {L : List It} {S : List KT} {F : List Nat} (h : QS w bq v bm L S F) : ∃ a cap, v = .slice a L.length cap := by
  rcases h.st with ⟨rfl, rfl⟩ | ⟨ba, cap, rfl, _⟩
  · exact ⟨none, 0, rfl⟩
  · exact ⟨_, cap, rfl⟩

/-- The item of a key. -/
theorem QS.find {w : World} {bq : Nat} {v : Value} {bm : Nat} {L : List It} {S : List KT} {F : List Nat} (h : QS w bq v bm L S F) {k : ByteArray} (hk : k.size ≤ maxLen) :
    (∃ i, ∃ hi : i < L.length, (ith L i).key = k ∧ atS S k = some (ith L i).tm ∧ (Instr.lookup 117 (.map (some bm)) (.string k) false).run Try.prog w = .ok (.pointer (some ⟨(ith L i).blk, 0, none⟩)) w) ∨
    (atS S k = none ∧ (∀ x ∈ L, x.key ≠ k) ∧ (Instr.lookup 117 (.map (some bm)) (.string k) false).run Try.prog w = .ok (.pointer none) w) := by
  have hz : (zeroValue 122).run Try.prog w = .ok (.pointer none) w := by kernel_rfl
  have hkey := Go.WideMaps.keyOf_string_mk Try.underlying9 hk
  have hS := keys_of_perm h.keys h.perm
  rcases h.mp.look strLaw Try.underlying117 hz hkey false with ⟨u, ⟨x, hx, h1, h2⟩, h3⟩ | ⟨h1, h2⟩
  · obtain ⟨i, hi, rfl⟩ := List.mem_iff_getElem.1 hx
    simp only [Value.string.injEq] at h1
    refine Or.inl ⟨i, hi, by rw [ith_lt hi]; exact h1.symm, ?_, ?_⟩
    · rw [atS_some hS, h.perm.mem_iff, ith_lt hi, h1]
      exact List.mem_map.2 ⟨_, List.getElem_mem hi, rfl⟩
    · rw [h3, h2, ith_lt hi]; rfl
  · have hno : ∀ x ∈ L, x.key ≠ k := fun x hx e => h1 (ptrV x) ⟨x, hx, by rw [e], rfl⟩
    refine Or.inr ⟨?_, hno, by rw [h2]; rfl⟩
    rw [atS_none]
    intro y hy e
    obtain ⟨x, hx, rfl⟩ := List.mem_map.1 (h.perm.mem_iff.1 hy)
    exact hno x hx e

end Go.Proofs.Ytcakgponofbhkaa
