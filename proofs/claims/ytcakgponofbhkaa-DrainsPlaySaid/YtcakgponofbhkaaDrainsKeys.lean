/- The sorted keys of a map by int: the library's calls. -/
import Derived.Test.YtcakgponofbhkaaDrainsAwake
import Derived.Test.YtcakgponofbhkaaShelf
namespace Go.Proofs.Ytcakgponofbhkaa
open Go.RowKit Go.Shelf
open Go.Maps (Keyed)
set_option linter.unusedVariables false
set_option maxRecDepth 100000

/-- The datum reads nothing of the values. -/
def noVal : Value → Option (DataW Unit × List MemPlace) := fun _ => some (.lit (.bool true), [])
def keyInt : Value → Int
  | .int _ a => a
  | _ => 0
theorem own_ints {w : World} {bm : Nat} {M : List BT} {F : List Nat} (h : BMap bm M w F) (hk : KeysD M) (hM : M.length ≤ 1024) :
    ∃ D0 : DataW Unit, w.ownsMap Try.prog 3 noVal bm M.length D0 ∧ (Go.intKeys D0).Perm (M.map (·.1)) ∧ Maps.size D0 = M.length := by
  obtain ⟨-, es, clock, hb, hs, hkey, hR, hn⟩ := h
  have hall : ∀ x ∈ es.toList, ∃ a : Int, x.key = .int .i64 a ∧ keyOf Try.prog 3 x.key = some (.int .i64 a) := by
    intro x hx
    obtain ⟨l, hl⟩ := hkey x hx
    obtain ⟨a, h1, h2, _⟩ := Maps.keyOf_i64 Try.underlying3 hl
    exact ⟨a, h1, h2 ▸ hl⟩
  refine ⟨_, ⟨es, clock, hb, ⟨by unfold maxLen; omega, hs, fun x hx => ?_⟩, by omega, rfl⟩, ?_, ?_⟩
  · obtain ⟨a, h1, h2⟩ := hall x hx
    exact ⟨_, by unfold WideElems.rd; rw [h2]; rfl⟩
  · show ((((es.toList.map (WideElems.rg Try.prog 3 noVal)).foldr DataW.insert []).map fun p => _root_.Go.intOf p.1)).Perm _
    have hl : (es.toList.map (WideElems.rg Try.prog 3 noVal)).map (fun p => _root_.Go.intOf p.1) = es.toList.map (fun x => keyInt x.key) := by
      rw [List.map_map]
      refine List.map_congr_left (fun x hx => ?_)
      obtain ⟨a, h1, h2⟩ := hall x hx
      show _root_.Go.intOf (WideElems.rg Try.prog 3 noVal x).1 = _
      unfold WideElems.rg WideElems.rd
      rw [h2, h1]; rfl
    refine ((WideShapes.sorted_perm _).map _).trans ?_
    rw [hl]
    refine (List.perm_ext_iff_of_nodup ?_ hk).2 (fun a => ?_)
    · rw [List.Nodup, List.pairwise_map, List.pairwise_iff_getElem]
      intro i j hi hj hij e
      have n1 := keys_ne hs (i := i) (j := j) (x := es.toList[i]) (y := es.toList[j]) (by simp at hi ⊢) (by simp at hj ⊢) (by omega)
      obtain ⟨a, h1, _⟩ := hall _ (List.getElem_mem hi)
      obtain ⟨b, h2, _⟩ := hall _ (List.getElem_mem hj)
      rw [h1, h2] at n1 e
      exact n1 (by rw [show a = b from e])
    · simp only [List.mem_map]
      constructor
      · rintro ⟨x, hx, rfl⟩
        obtain ⟨i, hi, rfl⟩ := List.mem_iff_getElem.1 hx
        obtain ⟨y, hy, e1, _⟩ := (hR es.toList[i].key es.toList[i].val).2 ⟨i, es.toList[i], by simp at hi ⊢, rfl, rfl⟩
        exact ⟨y, hy, by rw [e1]; rfl⟩
      · rintro ⟨y, hy, rfl⟩
        obtain ⟨i, x, hx, e1, _⟩ := (hR (.int .i64 y.1) (.int .i64 y.2)).1 ⟨y, hy, rfl, rfl⟩
        exact ⟨x, by rw [Array.mem_toList_iff]; exact Array.mem_of_getElem? hx, by rw [e1]; rfl⟩
  · show ((es.toList.map (WideElems.rg Try.prog 3 noVal)).foldr DataW.insert []).length = _
    rw [length_read, hn]

/-! ### the calls -/
theorem keys_call (mb : Option Nat) (W : World) : Calls Try.prog 57 #[.map mb] W fun e w' => e = .returned (.func (.func 79) #[] #[.pointer (some ⟨W.heap.size, 0, none⟩)]) ∧ w' = W.alloc (.cells #[.map mb] 26) :=
  (callsIn_wide (n := 5)).1 (AnyZI.keys_in Try.keysI Fence.wide 5 trivial rfl mb W)
theorem sorts_in (m : Nat) : AnyZI.SortsIn Try.prog Try.sortedI_ren Fence.wide m :=
  ⟨fun blk off cap ss W hH hblk hsz => callsIn_wide.2 (AnyM.slices_Sort_int Try.sortI blk off cap ss W hH hblk hsz),
   fun p cap W => callsIn_wide.2 (AnyM.slices_Sort_int_none Try.sortI p cap W)⟩
def SortedPost (M : List BT) (W : World) (e : Ending) (w' : World) : Prop :=
  ∃ (v : Value) (ss : List Int), e = .returned v ∧ ss.Perm (M.map (·.1)) ∧ w'.ownsRow W.heap.size 3 1 v ss.length ((ss.mergeSort (fun x y => decide (x ≤ y))).map encZ) ∧ Below W.heap.size W w'
theorem sorted_call {W : World} {bm : Nat} {M : List BT} {F : List Nat} (h : BMap bm M W F) (hk : KeysD M) (hM : M.length ≤ 1024) :
    Calls Try.prog 56 #[.func (.func 79) #[] #[.pointer (some ⟨W.heap.size, 0, none⟩)]] (W.alloc (.cells #[.map (some bm)] 26)) (SortedPost M (W.alloc (.cells #[.map (some bm)] 26))) := by
  obtain ⟨D0, hown, hp, hs⟩ := own_ints h hk hM
  have hbl := hown.lt
  have hseq : SeqGives Fence.wide 2 Try.prog 79 #[.pointer (some ⟨W.heap.size, 0, none⟩)] encZ (fun ss => ss.Perm (Go.intKeys D0)) (Maps.size D0) (W.alloc (.cells #[.map (some bm)] 26)) :=
    AnyZI.keys_gives (ρ := Try.keysI_ren) { Try.keysI with } Fence.wide _ trivial rfl (by omega) W.heap.size bm M.length D0 _ (by simp) (by simp) (by
      obtain ⟨es, clock, hb, Ft, hs, hD⟩ := hown
      exact ⟨es, clock, (Below.heap_alloc _ _ bm hbl).trans hb, Ft, hs, hD⟩)
  have cS := AnyZI.sorted_in Try.sortedI Fence.wide 5 trivial trivial trivial trivial rfl (by omega) (sorts_in _) (enters_of Try.func78 (by kernel_rfl) rfl) 79 #[.pointer (some ⟨W.heap.size, 0, none⟩)] trivial (enters_of Try.func79 (by kernel_rfl) rfl) _ _ (by rw [hs]; unfold maxLen; omega) (by rw [hs]; omega) _ hseq
  change CallsIn _ _ Try.prog 56 _ _ _ at cS
  exact ((callsIn_wide (n := 5)).1 cS).mono fun e w' ⟨v, ss, he, h1, h2, _, h4⟩ => ⟨v, ss, he, h1.trans hp, h2, h4⟩
end Go.Proofs.Ytcakgponofbhkaa
