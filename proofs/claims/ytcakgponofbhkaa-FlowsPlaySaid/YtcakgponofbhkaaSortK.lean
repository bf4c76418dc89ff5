/- A row of elements of so many cells each, behind slices.SortFunc. -/
import Derived.Test.YtcakgponofbhkaaOwn
import Derived.Shelf.SlSortCmp.WholeK
namespace Go.Proofs.Ytcakgponofbhkaa
open Go.RowKit Go.Sort
set_option linter.unusedVariables false
set_option maxRecDepth 100000

section
variable {α : Type} [Inhabited α] {enc : α → List Value} {k : Nat}
theorem flatten_get {k : Nat} (hk : 0 < k) : ∀ {L : List (List Value)} (h : ∀ x ∈ L, x.length = k) (t : Nat), L.flatten[t]? = (L[t / k]?).bind (fun x => x[t % k]?)
  | [], _, t => by simp
  | x :: r, h, t => by
    have hx := h x (by simp)
    have ih := flatten_get hk (L := r) (fun y hy => h y (List.mem_cons_of_mem _ hy))
    rw [List.flatten_cons]
    by_cases ht : t < k
    · rw [List.getElem?_append_left (by omega), Nat.div_eq_of_lt ht, Nat.mod_eq_of_lt ht]; simp
    · rw [List.getElem?_append_right (by omega), hx, ih]
      have e1 : t / k = (t - k) / k + 1 := by
        have := Nat.sub_add_cancel (show k ≤ t by omega)
        rw [← this, Nat.add_div_right _ hk, Nat.add_sub_cancel]
      have e2 : t % k = (t - k) % k := by
        have := Nat.sub_add_cancel (show k ≤ t by omega)
        rw [← this, Nat.add_mod_right, Nat.add_sub_cancel]
      rw [e1, e2]; simp
theorem flatK_list (hk : ∀ x, (enc x).length = k) (h0 : 0 < k) (d : Array α) : (flatK enc k d).toList = (d.toList.map enc).flatten := by
  apply List.ext_getElem?
  intro t
  rw [flatten_get h0 (fun x hx => by obtain ⟨y, _, rfl⟩ := List.mem_map.1 hx; exact hk y)]
  by_cases ht : t < d.size * k
  · have hq : t / k < d.size := by rw [Nat.div_lt_iff_lt_mul h0]; exact ht
    have hm : t % k < k := Nat.mod_lt _ h0
    have hE : (enc d[t / k]).length = k := hk _
    have h1 : (flatK enc k d)[t]! = (enc d[t / k]!)[t % k]! := get_flatK enc k d t ht
    have h2 : t < (flatK enc k d).size := by rw [size_flatK]; exact ht
    rw [getElem!_pos (flatK enc k d) t h2, getElem!_pos d (t / k) hq] at h1
    rw [getElem!_pos _ _ (by rw [hE]; exact hm)] at h1
    rw [Array.getElem?_toList, Array.getElem?_eq_getElem h2, h1]
    rw [List.getElem?_map, Array.getElem?_toList, Array.getElem?_eq_getElem hq]
    simp only [Option.map_some, Option.bind_some]
    rw [List.getElem?_eq_getElem (by rw [hE]; exact hm)]
  · have hq : d.size ≤ t / k := by
      rcases Nat.lt_or_ge (t / k) d.size with h | h
      · rw [Nat.div_lt_iff_lt_mul h0] at h; exact absurd h ht
      · exact h
    rw [List.getElem?_eq_none (by simp; omega), List.getElem?_eq_none (by simpa using hq)]; rfl
theorem heap_sortK {w : World} {g n : Nat} {os : Array Obj} {cur : Array Value} {e : TypeId} {fr : Nat × Nat} (d : Array α) (hb : w.heap[g]? = some (.cells cur e fr)) :
    (sortWorldK enc k w g 0 n d os).heap[g]? = some (.cells (putCells id 0 (flatK enc k d) cur) e fr) := by
  have hg : g < w.heap.size := (Array.getElem?_eq_some_iff.1 hb).1
  unfold sortWorldK
  rw [heap_grow_old _ _ (by simpa [putRowK] using hg)]
  simp [putRowK, putRow, mapBlock, Sort.ahead, Array.getElem?_modify, hb, onCells]
theorem grownBy_sortK {w : World} {g n : Nat} {os : Array Obj} (d : Array α) : w.grownBy (sortWorldK enc k w g 0 n d os) (some g) := by
  unfold sortWorldK
  refine ⟨rfl, rfl, rfl, by simp [putRowK], fun j hj hne => ?_⟩
  rw [heap_grow_old _ _ (by simpa [putRowK] using hj)]
  have : g ≠ j := fun e => hne (by rw [e])
  simp [putRowK, putRow, mapBlock, Sort.ahead, Array.getElem?_modify, this]
theorem take_putCellsK (cur F : Array Value) (h : F.size ≤ cur.size) : (putCells id 0 F cur).toList.take F.size = F.toList := by
  apply List.ext_getElem?
  intro j
  by_cases hj : j < F.size
  · rw [List.getElem?_take_of_lt hj, Array.getElem?_toList]
    simp [putCells, hj, show j < cur.size by omega]
  · rw [List.getElem?_take_eq_none (by omega), List.getElem?_eq_none (by simp; omega)]
theorem holdsK_row {w : World} {g : Nat} {cur : Array Value} {e : TypeId} {d : Array α} (hk : ∀ x, (enc x).length = k) (h0 : 0 < k) (hb : w.heap[g]? = some (.cells cur e (0, 0))) (ht : cur.toList.take (d.size * k) = (d.toList.map enc).flatten) : HoldsK enc k w g 0 d := by
  intro j hj
  have hj' : j < d.size * k := by simpa using hj
  refine ⟨?_, by simp [World.frozen?, hb]⟩
  have h1 : (cur.toList.take (d.size * k))[j]? = (flatK enc k d).toList[j]? := by rw [ht, flatK_list hk h0]
  rw [List.getElem?_take_of_lt hj', Array.getElem?_toList, Array.getElem?_toList] at h1
  simp only [World.cell?, hb, Nat.zero_add]
  simp only [Option.isSome_none, Bool.false_eq_true, if_false]
  rw [h1, getElem!_pos (flatK enc k d) j hj, Array.getElem?_eq_getElem hj]
  rfl
theorem ownsRow_sortK {w : World} {base g cap n m : Nat} {e : TypeId} {os : Array Obj} {cur : Array Value} {d : Array α} (hk : ∀ x, (enc x).length = k) (h0 : 0 < k) (hl : d.size = m) (hbase : base ≤ g) (hb : w.heap[g]? = some (.cells cur e (0, 0)))
    (h1 : m ≤ cap) (h2 : cap ≤ maxLen) (h3 : cur.size = cap * k) : (sortWorldK enc k w g 0 n d os).ownsRow base e k (.slice (some ⟨g, 0, none⟩) m cap) m ((d.toList.map enc).flatten) := by
  have hsz : (flatK enc k d).size = m * k := by rw [size_flatK, hl]
  have hle : m * k ≤ cap * k := Nat.mul_le_mul_right _ h1
  refine ⟨?_, .inr ⟨g, cap, _, rfl, hbase, heap_sortK d hb, h1, h2, by simp [putCells, h3], ?_⟩⟩
  · rw [← flatK_list hk h0, Array.length_toList, hsz]
  · rw [← hsz, take_putCellsK _ _ (by rw [hsz, h3]; exact hle), flatK_list hk h0]
end
end Go.Proofs.Ytcakgponofbhkaa
