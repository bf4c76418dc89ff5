/- Rows.PathStaysSaid -/
import Derived.Test.YtgapbecddgfkmaaGreatPS26
import Derived.Test.YtgapbecddgfkmaaGreatPS7
import Derived.Test.YtgapbecddgfkmaaGreatShelfF
import Derived.Shelf.SlSortCmp.NoneTotal
namespace Go.Proofs.YtgapbecddgfkmaaGreat
open Go.RowKit Go.Shelf Go.Sort
open Go.Maps (Keyed)
set_option linter.unusedVariables false
set_option maxHeartbeats 64000000
set_option maxRecDepth 100000
def cfF (x y : Fl) : Int := if ltT x.t y.t = true then -1 else 1
theorem cfF_lt (x y : Fl) : ltOf cfF x y = ltT x.t y.t := by
  unfold ltOf cfF
  by_cases h : ltT x.t y.t = true <;> simp [h]
theorem swoF : SWO (ltOf cfF) where
  irrefl x := by rw [cfF_lt]; exact ltT_irrefl _
  trans x y z h1 h2 := by rw [cfF_lt] at *; exact ltT_trans h1 h2
  ntrans x y z h1 h2 := by
    rw [cfF_lt] at *
    cases h : ltT x.t z.t with
    | false => rfl
    | true =>
      cases hyx : ltT y.t x.t with
      | true => rw [ltT_trans hyx h] at h2; cases h2
      | false =>
        have e := ltT_total h1 hyx
        rw [e] at h; rw [h] at h2; cases h2
abbrev encL (f : Fl) : List Value := (encF f).toList
def leF (x y : Fl) : Bool := !ltT y.t x.t
def sortF (L : List Fl) : List Fl := L.mergeSort leF
theorem sortF_perm (L : List Fl) : (sortF L).Perm L := List.mergeSort_perm _ _
theorem sortF_row (L : List Fl) : (sortF L).Pairwise (fun x y => ltT y.t x.t = false) := by
  have := List.pairwise_mergeSort (le := leF) (fun a b c h1 h2 => by
    simp only [leF, Bool.not_eq_true'] at *
    have := swoF.ntrans c b a (by rw [cfF_lt]; exact h2) (by rw [cfF_lt]; exact h1)
    rwa [cfF_lt] at this) (fun a b => by
    simp only [leF, Bool.or_eq_true, Bool.not_eq_true']
    cases h : ltT b.t a.t with
    | false => left; rfl
    | true =>
      right
      cases h2 : ltT a.t b.t with
      | false => rfl
      | true => have := ltT_trans h h2; rw [ltT_irrefl] at this; cases this) L
  exact this.imp (fun h => by simpa [leF] using h)
theorem sortF_length (L : List Fl) : (sortF L).length = L.length := (sortF_perm L).length_eq
theorem sort_eq {L M : List Fl} (hp : M.Perm L) (hk : (L.map (·.t)).Nodup) (hs : M.Pairwise (fun x y => ltT y.t x.t = false)) : M = sortF L := by
  have hp2 : M.Perm (sortF L) := hp.trans (sortF_perm L).symm
  refine List.Perm.eq_of_pairwise (le := fun a b : Fl => ltT b.t a.t = false) (fun a b ha hb h1 h2 => ?_) hs (sortF_row L) hp2
  have ht : a.t = b.t := ltT_total h2 h1
  have ha' : a ∈ L := hp.mem_iff.1 ha
  have hb' : b ∈ L := (sortF_perm L).mem_iff.1 hb
  obtain ⟨i, hi, rfl⟩ := List.mem_iff_getElem.1 ha'
  obtain ⟨j, hj, rfl⟩ := List.mem_iff_getElem.1 hb'
  have : (L.map (·.t))[i]? = (L.map (·.t))[j]? := by simp [hi, hj, ht]
  have := (List.getElem?_inj (by simpa using hi) hk).1 this
  subst this; rfl
theorem sorted_list {d : Array Fl} (h : SortedIn (ltOf cfF) 0 d.size d) : d.toList.Pairwise (fun x y => ltT y.t x.t = false) := by
  rw [List.pairwise_iff_getElem]
  intro i j hi hj hij
  have := h i j (Nat.zero_le _) hij (by simpa using hj)
  rw [cfF_lt, getElem!_pos d i (by simpa using hi), getElem!_pos d j (by simpa using hj)] at this
  simpa using this
theorem flatF_enc (L : List Fl) : flatF L = (L.map encL).flatten := rfl
theorem all_cmp (x y : Fl) (W : World) : Calls Tryz.prog 62 #[.agg (encF x), .agg (encF y)] W fun e w' => e = .returned (.int .i64 (cfF x y)) ∧ ∃ q os', w' = grow (W.drewN q) os' := by
  have HP : Hid (∀ q os, ∃ q' os', grow (((W.alloc (.cells (encF x) 49)).alloc (.cells (encF y) 49)).drewN q) os = grow (W.drewN q') os') := Lib.hid fun q os => ⟨q, _, by rw [Sort.alloc_eq_grow, Sort.alloc_eq_grow, Sort.grow_grow]; show grow (grow (W.drewN q) _) os = _; rw [Sort.grow_grow]⟩
  have C1 := Lib.hid (fun w => tup_less x.t y.t w)
  have HC : Hid (cfF x y = if ltT x.t y.t = true then -1 else 1) := Lib.hid rfl
  generalize cfF x y = r at *
  generalize ltT x.t y.t = b at *
  go_enter Tryz.func62, Tryz.ntmps62
  cases b
  · obtain rfl : r = 1 := by simpa using HC.out
    go_wp2_with fail
    refine (C1.out _).mono ?_
    rintro e w1 ⟨rfl, q, os, hw⟩
    have HW := Lib.hid hw
    clear hw
    go_wp2_with fail
    go_ret
    exact ⟨rfl, by rw [HW.out]; exact HP.out q os⟩
  · obtain rfl : r = -1 := by simpa using HC.out
    go_wp2_with fail
    refine (C1.out _).mono ?_
    rintro e w1 ⟨rfl, q, os, hw⟩
    have HW := Lib.hid hw
    clear hw
    go_wp2_with fail
    go_ret
    exact ⟨rfl, by rw [HW.out]; exact HP.out q os⟩
theorem all_lays (blk off size : Nat) (w : World) : CmpLays Tryz.prog 62 #[] encL 8 cfF blk off size w :=
  fun _ _ _ _ x y => all_cmp x y _
theorem isAggF (w : World) : (isAgg 49).run Tryz.prog w = .ok true w := by kernel_rfl
theorem sizeOfF (w : World) : (Go.sizeOf 49).run Tryz.prog w = .ok 8 w := by kernel_rfl
theorem sort_call {w : World} {base g cap : Nat} {xs L : List Fl} (hrow : w.ownsRow base 49 8 (.slice (some ⟨g, 0, none⟩) xs.length cap) xs.length (flatF xs)) (hp : xs.Perm L) (hL : L.length ≤ 1000000) (hk : (L.map (·.t)).Nodup) :
    Calls Tryz.prog 94 #[.slice (some ⟨g, 0, none⟩) xs.length cap, .func (.func 62) #[] #[]] w fun e w' => e = .returned (.tuple #[]) ∧ w'.ownsRow base 49 8 (.slice (some ⟨g, 0, none⟩) xs.length cap) xs.length (flatF (sortF L)) ∧ w.grownBy w' (some g) := by
  rcases hrow.2 with ⟨e, _⟩ | ⟨g', cap', cur, e, hbase, hgb, r1, r2, r3, r4⟩
  · cases e
  cases e
  have hH : HoldsK encL 8 w g 0 xs.toArray := holdsK_row (fun _ => rfl) (by omega) hgb (by simpa [flatF] using r4)
  have hsz : xs.length < 4611686018427387904 := by have := hp.length_eq; omega
  have hcon := AnyQ.slices_SortFunc Tryz.sortF 8 isAggF sizeOfF encL (fun _ => rfl) (fun x v hv => by simp [encL] at hv; rcases hv with rfl | rfl | rfl | rfl | rfl | rfl | rfl | rfl <;> rfl) cfF swoF 62 #[] g 0 cap xs.toArray w
    (enters_of Tryz.func62 (by kernel_rfl) rfl) (all_lays g 0 xs.toArray.size w) hH (hp_lt hgb) (by simpa using hsz)
  refine (show Calls Tryz.prog 94 #[.slice (some ⟨g, 0, none⟩) xs.length cap, .func (.func 62) #[] #[]] w _ from hcon).mono fun e w' ⟨he, d', n, os, hpm, hsd, hw⟩ => ⟨he, ?_, ?_⟩
  · have hds : d'.size = xs.length := by have := hpm.1; simpa using this
    have hd : d'.toList = sortF L := by
      refine sort_eq ?_ hk (sorted_list (by rw [hds]; simpa using hsd))
      have h3 := hpm.2.2
      simp only [List.size_toArray, ← hds, Array.extract_size] at h3
      have : (xs.toArray.extract 0 d'.size).toList = xs := by rw [hds]; simp
      rw [this] at h3
      exact h3.trans hp
    rw [hw, flatF_enc, ← hd]
    exact ownsRow_sortK (fun _ => rfl) (by omega) hds hbase hgb r1 r2 r3
  · rw [hw]; exact grownBy_sortK d'
theorem sorted_callF (Bm bm : Nat) (L : List Fl) (w : World) (hL : L.length ≤ 1000000) (hBm : Bm < w.heap.size) (hm : w.cell? ⟨Bm, 0, none⟩ = some (.map (some bm))) (hM : MapR Tryz.prog 24 w bm (tabR vT vF L) L.length) (hk : (L.map (·.t)).Nodup) :
    Calls Tryz.prog 60 #[.func (.func 95) #[] #[.pointer (some ⟨Bm, 0, none⟩)], .func (.func 62) #[] #[]] w fun e w' => ∃ v, e = .returned v ∧ w'.ownsRow w.heap.size 49 8 v L.length (flatF (sortF L)) ∧ Below w.heap.size w w' := by
  have HC := Lib.hid (collect_call Bm bm L w hL hBm hm hM (nodup_vT hk))
  have HK := Lib.hid hk
  have HL := Lib.hid hL
  clear hM hm hk hBm hL
  go_enter Tryz.func60, Tryz.ntmps60
  go_wp2_with fail
  refine HC.out.mono ?_
  rintro e w1 ⟨v, xs, rfl, hp, hrow, hb⟩
  have hlen : xs.length = L.length := hp.length_eq
  have HB := Lib.hid hb
  rcases hrow.2 with ⟨rfl, hz⟩ | ⟨g, cap, cur, rfl, hbase, hgb, r1, r2, r3, r4⟩
  · have hL0 : L = [] := List.length_eq_zero_iff.1 (by omega)
    subst hL0
    have HR : Hid (w1.ownsRow w.heap.size 49 8 (.slice none 0 0) ([] : List Fl).length (flatF (sortF []))) := Lib.hid (by
      have e : flatF xs = flatF (sortF []) := by
        rw [List.length_eq_zero_iff.1 hz]; simp [sortF]
      rw [← e]
      have e2 : ([] : List Fl).length = xs.length := by simp [hz]
      rw [e2]; exact hrow)
    have cN := AnyF.slices_SortFunc_none (P := Tryz.prog) Tryz.sortF none 0 (.func (.func 62) #[] #[]) w1
    have CN : Hid (Calls Tryz.prog 94 #[.slice none 0 0, .func (.func 62) #[] #[]] w1 fun e w' => e = .returned (.tuple #[]) ∧ w' = w1) := Lib.hid cN
    clear hrow hp hb hlen hz cN
    go_wp2_with fail
    refine CN.out.mono ?_
    rintro e w2 ⟨rfl, rfl⟩
    go_wp2_with fail
    go_ret
    exact ⟨_, rfl, HR.out, HB.out⟩
  · have CS := Lib.hid (sort_call hrow hp HL.out HK.out)
    have HG := Lib.hid hbase
    have HLEN := Lib.hid hlen
    clear hrow hp hb hlen hgb r1 r2 r3 r4 hbase
    go_wp2_with fail
    refine CS.out.mono ?_
    rintro e w2 ⟨rfl, hr, hg⟩
    have HR := Lib.hid hr
    have HG2 := Lib.hid hg
    clear hr hg CS
    go_wp2_with fail
    go_ret
    exact ⟨_, rfl, by rw [← HLEN.out]; exact HR.out, HB.out.grown HG2.out HB.out.size (fun j e => by cases e; exact HG.out)⟩
theorem fall {w : World} {bt : Nat} {most idle : Int} {L : List Fl} {F : List Nat} (h : FA bt most idle L w F) :
    Calls Tryz.prog 27 #[.pointer (some ⟨bt, 0, none⟩)] w (Gives w F (fun v => Star [FA bt most idle L, RowA 49 8 v (sortF L).length (flatF (sortF L))])) := by
  obtain ⟨bm, bk, bq, hok, h⟩ := h
  have HB := Lib.hid (In.start FR.framed h)
  have hc0 : w.cell? ⟨bt, 2, none⟩ = some (.map (some bm)) := cell_of (HB.out.block 0 rfl) rfl
  have hlenL : L.length ≤ 1000000 := by have := hok.room; have := hok.most; omega
  have HSort : Hid (Calls Tryz.prog 60 #[.func (.func 95) #[] #[.pointer (some ⟨w.heap.size, 0, none⟩)], .func (.func 62) #[] #[]] (w.alloc (.cells #[.map (some bm)] 88)) (Gives w F (fun v => Star [FA bt most idle L, RowA 49 8 v (sortF L).length (flatF (sortF L))]))) := by
    have HB2 := HB.out.alloc (.cells #[.map (some bm)] 88)
    obtain ⟨Fm, hbm⟩ := HB2.get 1 rfl
    refine Lib.hid ((sorted_callF w.heap.size bm L _ hlenL (by simp) (cell_of hp_alloc_new rfl) hbm.2 hok.keys).mono fun e w' ⟨v, he, hrow, hbel⟩ => ?_)
    rw [← sortF_length L] at hrow
    obtain ⟨hr1, hr2⟩ := row_new hrow
    have h1 := In.below HB2 hbel (RowA.framed _ _ _ _ _) hr1 hr2
    have h2 := (h1.perm (List.perm_append_comm (l₁ := [_]) (l₂ := [_, _, _, _])))
    have h3 := In.join (A1 := FR bt most idle bm bk bq L) (R := [_]) h2
    have h4 := h3.imp (A' := FA bt most idle L) 0 rfl (FA.framed _ _ _ _) (fun F hF => ⟨bm, bk, bq, hok, hF⟩)
    rw [he]
    exact h4.gives v _ (fun F hs => hs)
  clear h hok hlenL
  go_enter Tryz.func27, Tryz.ntmps27
  go_wp2_with fail
  refine (values_call _ _).mono ?_
  rintro e w1 ⟨rfl, rfl⟩
  go_wp2_with fail
  refine HSort.out.mono ?_
  rintro e w1 ⟨v, rfl, hg⟩
  have HG := Lib.hid hg
  clear hg HSort hc0
  go_wp2_with fail
  go_ret
  exact ⟨v, rfl, HG.out⟩
section
variable {F0 : List Nat} {w0 w : World} {R : List Asrt} {bt : Nat} {most idle : Int} {L : List Fl}
theorem o_fall (h : In F0 w0 w R) (i : Nat) (hA : R[i]? = some (FA bt most idle L)) :
    Calls Tryz.prog 27 #[.pointer (some ⟨bt, 0, none⟩)] w fun e w' => ∃ v, e = .returned v ∧ In F0 w0 w' (RowA 49 8 v (sortF L).length (flatF (sortF L)) :: R.set i (FA bt most idle L)) :=
  own_two h i hA (FA.framed _ _ _ _) (fun v => RowA.framed _ _ _ _ _) fun F hF => fall hF
end
end Go.Proofs.YtgapbecddgfkmaaGreat
