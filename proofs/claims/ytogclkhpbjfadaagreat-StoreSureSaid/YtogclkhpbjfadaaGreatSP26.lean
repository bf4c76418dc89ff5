/- What is proved here: contracts of the program's functions, and plain laws, on which the proof of StoreSure rests; without conditions. -/
import Derived.Test.YtogclkhpbjfadaaGreatSP2
import Derived.Shelf.SlSortCmp.WholeK
import Derived.Test.YtogclkhpbjfadaaGreatSP3
import Derived.StillTailTactics
import Derived.Sort.Grow
import Derived.Deep.Draws
import Derived.Test.YtogclkhpbjfadaaGreatSP25
import Derived.Test.YtogclkhpbjfadaaGreatShelfF
import Derived.Shelf.SlSortCmp.NoneTotal
namespace Go.Proofs.YtogclkhpbjfadaaGreat
open Go.RowKit Go.Sort
set_option linter.unusedVariables false
set_option maxRecDepth 100000
section
variable {α : Type} [Inhabited α] {enc : α → List Value} {k : Nat}
theorem flatten_get {k : Nat} (hk : 0 < k) : ∀ {L : List (List Value)} (h : ∀ x ∈ L, x.length = k) (t : Nat), L.flatten[t]? = (L[t / k]?).bind (fun x => x[t % k]?)
  | [], _, t => by simp
  | x :: r, h, t => by
    have hx := h x (by simp)
    have ih := flatten_get hk (L := r) (fun y hy => h y (List.mem_cons_of_mem _ hy))
    rw [List.flatten_cons]
    by_cases ht : t < k
    · rw [List.getElem?_append_left (by omega), Nat.div_eq_of_lt ht, Nat.mod_eq_of_lt ht]; simp
    · rw [List.getElem?_append_right (by omega), hx, ih]
      have e1 : t / k = (t - k) / k + 1 := by
        have := Nat.sub_add_cancel (show k ≤ t by omega)
        rw [← this, Nat.add_div_right _ hk, Nat.add_sub_cancel]
      have e2 : t % k = (t - k) % k := by
        have := Nat.sub_add_cancel (show k ≤ t by omega)
        rw [← this, Nat.add_mod_right, Nat.add_sub_cancel]
      rw [e1, e2]; simp
theorem flatK_list (hk : ∀ x, (enc x).length = k) (h0 : 0 < k) (d : Array α) : (flatK enc k d).toList = (d.toList.map enc).flatten := by
  apply List.ext_getElem?
  intro t
  rw [flatten_get h0 (fun x hx => by obtain ⟨y, _, rfl⟩ := List.mem_map.1 hx; exact hk y)]
  by_cases ht : t < d.size * k
  · have hq : t / k < d.size := by rw [Nat.div_lt_iff_lt_mul h0]; exact ht
    have hm : t % k < k := Nat.mod_lt _ h0
    have hE : (enc d[t / k]).length = k := hk _
    have h1 : (flatK enc k d)[t]! = (enc d[t / k]!)[t % k]! := get_flatK enc k d t ht
    have h2 : t < (flatK enc k d).size := by rw [size_flatK]; exact ht
    rw [getElem!_pos (flatK enc k d) t h2, getElem!_pos d (t / k) hq] at h1
    rw [getElem!_pos _ _ (by rw [hE]; exact hm)] at h1
    rw [Array.getElem?_toList, Array.getElem?_eq_getElem h2, h1]
    rw [List.getElem?_map, Array.getElem?_toList, Array.getElem?_eq_getElem hq]
    simp only [Option.map_some, Option.bind_some]
    rw [List.getElem?_eq_getElem (by rw [hE]; exact hm)]
  · have hq : d.size ≤ t / k := by
      rcases Nat.lt_or_ge (t / k) d.size with h | h
      · rw [Nat.div_lt_iff_lt_mul h0] at h; exact absurd h ht
      · exact h
    rw [List.getElem?_eq_none (by simp; omega), List.getElem?_eq_none (by simpa using hq)]; rfl
theorem heap_sortK {w : World} {g n : Nat} {os : Array Obj} {cur : Array Value} {e : TypeId} {fr : Nat × Nat} (d : Array α) (hb : w.heap[g]? = some (.cells cur e fr)) :
    (sortWorldK enc k w g 0 n d os).heap[g]? = some (.cells (putCells id 0 (flatK enc k d) cur) e fr) := by
  have hg : g < w.heap.size := (Array.getElem?_eq_some_iff.1 hb).1
  unfold sortWorldK
  rw [heap_grow_old _ _ (by simpa [putRowK] using hg)]
  simp [putRowK, putRow, mapBlock, Sort.ahead, Array.getElem?_modify, hb, onCells]
theorem grownBy_sortK {w : World} {g n : Nat} {os : Array Obj} (d : Array α) : w.grownBy (sortWorldK enc k w g 0 n d os) (some g) := by
  unfold sortWorldK
  refine ⟨rfl, rfl, rfl, by simp [putRowK], fun j hj hne => ?_⟩
  rw [heap_grow_old _ _ (by simpa [putRowK] using hj)]
  have : g ≠ j := fun e => hne (by rw [e])
  simp [putRowK, putRow, mapBlock, Sort.ahead, Array.getElem?_modify, this]
theorem take_putCellsK (cur F : Array Value) (h : F.size ≤ cur.size) : (putCells id 0 F cur).toList.take F.size = F.toList := by
  apply List.ext_getElem?
  intro j
  by_cases hj : j < F.size
  · rw [List.getElem?_take_of_lt hj, Array.getElem?_toList]
    simp [putCells, hj, show j < cur.size by omega]
  · rw [List.getElem?_take_eq_none (by omega), List.getElem?_eq_none (by simp; omega)]
theorem holdsK_row {w : World} {g : Nat} {cur : Array Value} {e : TypeId} {d : Array α} (hk : ∀ x, (enc x).length = k) (h0 : 0 < k) (hb : w.heap[g]? = some (.cells cur e (0, 0))) (ht : cur.toList.take (d.size * k) = (d.toList.map enc).flatten) : HoldsK enc k w g 0 d := by
  intro j hj
  have hj' : j < d.size * k := by simpa using hj
  refine ⟨?_, by simp [World.frozen?, hb]⟩
  have h1 : (cur.toList.take (d.size * k))[j]? = (flatK enc k d).toList[j]? := by rw [ht, flatK_list hk h0]
  rw [List.getElem?_take_of_lt hj', Array.getElem?_toList, Array.getElem?_toList] at h1
  simp only [World.cell?, hb, Nat.zero_add]
  simp only [Option.isSome_none, Bool.false_eq_true, if_false]
  rw [h1, getElem!_pos (flatK enc k d) j hj, Array.getElem?_eq_getElem hj]
  rfl
theorem ownsRow_sortK {w : World} {base g cap n m : Nat} {e : TypeId} {os : Array Obj} {cur : Array Value} {d : Array α} (hk : ∀ x, (enc x).length = k) (h0 : 0 < k) (hl : d.size = m) (hbase : base ≤ g) (hb : w.heap[g]? = some (.cells cur e (0, 0)))
    (h1 : m ≤ cap) (h2 : cap ≤ maxLen) (h3 : cur.size = cap * k) : (sortWorldK enc k w g 0 n d os).ownsRow base e k (.slice (some ⟨g, 0, none⟩) m cap) m ((d.toList.map enc).flatten) := by
  have hsz : (flatK enc k d).size = m * k := by rw [size_flatK, hl]
  have hle : m * k ≤ cap * k := Nat.mul_le_mul_right _ h1
  refine ⟨?_, .inr ⟨g, cap, _, rfl, hbase, heap_sortK d hb, h1, h2, by simp [putCells, h3], ?_⟩⟩
  · rw [← flatK_list hk h0, Array.length_toList, hsz]
  · rw [← hsz, take_putCellsK _ _ (by rw [hsz, h3]; exact hle), flatK_list hk h0]
end
end Go.Proofs.YtogclkhpbjfadaaGreat
namespace Go.Proofs.YtogclkhpbjfadaaGreat
open Go.RowKit
set_option linter.unusedVariables false
set_option maxRecDepth 100000
def cmpI (a b : Int) : Int := if a < b then -1 else if b < a then 1 else 0
theorem cmp_cases (a b : Int) : (a < b ∧ cmpI a b = -1) ∨ (decide (a < b) = false ∧ b < a ∧ cmpI a b = 1) ∨ (decide (a < b) = false ∧ decide (b < a) = false ∧ cmpI a b = 0) := by
  unfold cmpI
  by_cases h : a < b
  · left; simp [h]
  · right
    by_cases h2 : b < a
    · left; simp [h, h2]
    · right; simp [h, h2]
theorem cmp_u32 (a b : Int) (w : World) : Calls Tryz.prog 201 #[.int .u32 a, .int .u32 b] w fun e w' => e = .returned (.int .i64 (cmpI a b)) ∧ w' = w := by
  rcases cmp_cases a b with ⟨h, e⟩ | ⟨h, h2, e⟩ | ⟨h, h2, e⟩
  all_goals
    rw [e]
    clear e
    go_enter Tryz.func201, Tryz.ntmps201
    go_wp2
    go_ret
    exact ⟨rfl, rfl⟩
theorem cmp_int (a b : Int) (w : World) : Calls Tryz.prog 202 #[.int .i64 a, .int .i64 b] w fun e w' => e = .returned (.int .i64 (cmpI a b)) ∧ w' = w := by
  rcases cmp_cases a b with ⟨h, e⟩ | ⟨h, h2, e⟩ | ⟨h, h2, e⟩
  all_goals
    rw [e]
    clear e
    go_enter Tryz.func202, Tryz.ntmps202
    go_wp2
    go_ret
    exact ⟨rfl, rfl⟩
def orI (l : List Int) : Int := (l.find? (fun x => x != 0)).getD 0
def OrRel (l : List Int) (v k : Value) : Prop := ∃ j : Nat, k = .int .i64 j ∧ j ≤ l.length ∧ ∀ i x, i < j → l[i]? = some x → x = 0
theorem or_here {l : List Int} {j : Nat} {x : Int} (hz : ∀ i y, i < j → l[i]? = some y → y = 0) (hx : l[j]? = some x) (h : x ≠ 0) : orI l = x := by
  induction l generalizing j with
  | nil => simp at hx
  | cons y r ih =>
    cases j with
    | zero => simp at hx; subst hx; simp [orI, h]
    | succ j =>
      have : y = 0 := hz 0 y (by omega) rfl
      subst this
      have := ih (j := j) (fun i y hi hy => hz (i + 1) y (by omega) (by simpa using hy)) (by simpa using hx)
      simpa [orI] using this
theorem or_none {l : List Int} (hz : ∀ i y, i < l.length → l[i]? = some y → y = 0) : orI l = 0 := by
  induction l with
  | nil => rfl
  | cons y r ih =>
    have : y = 0 := hz 0 y (by simp) rfl
    subst this
    have := ih (fun i y hi hy => hz (i + 1) y (by simpa using hi) (by simpa using hy))
    simpa [orI] using this
set_option maxHeartbeats 1000000 in
theorem cmp_or (g : Nat) (l : List Int) (hl : l.length ≤ 1000) (w : World) (hc : ∀ j x, l[j]? = some x → w.cell? ⟨g, j, none⟩ = some (.int .i64 x)) (cap : Nat) (hcap : l.length ≤ cap) (hm : cap ≤ maxLen) :
    Calls Tryz.prog 200 #[.slice (some ⟨g, 0, none⟩) l.length cap] w fun e w' => e = .returned (.int .i64 (orI l)) ∧ w' = w := by
  have HC := Lib.hid hc
  clear hc
  go_enter Tryz.func200, Tryz.ntmps200
  go_wp2
  go_loop [5, 8] (OrRel l) (fun _ k => l.length - (intOf k).toNat)
  case atStart => exact ⟨0, rfl, Nat.zero_le _, fun i x hi => by omega⟩
  case round =>
    obtain ⟨j, rfl, hj, hz⟩ := hrel
    have HZ := Lib.hid hz
    clear hz
    by_cases hlt : j < l.length
    · obtain ⟨x, hx⟩ : ∃ x, l[j]? = some x := ⟨l[j], List.getElem?_eq_getElem hlt⟩
      have c0 := HC.out j x hx
      have hlt' : (j : Int) < (l.length : Int) := by omega
      have HX := Lib.hid hx
      clear hx
      by_cases h0 : x = 0
      · subst h0
        go_wp2
        go_round
        case rel => exact ⟨j + 1, by congr 1, by omega, fun i y hi hy => by
          by_cases e : i = j
          · subst e; rw [HX.out] at hy; cases hy; rfl
          · exact HZ.out i y (by omega) hy⟩
        case measure => simp [intOf]; omega
      · have HO : Hid (orI l = x) := Lib.hid (or_here HZ.out HX.out h0)
        have hne : (x != 0) = true := by simpa using h0
        go_wp2
        go_ret
        refine ⟨?_, rfl⟩
        rw [HO.out]; rfl
    · have hge : (l.length : Int) ≤ (j : Int) := by omega
      have HO : Hid (orI l = 0) := Lib.hid (or_none (fun i y hi hy => HZ.out i y (by omega) hy))
      go_wp2
      go_ret
      refine ⟨?_, rfl⟩
      rw [HO.out]; rfl
theorem or_lt (a b : Tup) : decide (orI [cmpI a.src b.src, cmpI a.dst b.dst, cmpI a.proto b.proto, cmpI a.sport b.sport, cmpI a.dport b.dport] < 0) = ltT a b := by
  rw [Bool.eq_iff_iff]
  simp only [ltT, Bool.or_eq_true, Bool.and_eq_true, decide_eq_true_eq]
  have key : ∀ (x y : Int) (r : List Int), orI (cmpI x y :: r) < 0 ↔ (x < y ∨ (x = y ∧ orI r < 0)) := by
    intro x y r
    rcases cmp_cases x y with ⟨h, e⟩ | ⟨h, h2, e⟩ | ⟨h, h2, e⟩
    · rw [e]; simp [orI, h]
    · rw [e]; simp [orI]; simp at h; omega
    · rw [e]
      simp at h h2
      have : x = y := by omega
      subst this
      simp [orI]
  rw [key, key, key, key, key]
  simp [orI]
def LessPost (b : Bool) (w : World) (e : Ending) (w' : World) : Prop := e = .returned (.bool b) ∧ ∃ q os, w' = Sort.grow (w.drewN q) os
theorem grow3 (w : World) (x y z : Obj) : (((w.alloc x).alloc y).alloc z).drew = Sort.grow (w.drewN 1) (#[x] ++ #[y] ++ #[z]) := by
  rw [Sort.alloc_eq_grow, Sort.alloc_eq_grow, Sort.alloc_eq_grow, Sort.grow_grow, Sort.grow_grow]; rfl
theorem cmp_or5 (x1 x2 x3 x4 x5 : Int) (W : World) : Calls Tryz.prog 200 #[.slice (some ⟨W.heap.size, 0, none⟩) 5 5] (W.alloc (.cells #[.int .i64 x1, .int .i64 x2, .int .i64 x3, .int .i64 x4, .int .i64 x5] 3)).drew
    fun e w' => e = .returned (.int .i64 (orI [x1, x2, x3, x4, x5])) ∧ w' = (W.alloc (.cells #[.int .i64 x1, .int .i64 x2, .int .i64 x3, .int .i64 x4, .int .i64 x5] 3)).drew :=
  cmp_or W.heap.size [x1, x2, x3, x4, x5] (by simp) _ (fun j x hx => cell_of (C := #[.int .i64 x1, .int .i64 x2, .int .i64 x3, .int .i64 x4, .int .i64 x5]) (T := 3) (fz := (0, 0)) (w := (W.alloc (.cells #[.int .i64 x1, .int .i64 x2, .int .i64 x3, .int .i64 x4, .int .i64 x5] 3)).drew) (hp_alloc_new (w := W)) (by
    match j, hx with
    | 0, hx => simp at hx; subst hx; rfl
    | 1, hx => simp at hx; subst hx; rfl
    | 2, hx => simp at hx; subst hx; rfl
    | 3, hx => simp at hx; subst hx; rfl
    | 4, hx => simp at hx; subst hx; rfl
    | j + 5, hx => simp at hx)) 5 (by simp) (by unfold maxLen; omega)
set_option maxHeartbeats 4000000 in
theorem tup_less (a b : Tup) (w : World) : Calls Tryz.prog 109 #[.agg (encT a), .agg (encT b)] w (LessPost (ltT a b) w) := by
  have HL := Lib.hid (or_lt a b)
  have HP := grow3 w (.cells (encT a) 65) (.cells (encT b) 65)
  have HP' := Lib.hid HP
  clear HP
  go_enter Tryz.func109, Tryz.ntmps109
  go_wp2_with fail
  have hA : ((w.alloc (.cells (encT a) 65)).alloc (.cells (encT b) 65)).heap[w.heap.size]? = some (.cells (encT a) 65 (0, 0)) := (hp_alloc_old (by simp)).trans hp_alloc_new
  have hB : ((w.alloc (.cells (encT a) 65)).alloc (.cells (encT b) 65)).heap[w.heap.size + 1]? = some (.cells (encT b) 65 (0, 0)) := hp_alloc_at (by simp)
  generalize (w.alloc (.cells (encT a) 65)).alloc (.cells (encT b) 65) = W at *
  generalize w.heap.size + 1 = g2 at *
  generalize w.heap.size = g1 at *
  have a0 := cell_of (o := 0) hA rfl
  have a1 := cell_of (o := 1) hA rfl
  have a2 := cell_of (o := 2) hA rfl
  have a3 := cell_of (o := 3) hA rfl
  have a4 := cell_of (o := 4) hA rfl
  have b0 := cell_of (o := 0) hB rfl
  have b1 := cell_of (o := 1) hB rfl
  have b2 := cell_of (o := 2) hB rfl
  have b3 := cell_of (o := 3) hB rfl
  have b4 := cell_of (o := 4) hB rfl
  clear hA hB
  refine wp_region_still_tail 25 (by kernel_rfl) (by kernel_rfl) ?_
  simp only [List.take_succ_cons, List.take_zero, List.drop_succ_cons, List.drop_zero]
  change wpStill _ _ W.drew _ _ _
  repeat still_step
  still_call (cmp_u32 _ _ _)
  repeat still_step
  still_call (cmp_u32 _ _ _)
  repeat still_step
  still_call (cmp_int _ _ _)
  repeat still_step
  still_call (cmp_int _ _ _)
  repeat still_step
  still_call (cmp_int _ _ _)
  refine wpStill_nil ?_
  change wpList _ _ _ _ _ W.drew
  clear a0 a1 a2 a3 a4 b0 b1 b2 b3 b4
  have HO := Lib.hid (fun W' : World => cmp_or5 (cmpI a.src b.src) (cmpI a.dst b.dst) (cmpI a.proto b.proto) (cmpI a.sport b.sport) (cmpI a.dport b.dport) W')
  generalize orI [cmpI a.src b.src, cmpI a.dst b.dst, cmpI a.proto b.proto, cmpI a.sport b.sport, cmpI a.dport b.dport] = r at *
  generalize cmpI a.src b.src = x1 at *
  generalize cmpI a.dst b.dst = x2 at *
  generalize cmpI a.proto b.proto = x3 at *
  generalize cmpI a.sport b.sport = x4 at *
  generalize cmpI a.dport b.dport = x5 at *
  go_wp2_with fail
  refine (HO.out _).mono ?_
  rintro e w2 ⟨rfl, rfl⟩
  go_wp2_with fail
  go_ret
  exact ⟨by rw [← HL.out]; rfl, 1, _, HP'.out _⟩
end Go.Proofs.YtogclkhpbjfadaaGreat
namespace Go.Proofs.YtogclkhpbjfadaaGreat
open Go.RowKit Go.Shelf Go.Sort
open Go.Maps (Keyed)
set_option linter.unusedVariables false
set_option maxRecDepth 100000
def cfF (x y : Fl) : Int := if ltT x.t y.t = true then -1 else 1
theorem cfF_lt (x y : Fl) : ltOf cfF x y = ltT x.t y.t := by
  unfold ltOf cfF
  by_cases h : ltT x.t y.t = true <;> simp [h]
theorem swoF : SWO (ltOf cfF) where
  irrefl x := by rw [cfF_lt]; exact ltT_irrefl _
  trans x y z h1 h2 := by rw [cfF_lt] at *; exact ltT_trans h1 h2
  ntrans x y z h1 h2 := by
    rw [cfF_lt] at *
    cases h : ltT x.t z.t with
    | false => rfl
    | true =>
      cases hyx : ltT y.t x.t with
      | true => rw [ltT_trans hyx h] at h2; cases h2
      | false =>
        have e := ltT_total h1 hyx
        rw [e] at h; rw [h] at h2; cases h2
abbrev encL (f : Fl) : List Value := (encF f).toList
def leF (x y : Fl) : Bool := !ltT y.t x.t
def sortF (L : List Fl) : List Fl := L.mergeSort leF
theorem sortF_perm (L : List Fl) : (sortF L).Perm L := List.mergeSort_perm _ _
theorem sortF_row (L : List Fl) : (sortF L).Pairwise (fun x y => ltT y.t x.t = false) := by
  have := List.pairwise_mergeSort (le := leF) (fun a b c h1 h2 => by
    simp only [leF, Bool.not_eq_true'] at *
    have := swoF.ntrans c b a (by rw [cfF_lt]; exact h2) (by rw [cfF_lt]; exact h1)
    rwa [cfF_lt] at this) (fun a b => by
    simp only [leF, Bool.or_eq_true, Bool.not_eq_true']
    cases h : ltT b.t a.t with
    | false => left; rfl
    | true =>
      right
      cases h2 : ltT a.t b.t with
      | false => rfl
      | true => have := ltT_trans h h2; rw [ltT_irrefl] at this; cases this) L
  exact this.imp (fun h => by simpa [leF] using h)
theorem sort_eq {L M : List Fl} (hp : M.Perm L) (hk : (L.map (·.t)).Nodup) (hs : M.Pairwise (fun x y => ltT y.t x.t = false)) : M = sortF L := by
  have hp2 : M.Perm (sortF L) := hp.trans (sortF_perm L).symm
  refine List.Perm.eq_of_pairwise (le := fun a b : Fl => ltT b.t a.t = false) (fun a b ha hb h1 h2 => ?_) hs (sortF_row L) hp2
  have ht : a.t = b.t := ltT_total h2 h1
  have ha' : a ∈ L := hp.mem_iff.1 ha
  have hb' : b ∈ L := (sortF_perm L).mem_iff.1 hb
  obtain ⟨i, hi, rfl⟩ := List.mem_iff_getElem.1 ha'
  obtain ⟨j, hj, rfl⟩ := List.mem_iff_getElem.1 hb'
  have : (L.map (·.t))[i]? = (L.map (·.t))[j]? := by simp [hi, hj, ht]
  have := (List.getElem?_inj (by simpa using hi) hk).1 this
  subst this; rfl
theorem sorted_list {d : Array Fl} (h : SortedIn (ltOf cfF) 0 d.size d) : d.toList.Pairwise (fun x y => ltT y.t x.t = false) := by
  rw [List.pairwise_iff_getElem]
  intro i j hi hj hij
  have := h i j (Nat.zero_le _) hij (by simpa using hj)
  rw [cfF_lt, getElem!_pos d i (by simpa using hi), getElem!_pos d j (by simpa using hj)] at this
  simpa using this
theorem flatF_enc (L : List Fl) : flatF L = (L.map encL).flatten := rfl
set_option maxHeartbeats 2000000 in
theorem all_cmp (x y : Fl) (W : World) : Calls Tryz.prog 108 #[.agg (encF x), .agg (encF y)] W fun e w' => e = .returned (.int .i64 (cfF x y)) ∧ ∃ q os', w' = grow (W.drewN q) os' := by
  have HP : Hid (∀ q os, ∃ q' os', grow (((W.alloc (.cells (encF x) 67)).alloc (.cells (encF y) 67)).drewN q) os = grow (W.drewN q') os') := Lib.hid fun q os => ⟨q, _, by rw [Sort.alloc_eq_grow, Sort.alloc_eq_grow, Sort.grow_grow]; show grow (grow (W.drewN q) _) os = _; rw [Sort.grow_grow]⟩
  have C1 := Lib.hid (fun w => tup_less x.t y.t w)
  have HC : Hid (cfF x y = if ltT x.t y.t = true then -1 else 1) := Lib.hid rfl
  generalize cfF x y = r at *
  generalize ltT x.t y.t = b at *
  go_enter Tryz.func108, Tryz.ntmps108
  cases b
  · obtain rfl : r = 1 := by simpa using HC.out
    go_wp2_with fail
    refine (C1.out _).mono ?_
    rintro e w1 ⟨rfl, q, os, hw⟩
    have HW := Lib.hid hw
    clear hw
    go_wp2_with fail
    go_ret
    exact ⟨rfl, by rw [HW.out]; exact HP.out q os⟩
  · obtain rfl : r = -1 := by simpa using HC.out
    go_wp2_with fail
    refine (C1.out _).mono ?_
    rintro e w1 ⟨rfl, q, os, hw⟩
    have HW := Lib.hid hw
    clear hw
    go_wp2_with fail
    go_ret
    exact ⟨rfl, by rw [HW.out]; exact HP.out q os⟩
theorem all_lays (blk off size : Nat) (w : World) : CmpLays Tryz.prog 108 #[] encL 8 cfF blk off size w :=
  fun _ _ _ _ x y => all_cmp x y _
theorem isAggF (w : World) : (isAgg 67).run Tryz.prog w = .ok true w := by kernel_rfl
theorem sizeOfF (w : World) : (Go.sizeOf 67).run Tryz.prog w = .ok 8 w := by kernel_rfl
theorem sort_call {w : World} {base g cap : Nat} {xs L : List Fl} (hrow : w.ownsRow base 67 8 (.slice (some ⟨g, 0, none⟩) xs.length cap) xs.length (flatF xs)) (hp : xs.Perm L) (hL : L.length ≤ 1000000) (hk : (L.map (·.t)).Nodup) :
    Calls Tryz.prog 198 #[.slice (some ⟨g, 0, none⟩) xs.length cap, .func (.func 108) #[] #[]] w fun e w' => e = .returned (.tuple #[]) ∧ w'.ownsRow base 67 8 (.slice (some ⟨g, 0, none⟩) xs.length cap) xs.length (flatF (sortF L)) ∧ w.grownBy w' (some g) := by
  rcases hrow.2 with ⟨e, _⟩ | ⟨g', cap', cur, e, hbase, hgb, r1, r2, r3, r4⟩
  · cases e
  cases e
  have hH : HoldsK encL 8 w g 0 xs.toArray := holdsK_row (fun _ => rfl) (by omega) hgb (by simpa [flatF] using r4)
  have hsz : xs.length < 4611686018427387904 := by have := hp.length_eq; omega
  have hcon := AnyQ.slices_SortFunc Tryz.sortF 8 isAggF sizeOfF encL (fun _ => rfl) (fun x v hv => by simp [encL] at hv; rcases hv with rfl | rfl | rfl | rfl | rfl | rfl | rfl | rfl <;> rfl) cfF swoF 108 #[] g 0 cap xs.toArray w
    (enters_of Tryz.func108 (by kernel_rfl) rfl) (all_lays g 0 xs.toArray.size w) hH (hp_lt hgb) (by simpa using hsz)
  refine (show Calls Tryz.prog 198 #[.slice (some ⟨g, 0, none⟩) xs.length cap, .func (.func 108) #[] #[]] w _ from hcon).mono fun e w' ⟨he, d', n, os, hpm, hsd, hw⟩ => ⟨he, ?_, ?_⟩
  · have hds : d'.size = xs.length := by have := hpm.1; simpa using this
    have hd : d'.toList = sortF L := by
      refine sort_eq ?_ hk (sorted_list (by rw [hds]; simpa using hsd))
      have h3 := hpm.2.2
      simp only [List.size_toArray, ← hds, Array.extract_size] at h3
      have : (xs.toArray.extract 0 d'.size).toList = xs := by rw [hds]; simp
      rw [this] at h3
      exact h3.trans hp
    rw [hw, flatF_enc, ← hd]
    exact ownsRow_sortK (fun _ => rfl) (by omega) hds hbase hgb r1 r2 r3
  · rw [hw]; exact grownBy_sortK d'
theorem srt_t {L : List Fl} (h : SrtF L) : (L.map (·.t)).Nodup := by
  unfold List.Nodup
  rw [List.pairwise_map]
  refine List.Pairwise.imp (fun {x y} hl e => ?_) h
  rw [e, ltT_irrefl] at hl; cases hl
theorem sorted_callF (Bm bm : Nat) (L : List Fl) (w : World) (hL : L.length ≤ 1000000) (hBm : Bm < w.heap.size) (hm : w.cell? ⟨Bm, 0, none⟩ = some (.map (some bm))) (hM : MapR Tryz.prog 65 w bm (tabR svT svF L) L.length) (hs : SrtF L) :
    Calls Tryz.prog 106 #[.func (.func 199) #[] #[.pointer (some ⟨Bm, 0, none⟩)], .func (.func 108) #[] #[]] w fun e w' => ∃ v, e = .returned v ∧ w'.ownsRow w.heap.size 67 8 v L.length (flatF (sortF L)) ∧ Below w.heap.size w w' := by
  have hk := srt_t hs
  have HC := Lib.hid (collect_call Bm bm L w hL hBm hm hM (nodup_svT hs))
  have HK := Lib.hid hk
  have HL := Lib.hid hL
  clear hM hm hk hs hBm hL
  go_enter Tryz.func106, Tryz.ntmps106
  go_wp2_with fail
  refine HC.out.mono ?_
  rintro e w1 ⟨v, xs, rfl, hp, hrow, hb⟩
  have hlen : xs.length = L.length := hp.length_eq
  have HB := Lib.hid hb
  rcases hrow.2 with ⟨rfl, hz⟩ | ⟨g, cap, cur, rfl, hbase, hgb, r1, r2, r3, r4⟩
  · have hL0 : L = [] := List.length_eq_zero_iff.1 (by omega)
    subst hL0
    have HR : Hid (w1.ownsRow w.heap.size 67 8 (.slice none 0 0) ([] : List Fl).length (flatF (sortF []))) := Lib.hid (by
      have e : flatF xs = flatF (sortF []) := by
        rw [List.length_eq_zero_iff.1 hz]; simp [sortF]
      rw [← e]
      have e2 : ([] : List Fl).length = xs.length := by simp [hz]
      rw [e2]; exact hrow)
    have cN := AnyF.slices_SortFunc_none (P := Tryz.prog) Tryz.sortF none 0 (.func (.func 108) #[] #[]) w1
    have CN : Hid (Calls Tryz.prog 198 #[.slice none 0 0, .func (.func 108) #[] #[]] w1 fun e w' => e = .returned (.tuple #[]) ∧ w' = w1) := Lib.hid cN
    clear hrow hp hb hlen hz cN
    go_wp2_with fail
    refine CN.out.mono ?_
    rintro e w2 ⟨rfl, rfl⟩
    go_wp2_with fail
    go_ret
    exact ⟨_, rfl, HR.out, HB.out⟩
  · have CS := Lib.hid (sort_call hrow hp HL.out HK.out)
    have HG := Lib.hid hbase
    have HLEN := Lib.hid hlen
    clear hrow hp hb hlen hgb r1 r2 r3 r4 hbase
    go_wp2_with fail
    refine CS.out.mono ?_
    rintro e w2 ⟨rfl, hr, hg⟩
    have HR := Lib.hid hr
    have HG2 := Lib.hid hg
    clear hr hg CS
    go_wp2_with fail
    go_ret
    exact ⟨_, rfl, by rw [← HLEN.out]; exact HR.out, HB.out.grown HG2.out HB.out.size (fun j e => by cases e; exact HG.out)⟩
theorem sortF_srt {L : List Fl} (h : SrtF L) : sortF L = L := by
  refine (sort_eq (List.Perm.refl L) (srt_t h) (List.Pairwise.imp (fun {x y} hl => ?_) h)).symm
  cases e : ltT y.t x.t with
  | false => rfl
  | true => have := ltT_trans hl e; rw [ltT_irrefl] at this; cases this
section
variable {F0 : List Nat} {w0 w : World} {R : List Asrt} {fm : Nat} {L : List Fl}
theorem o_flsort (h : In F0 w0 w R) (i : Nat) (hA : R[i]? = some (SFM fm L)) (hs : SrtF L) (hL : L.length ≤ 1000000) :
    Calls Tryz.prog 106 #[.func (.func 199) #[] #[.pointer (some ⟨w.heap.size, 0, none⟩)], .func (.func 108) #[] #[]] (w.alloc (.cells #[.map (some fm)] 155)) fun e w' => ∃ a c, e = .returned (.slice a L.length c) ∧ In F0 w0 w' (RowA 67 8 (.slice a L.length c) L.length ((L.map encFs).flatten) :: R) := by
  have h2 := h.alloc (.cells #[.map (some fm)] 155)
  obtain ⟨Fm, hbm⟩ := h2.get i hA
  refine (sorted_callF w.heap.size fm L _ hL (by simp) (cell_of hp_alloc_new rfl) hbm.2 hs).mono fun e w' ⟨v, he, hrow, hbel⟩ => ?_
  rw [sortF_srt hs] at hrow
  obtain ⟨hr1, hr2⟩ := row_new hrow
  obtain ⟨a, c, rfl, -, -, -⟩ := hr1.shape
  exact ⟨a, c, he, In.below h2 hbel (RowA.framed _ _ _ _ _) hr1 hr2⟩
end
end Go.Proofs.YtogclkhpbjfadaaGreat
