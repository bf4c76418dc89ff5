/- Tuples, by their order: cmp.Compare, cmp.Or, tuple.Less. -/
import Derived.Test.YtcakgponofbhkaaTup
import Derived.StillTailTactics
import Derived.Sort.Grow
import Derived.Deep.Draws
namespace Go.Proofs.Ytcakgponofbhkaa
open Go.RowKit
set_option linter.unusedVariables false
set_option maxRecDepth 100000

def cmpI (a b : Int) : Int := if a < b then -1 else if b < a then 1 else 0
theorem cmp_cases (a b : Int) : (a < b ∧ cmpI a b = -1) ∨ (decide (a < b) = false ∧ b < a ∧ cmpI a b = 1) ∨ (decide (a < b) = false ∧ decide (b < a) = false ∧ cmpI a b = 0) := by
  unfold cmpI
  by_cases h : a < b
  · left; simp [h]
  · right
    by_cases h2 : b < a
    · left; simp [h, h2]
    · right; simp [h, h2]
theorem cmp_u32 (a b : Int) (w : World) : Calls Try.prog 87 #[.int .u32 a, .int .u32 b] w fun e w' => e = .returned (.int .i64 (cmpI a b)) ∧ w' = w := by
  rcases cmp_cases a b with ⟨h, e⟩ | ⟨h, h2, e⟩ | ⟨h, h2, e⟩
  all_goals
    rw [e]
    clear e
    go_enter Try.func87, Try.ntmps87
    go_wp2
    go_ret
    exact ⟨rfl, rfl⟩
theorem cmp_int (a b : Int) (w : World) : Calls Try.prog 88 #[.int .i64 a, .int .i64 b] w fun e w' => e = .returned (.int .i64 (cmpI a b)) ∧ w' = w := by
  rcases cmp_cases a b with ⟨h, e⟩ | ⟨h, h2, e⟩ | ⟨h, h2, e⟩
  all_goals
    rw [e]
    clear e
    go_enter Try.func88, Try.ntmps88
    go_wp2
    go_ret
    exact ⟨rfl, rfl⟩
/-- The first that is not 0. -/
def orI (l : List Int) : Int := (l.find? (fun x => x != 0)).getD 0
def OrRel (l : List Int) (v k : Value) : Prop := ∃ j : Nat, k = .int .i64 j ∧ j ≤ l.length ∧ ∀ i x, i < j → l[i]? = some x → x = 0
theorem or_here {l : List Int} {j : Nat} {x : Int} (hz : ∀ i y, i < j → l[i]? = some y → y = 0) (hx : l[j]? = some x) (h : x ≠ 0) : orI l = x := by
  induction l generalizing j with
  | nil => simp at hx
  | cons y r ih =>
    cases j with
    | zero => simp at hx; subst hx; simp [orI, h]
    | succ j =>
      have : y = 0 := hz 0 y (by omega) rfl
      subst this
      have := ih (j := j) (fun i y hi hy => hz (i + 1) y (by omega) (by simpa using hy)) (by simpa using hx)
      simpa [orI] using this
theorem or_none {l : List Int} (hz : ∀ i y, i < l.length → l[i]? = some y → y = 0) : orI l = 0 := by
  induction l with
  | nil => rfl
  | cons y r ih =>
    have : y = 0 := hz 0 y (by simp) rfl
    subst this
    have := ih (fun i y hi hy => hz (i + 1) y (by simpa using hi) (by simpa using hy))
    simpa [orI] using this
set_option maxHeartbeats 1000000 in
theorem cmp_or (g : Nat) (l : List Int) (hl : l.length ≤ 1000) (w : World) (hc : ∀ j x, l[j]? = some x → w.cell? ⟨g, j, none⟩ = some (.int .i64 x)) (cap : Nat) (hcap : l.length ≤ cap) (hm : cap ≤ maxLen) :
    Calls Try.prog 86 #[.slice (some ⟨g, 0, none⟩) l.length cap] w fun e w' => e = .returned (.int .i64 (orI l)) ∧ w' = w := by
  have HC := Lib.hid hc
  clear hc
  go_enter Try.func86, Try.ntmps86
  go_wp2
  go_loop [5, 8] (OrRel l) (fun _ k => l.length - (intOf k).toNat)
  case atStart => exact ⟨0, rfl, Nat.zero_le _, fun i x hi => by omega⟩
  case round =>
    obtain ⟨j, rfl, hj, hz⟩ := hrel
    have HZ := Lib.hid hz
    clear hz
    by_cases hlt : j < l.length
    · obtain ⟨x, hx⟩ : ∃ x, l[j]? = some x := ⟨l[j], List.getElem?_eq_getElem hlt⟩
      have c0 := HC.out j x hx
      have hlt' : (j : Int) < (l.length : Int) := by omega
      have HX := Lib.hid hx
      clear hx
      by_cases h0 : x = 0
      · subst h0
        go_wp2
        go_round
        case rel => exact ⟨j + 1, by congr 1, by omega, fun i y hi hy => by
          by_cases e : i = j
          · subst e; rw [HX.out] at hy; cases hy; rfl
          · exact HZ.out i y (by omega) hy⟩
        case measure => simp [intOf]; omega
      · have HO : Hid (orI l = x) := Lib.hid (or_here HZ.out HX.out h0)
        have hne : (x != 0) = true := by simpa using h0
        go_wp2
        go_ret
        refine ⟨?_, rfl⟩
        rw [HO.out]; rfl
    · have hge : (l.length : Int) ≤ (j : Int) := by omega
      have HO : Hid (orI l = 0) := Lib.hid (or_none (fun i y hi hy => HZ.out i y (by omega) hy))
      go_wp2
      go_ret
      refine ⟨?_, rfl⟩
      rw [HO.out]; rfl
theorem or_lt (a b : Tup) : decide (orI [cmpI a.src b.src, cmpI a.dst b.dst, cmpI a.proto b.proto, cmpI a.sport b.sport, cmpI a.dport b.dport] < 0) = ltT a b := by
  rw [Bool.eq_iff_iff]
  simp only [ltT, Bool.or_eq_true, Bool.and_eq_true, decide_eq_true_eq]
  have key : ∀ (x y : Int) (r : List Int), orI (cmpI x y :: r) < 0 ↔ (x < y ∨ (x = y ∧ orI r < 0)) := by
    intro x y r
    rcases cmp_cases x y with ⟨h, e⟩ | ⟨h, h2, e⟩ | ⟨h, h2, e⟩
    · rw [e]; simp [orI, h]
    · rw [e]; simp [orI]; simp at h; omega
    · rw [e]
      simp at h h2
      have : x = y := by omega
      subst this
      simp [orI]
  rw [key, key, key, key, key]
  simp [orI]
def LessPost (b : Bool) (w : World) (e : Ending) (w' : World) : Prop := e = .returned (.bool b) ∧ ∃ q os, w' = Sort.grow (w.drewN q) os
theorem grow3 (w : World) (x y z : Obj) : (((w.alloc x).alloc y).alloc z).drew = Sort.grow (w.drewN 1) (#[x] ++ #[y] ++ #[z]) := by
  rw [Sort.alloc_eq_grow, Sort.alloc_eq_grow, Sort.alloc_eq_grow, Sort.grow_grow, Sort.grow_grow]; rfl
theorem cmp_or5 (x1 x2 x3 x4 x5 : Int) (W : World) : Calls Try.prog 86 #[.slice (some ⟨W.heap.size, 0, none⟩) 5 5] (W.alloc (.cells #[.int .i64 x1, .int .i64 x2, .int .i64 x3, .int .i64 x4, .int .i64 x5] 3)).drew
    fun e w' => e = .returned (.int .i64 (orI [x1, x2, x3, x4, x5])) ∧ w' = (W.alloc (.cells #[.int .i64 x1, .int .i64 x2, .int .i64 x3, .int .i64 x4, .int .i64 x5] 3)).drew :=
  cmp_or W.heap.size [x1, x2, x3, x4, x5] (by simp) _ (fun j x hx => cell_of (C := #[.int .i64 x1, .int .i64 x2, .int .i64 x3, .int .i64 x4, .int .i64 x5]) (T := 3) (fz := (0, 0)) (w := (W.alloc (.cells #[.int .i64 x1, .int .i64 x2, .int .i64 x3, .int .i64 x4, .int .i64 x5] 3)).drew) (hp_alloc_new (w := W)) (by
    match j, hx with
    | 0, hx => simp at hx; subst hx; rfl
    | 1, hx => simp at hx; subst hx; rfl
    | 2, hx => simp at hx; subst hx; rfl
    | 3, hx => simp at hx; subst hx; rfl
    | 4, hx => simp at hx; subst hx; rfl
    | j + 5, hx => simp at hx)) 5 (by simp) (by unfold maxLen; omega)
set_option maxHeartbeats 4000000 in
theorem tup_less (a b : Tup) (w : World) : Calls Try.prog 67 #[.agg (encT a), .agg (encT b)] w (LessPost (ltT a b) w) := by
  have HL := Lib.hid (or_lt a b)
  have HP := grow3 w (.cells (encT a) 57) (.cells (encT b) 57)
  have HP' := Lib.hid HP
  clear HP
  go_enter Try.func67, Try.ntmps67
  go_wp2_with fail
  have hA : ((w.alloc (.cells (encT a) 57)).alloc (.cells (encT b) 57)).heap[w.heap.size]? = some (.cells (encT a) 57 (0, 0)) := (hp_alloc_old (by simp)).trans hp_alloc_new
  have hB : ((w.alloc (.cells (encT a) 57)).alloc (.cells (encT b) 57)).heap[w.heap.size + 1]? = some (.cells (encT b) 57 (0, 0)) := hp_alloc_at (by simp)
  generalize (w.alloc (.cells (encT a) 57)).alloc (.cells (encT b) 57) = W at *
  generalize w.heap.size + 1 = g2 at *
  generalize w.heap.size = g1 at *
  have a0 := cell_of (o := 0) hA rfl
  have a1 := cell_of (o := 1) hA rfl
  have a2 := cell_of (o := 2) hA rfl
  have a3 := cell_of (o := 3) hA rfl
  have a4 := cell_of (o := 4) hA rfl
  have b0 := cell_of (o := 0) hB rfl
  have b1 := cell_of (o := 1) hB rfl
  have b2 := cell_of (o := 2) hB rfl
  have b3 := cell_of (o := 3) hB rfl
  have b4 := cell_of (o := 4) hB rfl
  clear hA hB
  refine wp_region_still_tail 25 (by kernel_rfl) (by kernel_rfl) ?_
  simp only [List.take_succ_cons, List.take_zero, List.drop_succ_cons, List.drop_zero]
  change wpStill _ _ W.drew _ _ _
  repeat still_step
  still_call (cmp_u32 _ _ _)
  repeat still_step
  still_call (cmp_u32 _ _ _)
  repeat still_step
  still_call (cmp_int _ _ _)
  repeat still_step
  still_call (cmp_int _ _ _)
  repeat still_step
  still_call (cmp_int _ _ _)
  refine wpStill_nil ?_
  change wpList _ _ _ _ _ W.drew
  clear a0 a1 a2 a3 a4 b0 b1 b2 b3 b4
  have HO := Lib.hid (fun W' : World => cmp_or5 (cmpI a.src b.src) (cmpI a.dst b.dst) (cmpI a.proto b.proto) (cmpI a.sport b.sport) (cmpI a.dport b.dport) W')
  generalize orI [cmpI a.src b.src, cmpI a.dst b.dst, cmpI a.proto b.proto, cmpI a.sport b.sport, cmpI a.dport b.dport] = r at *
  generalize cmpI a.src b.src = x1 at *
  generalize cmpI a.dst b.dst = x2 at *
  generalize cmpI a.proto b.proto = x3 at *
  generalize cmpI a.sport b.sport = x4 at *
  generalize cmpI a.dport b.dport = x5 at *
  go_wp2_with fail
  refine (HO.out _).mono ?_
  rintro e w2 ⟨rfl, rfl⟩
  go_wp2_with fail
  go_ret
  exact ⟨by rw [← HL.out]; rfl, 1, _, HP'.out _⟩
end Go.Proofs.Ytcakgponofbhkaa
