/- Rows.PathPlaysSaid -/
import Derived.Test.YtgapbecddgfkmaaGreatPY12
import Derived.Test.YtgapbecddgfkmaaGreatPY9
import Derived.Test.YtgapbecddgfkmaaGreatPY10
import Derived.BigQuiet
import Derived.Deep.DeepCutAuto
import Derived.Deep.RegionHeld3
import Derived.Deep.QuietTactic
namespace Go.Proofs.YtgapbecddgfkmaaGreat
open Go.RowKit
set_option linter.unusedVariables false
set_option maxHeartbeats 64000000
set_option maxRecDepth 100000
section
variable {F0 : List Nat} {w0 w : World} {R : List Asrt}
theorem ir_at {a : Option Addr} {n cap k : Nat} {t : List Int} (h : In F0 w0 w R) (i : Nat) (hA : R[i]? = some (IR (.slice a n cap) t)) (hk : k < t.length) : ∃ g, a = some ⟨g, 0, none⟩ := by
  obtain ⟨F, r⟩ := h.get i hA
  obtain ⟨a', c', e, _, _, hat⟩ := RowA.shape r
  rw [Value.slice.injEq] at e
  obtain ⟨g, e2, _⟩ := hat k (.int .i64 (t.getD k 0)) (by simp [iV, List.getD_eq_getElem?_getD, hk])
  exact ⟨g, e.1.trans e2⟩
def PickPost (r : Option Bk) (F0 : List Nat) (w0 : World) (R : List Asrt) (e : Ending) (w' : World) : Prop := e = .returned (.tuple #[.agg (encBa (r.getD zBk)), .bool r.isSome]) ∧ In F0 w0 w' R
theorem o_chpick {cb : Nat} {c : ChD} {vl vt : Value} {t : Tup} (hw : WfT t) (hm : 1 ≤ c.slots ∧ c.slots ≤ 251) (ht : c.t.length = c.slots) (hl : c.l.length ≤ 1000000) (h : In F0 w0 w (ChL cb c vl vt R)) :
    Calls Tryz.prog 41 #[pC cb, .agg (encT t)] w (PickPost (pickCh c t) F0 w0 (ChL cb c vl vt R)) := by
  have h1 := (h.cells (encT t) 24).cells #[.int .i64 0, .int .u32 0, .int .i64 0] 33
  rw [World.size_alloc] at h1
  by_cases hmay : MayT t
  case neg =>
    have e : pickCh c t = none := by unfold pickCh; rw [if_neg hmay]
    have K0 := Lib.hid (tmay_false hmay ((w.alloc (.cells (encT t) 24)).alloc (.cells #[.int .i64 0, .int .u32 0, .int .i64 0] 33)))
    have h2 := h1.alloc (.cells (encT t) 24)
    rw [e]
    have htH := Lib.hid (there_of (h2.block 0 rfl))
    have G := Lib.hid (h2.setFull 0 rfl (xs := [.int .i64 0, .int .u32 0, .int .i64 0]) (b := w.heap.size + 1) (C := #[.int .i64 0, .int .u32 0, .int .i64 0]) (T := 33) rfl)
    have c0 : ((w.alloc (.cells (encT t) 24)).alloc (.cells #[.int .i64 0, .int .u32 0, .int .i64 0] 33)).heap[w.heap.size]? = some (.cells (encT t) 24 (0, 0)) := h1.block 1 rfl
    have b0 : ((w.alloc (.cells (encT t) 24)).alloc (.cells #[.int .i64 0, .int .u32 0, .int .i64 0] 33)).cell? ⟨w.heap.size, 0, none⟩ = some (.int .u32 t.src) := cell_of c0 rfl
    have b1 : ((w.alloc (.cells (encT t) 24)).alloc (.cells #[.int .i64 0, .int .u32 0, .int .i64 0] 33)).cell? ⟨w.heap.size, 1, none⟩ = some (.int .u32 t.dst) := cell_of c0 rfl
    have b2 : ((w.alloc (.cells (encT t) 24)).alloc (.cells #[.int .i64 0, .int .u32 0, .int .i64 0] 33)).cell? ⟨w.heap.size, 2, none⟩ = some (.int .i64 t.proto) := cell_of c0 rfl
    have b3 : ((w.alloc (.cells (encT t) 24)).alloc (.cells #[.int .i64 0, .int .u32 0, .int .i64 0] 33)).cell? ⟨w.heap.size, 3, none⟩ = some (.int .i64 t.sport) := cell_of c0 rfl
    have b4 : ((w.alloc (.cells (encT t) 24)).alloc (.cells #[.int .i64 0, .int .u32 0, .int .i64 0] 33)).cell? ⟨w.heap.size, 4, none⟩ = some (.int .i64 t.dport) := cell_of c0 rfl
    clear h h1 h2 hmay hw hm ht hl e c0
    go_enter Tryz.func41, Tryz.ntmps41
    go_wp2_with fail
    refine K0.out.mono ?_
    rintro e w1 ⟨rfl, rfl⟩
    clear K0 b0 b1 b2 b3 b4
    go_wp2_with (refine wpList_store_mid (op := ⟨none, Op.store 33 (.tmp 4) (.tmp 13), _, _, _, _⟩) (by rfl) 33 (.tmp 4) (.tmp 13) rfl (w.heap.size + 1) 0 (encBa zBk) (by rfl) (by rfl) htH.out (by kernel_rfl) (encBa_all _ _ _) ?_)
    exact bodyPost_ret (results_cell_tmp_row Tryz.results41 _ _ (w.heap.size + 1) 33 _ (0, 0) _ rfl (G.out.block 0 rfl) Tryz.underlying33 rfl (by kernel_rfl)) rfl ⟨rfl, G.out.drop.drop⟩
  case pos =>
  obtain ⟨m, tl, tt, md⟩ := c
  simp only at hm ht hl
  have e : pickCh ⟨m, tl, tt, md⟩ t = findBk tl (tt.getD (hashT t % m) 0) := by unfold pickCh; rw [if_pos hmay]
  have K0 := Lib.hid (tmay_true hmay ((w.alloc (.cells (encT t) 24)).alloc (.cells #[.int .i64 0, .int .u32 0, .int .i64 0] 33)))
  obtain ⟨hh, ehh⟩ : ∃ hh, hh = hashT t := ⟨_, rfl⟩
  have hhl : hh < 4294967296 := by rw [ehh]; exact mixN_lt _ _
  rw [← ehh] at e
  have KH0 := fun w' R' (h' : In F0 w0 w' R') => o_thash h' hw
  rw [← ehh] at KH0
  have KH := Lib.hid KH0
  have hmz : ¬ ((m : Int) = 0) := by omega
  have hmz' : ¬ (m = 0) := by omega
  have hmw : IntKind.u32.wrap (m : Int) = (m : Int) := u32_small (by omega) (by omega)
  have hmod : Int.tmod (hh : Int) (m : Int) = ((hh % m : Nat) : Int) := by rw [Int.tmod_eq_emod_of_nonneg (by omega), Int.natCast_emod]
  have hixl : hh % m < m := Nat.mod_lt _ (by omega)
  have hxw : IntKind.u32.wrap ((hh % m : Nat) : Int) = ((hh % m : Nat) : Int) := u32_small (by omega) (by omega)
  generalize hh % m = ix at *
  have hixm : (ix : Int) < (m : Int) := by omega
  obtain ⟨Fv, rv⟩ := h1.get 4 rfl
  obtain ⟨pt, ct, e2, -, -, -⟩ := RowA.shape rv
  simp only [ht] at e2
  subst e2
  obtain ⟨gt, rfl⟩ := ir_at (k := ix) h1 4 rfl (by simp only; omega)
  have HT : Hid (∀ W R1 R2, In F0 w0 W (R1 :: R2 :: ChL cb ⟨m, tl, tt, md⟩ vl (.slice (some ⟨gt, 0, none⟩) m ct) R) → W.cell? ⟨gt, ix, none⟩ = some (.int .i64 (tt.getD ix 0))) := Lib.hid fun W R1 R2 hW => (row_int (k := ix) hW 4 rfl (by simp only; omega)).1
  generalize tt.getD ix 0 = x at *
  have HE := Lib.hid e
  have KF := Lib.hid (fun w' R1 R2 (h' : In F0 w0 w' (R1 :: R2 :: ChL cb ⟨m, tl, tt, md⟩ vl (.slice (some ⟨gt, 0, none⟩) m ct) R)) => o_chfind (cb := cb) (c := ⟨m, tl, tt, md⟩) (vl := vl) (vt := .slice (some ⟨gt, 0, none⟩) m ct) (R := R1 :: R2 :: R) x hl (h'.sel2 (R1 := [_, _, _, _, _]) [2, 3, 4, 0, 1] (by decide) rfl))
  obtain ⟨k0, k1, k2, k3, k4⟩ := t
  have b0 : ((w.alloc (.cells #[.int .u32 k0, .int .u32 k1, .int .i64 k2, .int .i64 k3, .int .i64 k4] 24)).alloc (.cells #[.int .i64 0, .int .u32 0, .int .i64 0] 33)).cell? ⟨w.heap.size, 0, none⟩ = some (.int .u32 k0) := cell_of (h1.block 1 rfl) rfl
  have b1 : ((w.alloc (.cells #[.int .u32 k0, .int .u32 k1, .int .i64 k2, .int .i64 k3, .int .i64 k4] 24)).alloc (.cells #[.int .i64 0, .int .u32 0, .int .i64 0] 33)).cell? ⟨w.heap.size, 1, none⟩ = some (.int .u32 k1) := cell_of (h1.block 1 rfl) rfl
  have b2 : ((w.alloc (.cells #[.int .u32 k0, .int .u32 k1, .int .i64 k2, .int .i64 k3, .int .i64 k4] 24)).alloc (.cells #[.int .i64 0, .int .u32 0, .int .i64 0] 33)).cell? ⟨w.heap.size, 2, none⟩ = some (.int .i64 k2) := cell_of (h1.block 1 rfl) rfl
  have b3 : ((w.alloc (.cells #[.int .u32 k0, .int .u32 k1, .int .i64 k2, .int .i64 k3, .int .i64 k4] 24)).alloc (.cells #[.int .i64 0, .int .u32 0, .int .i64 0] 33)).cell? ⟨w.heap.size, 3, none⟩ = some (.int .i64 k3) := cell_of (h1.block 1 rfl) rfl
  have b4 : ((w.alloc (.cells #[.int .u32 k0, .int .u32 k1, .int .i64 k2, .int .i64 k3, .int .i64 k4] 24)).alloc (.cells #[.int .i64 0, .int .u32 0, .int .i64 0] 33)).cell? ⟨w.heap.size, 4, none⟩ = some (.int .i64 k4) := cell_of (h1.block 1 rfl) rfl
  have h2 : In F0 w0 _ (Cells (w.heap.size + 1) #[.int .i64 0, .int .u32 0, .int .i64 0] 33 :: Cells w.heap.size #[.int .u32 k0, .int .u32 k1, .int .i64 k2, .int .i64 k3, .int .i64 k4] 24 :: ChL cb ⟨m, tl, tt, md⟩ vl (.slice (some ⟨gt, 0, none⟩) m ct) R) := (h1.alloc (.cells (encT ⟨k0, k1, k2, k3, k4⟩) 24)).drewN 1
  have HX2 := HT
  have HX : Hid (∀ W, In F0 w0 W (Cells (w.heap.size + 1) #[.int .i64 0, .int .u32 0, .int .i64 0] 33 :: Cells w.heap.size #[.int .u32 k0, .int .u32 k1, .int .i64 k2, .int .i64 k3, .int .i64 k4] 24 :: ChL cb ⟨m, tl, tt, md⟩ vl (.slice (some ⟨gt, 0, none⟩) m ct) R) → W.cell? ⟨gt, ix, none⟩ = some (.int .i64 x)) := Lib.hid fun W hW => HT.out W _ _ hW
  have HD := Lib.hid h2
  clear h h1 h2 hm ht hl hmay hw e rv hhl ehh KH0 hixl HT
  go_enter Tryz.func41, Tryz.ntmps41
  go_wp2_with fail
  refine K0.out.mono ?_
  rintro e w1 ⟨rfl, rfl⟩
  clear K0 b0 b1 b2 b3 b4
  go_upto_region 3 with fail
  generalize w.heap.size = g at *
  refine e_start (fun w' => w'.cell? ⟨cb, 0, none⟩ = some (.int .i64 m) ∧ w'.cell? ⟨cb, 2, none⟩ = some (.slice (some ⟨gt, 0, none⟩) m ct) ∧ w'.cell? ⟨g, 0, none⟩ = some (.int .u32 k0) ∧ w'.cell? ⟨g, 1, none⟩ = some (.int .u32 k1) ∧ w'.cell? ⟨g, 2, none⟩ = some (.int .i64 k2) ∧ w'.cell? ⟨g, 3, none⟩ = some (.int .i64 k3) ∧ w'.cell? ⟨g, 4, none⟩ = some (.int .i64 k4) ∧ w'.cell? ⟨gt, ix, none⟩ = some (.int .i64 x) ∧ w'.there (g + 1) 0 3) (by kernel_rfl) ⟨cell_of (HD.out.block 2 rfl) rfl, cell_of (HD.out.block 2 rfl) rfl, cell_of (HD.out.block 1 rfl) rfl, cell_of (HD.out.block 1 rfl) rfl, cell_of (HD.out.block 1 rfl) rfl, cell_of (HD.out.block 1 rfl) rfl, cell_of (HD.out.block 1 rfl) rfl, HX.out _ HD.out, there_of (HD.out.block 0 rfl)⟩ (fun hS => ?_)
  refine e_take (i := 0) (v := ?_) rfl (by kernel_rfl) (fun _ _ _ h => h) (by rfl) ?_ hS ?_
  rotate_left
  · (intro w hSw; (try dsimp only at hSw); go_simp; try with_reducible rfl)
  try simp only [Act.put, List.setIfInBounds_toArray, List.set_cons_zero, List.set_cons_succ]
  refine e_take (i := 1) (v := ?_) rfl (by kernel_rfl) (fun _ _ _ h => h) (by rfl) ?_ hS ?_
  rotate_left
  · (intro w hSw; (try dsimp only at hSw); go_simp; try with_reducible rfl)
  try simp only [Act.put, List.setIfInBounds_toArray, List.set_cons_zero, List.set_cons_succ]
  refine e_take (i := 2) (v := ?_) rfl (by kernel_rfl) (fun _ _ _ h => h) (by rfl) ?_ hS ?_
  rotate_left
  · (intro w hSw; (try dsimp only at hSw); go_simp; try with_reducible rfl)
  try simp only [Act.put, List.setIfInBounds_toArray, List.set_cons_zero, List.set_cons_succ]
  refine e_take (i := 3) (v := ?_) rfl (by kernel_rfl) (fun _ _ _ h => h) (by rfl) ?_ hS ?_
  rotate_left
  · (intro w hSw; (try dsimp only at hSw); go_simp; try with_reducible rfl)
  try simp only [Act.put, List.setIfInBounds_toArray, List.set_cons_zero, List.set_cons_succ]
  refine e_take (i := 4) (v := ?_) rfl (by kernel_rfl) (fun _ _ _ h => h) (by rfl) ?_ hS ?_
  rotate_left
  · (intro w hSw; (try dsimp only at hSw); go_simp; try with_reducible rfl)
  try simp only [Act.put, List.setIfInBounds_toArray, List.set_cons_zero, List.set_cons_succ]
  refine e_take (i := 5) (v := ?_) rfl (by kernel_rfl) (fun _ _ _ h => h) (by rfl) ?_ hS ?_
  rotate_left
  · (intro w hSw; (try dsimp only at hSw); go_simp; try with_reducible rfl)
  try simp only [Act.put, List.setIfInBounds_toArray, List.set_cons_zero, List.set_cons_succ]
  refine e_take (i := 7) (v := ?_) rfl (by kernel_rfl) (fun _ _ _ h => h) (by rfl) ?_ hS ?_
  rotate_left
  · (intro w hSw; (try dsimp only at hSw); go_simp; try with_reducible rfl)
  try simp only [Act.put, List.setIfInBounds_toArray, List.set_cons_zero, List.set_cons_succ]
  refine e_take (i := 8) (v := ?_) rfl (by kernel_rfl) (fun _ _ _ h => h) (by rfl) ?_ hS ?_
  rotate_left
  · (intro w hSw; (try dsimp only at hSw); go_simp; try with_reducible rfl)
  try simp only [Act.put, List.setIfInBounds_toArray, List.set_cons_zero, List.set_cons_succ]
  refine e_take (i := 9) (v := ?_) rfl (by kernel_rfl) (fun _ _ _ h => h) (by rfl) ?_ hS ?_
  rotate_left
  · (intro w hSw; (try dsimp only at hSw); go_simp; try with_reducible rfl)
  try simp only [Act.put, List.setIfInBounds_toArray, List.set_cons_zero, List.set_cons_succ]
  refine e_take (i := 10) (v := ?_) rfl (by kernel_rfl) (fun _ _ _ h => h) (by rfl) ?_ hS ?_
  rotate_left
  · (intro w hSw; (try dsimp only at hSw); go_simp; try with_reducible rfl)
  try simp only [Act.put, List.setIfInBounds_toArray, List.set_cons_zero, List.set_cons_succ]
  refine e_take (i := 11) (v := ?_) rfl (by kernel_rfl) (fun _ _ _ h => h) (by rfl) ?_ hS ?_
  rotate_left
  · (intro w hSw; (try dsimp only at hSw); go_simp; try with_reducible rfl)
  try simp only [Act.put, List.setIfInBounds_toArray, List.set_cons_zero, List.set_cons_succ]
  refine e_pin (i := 6) rfl (by kernel_rfl) (fun K' hK => ?_)
  go_simp
  go_at_call 78
  refine (KH.out _ _ HD.out).mono ?_
  rintro e w3 ⟨rfl, ho3⟩
  have HO3 := Lib.hid ho3
  have hS3 : w3.cell? ⟨cb, 0, none⟩ = some (.int .i64 m) ∧ w3.cell? ⟨cb, 2, none⟩ = some (.slice (some ⟨gt, 0, none⟩) m ct) ∧ w3.cell? ⟨g, 0, none⟩ = some (.int .u32 k0) ∧ w3.cell? ⟨g, 1, none⟩ = some (.int .u32 k1) ∧ w3.cell? ⟨g, 2, none⟩ = some (.int .i64 k2) ∧ w3.cell? ⟨g, 3, none⟩ = some (.int .i64 k3) ∧ w3.cell? ⟨g, 4, none⟩ = some (.int .i64 k4) ∧ w3.cell? ⟨gt, ix, none⟩ = some (.int .i64 x) ∧ w3.there (g + 1) 0 3 := ⟨cell_of (HO3.out.block 2 rfl) rfl, cell_of (HO3.out.block 2 rfl) rfl, cell_of (HO3.out.block 1 rfl) rfl, cell_of (HO3.out.block 1 rfl) rfl, cell_of (HO3.out.block 1 rfl) rfl, cell_of (HO3.out.block 1 rfl) rfl, cell_of (HO3.out.block 1 rfl) rfl, HX.out _ HO3.out, there_of (HO3.out.block 0 rfl)⟩
  clear ho3 hS
  refine hK.out _ _ hS3 (fun hS => ?_)
  clear hK K' hS3
  try simp only [Act.put, List.setIfInBounds_toArray, List.set_cons_zero, List.set_cons_succ]
  refine e_take (i := 12) (v := ?_) rfl (by kernel_rfl) (fun _ _ _ h => h) (by rfl) ?_ hS ?_
  rotate_left
  · (intro w hSw; (try dsimp only at hSw); go_simp; try with_reducible rfl)
  try simp only [Act.put, List.setIfInBounds_toArray, List.set_cons_zero, List.set_cons_succ]
  refine e_take (i := 13) (v := ?_) rfl (by kernel_rfl) (fun _ _ _ h => h) (by rfl) ?_ hS ?_
  rotate_left
  · (intro w hSw; (try dsimp only at hSw); go_simp; try with_reducible rfl)
  try simp only [Act.put, List.setIfInBounds_toArray, List.set_cons_zero, List.set_cons_succ]
  refine e_take (i := 14) (v := ?_) rfl (by kernel_rfl) (fun _ _ _ h => h) (by rfl) ?_ hS ?_
  rotate_left
  · (intro w hSw; (try dsimp only at hSw); go_simp; try with_reducible rfl)
  try simp only [Act.put, List.setIfInBounds_toArray, List.set_cons_zero, List.set_cons_succ]
  refine e_pin (i := 15) rfl (by kernel_rfl) (fun K' hK => ?_)
  go_simp
  go_at_call 29
  refine (KF.out _ _ _ HO3.out).mono ?_
  rintro e w4 ⟨rfl, ho4⟩
  have ho5 := ho4.sel2 (R1 := [_, _, _, _, _]) [3, 4, 0, 1, 2] (by decide) rfl
  generalize hf : (findBk tl x).isSome = fs at *
  generalize hy : (findBk tl x).getD zBk = y at *
  have h6 := ho5.setFull 0 rfl (xs := [.int .i64 y.id, .int .u32 y.addr, .int .i64 y.weight]) (b := g + 1) (C := #[.int .i64 0, .int .u32 0, .int .i64 0]) (T := 33) rfl
  have HO5 := Lib.hid ho5
  have hS4 : w4.cell? ⟨cb, 0, none⟩ = some (.int .i64 m) ∧ w4.cell? ⟨cb, 2, none⟩ = some (.slice (some ⟨gt, 0, none⟩) m ct) ∧ w4.cell? ⟨g, 0, none⟩ = some (.int .u32 k0) ∧ w4.cell? ⟨g, 1, none⟩ = some (.int .u32 k1) ∧ w4.cell? ⟨g, 2, none⟩ = some (.int .i64 k2) ∧ w4.cell? ⟨g, 3, none⟩ = some (.int .i64 k3) ∧ w4.cell? ⟨g, 4, none⟩ = some (.int .i64 k4) ∧ w4.cell? ⟨gt, ix, none⟩ = some (.int .i64 x) ∧ w4.there (g + 1) 0 3 := ⟨cell_of (HO5.out.block 2 rfl) rfl, cell_of (HO5.out.block 2 rfl) rfl, cell_of (HO5.out.block 1 rfl) rfl, cell_of (HO5.out.block 1 rfl) rfl, cell_of (HO5.out.block 1 rfl) rfl, cell_of (HO5.out.block 1 rfl) rfl, cell_of (HO5.out.block 1 rfl) rfl, HX.out _ HO5.out, there_of (HO5.out.block 0 rfl)⟩
  have HS6 : Hid ((w4.setCells (g + 1) 0 [.int .i64 y.id, .int .u32 y.addr, .int .i64 y.weight]).cell? ⟨cb, 0, none⟩ = some (.int .i64 m) ∧ (w4.setCells (g + 1) 0 [.int .i64 y.id, .int .u32 y.addr, .int .i64 y.weight]).cell? ⟨cb, 2, none⟩ = some (.slice (some ⟨gt, 0, none⟩) m ct) ∧ (w4.setCells (g + 1) 0 [.int .i64 y.id, .int .u32 y.addr, .int .i64 y.weight]).cell? ⟨g, 0, none⟩ = some (.int .u32 k0) ∧ (w4.setCells (g + 1) 0 [.int .i64 y.id, .int .u32 y.addr, .int .i64 y.weight]).cell? ⟨g, 1, none⟩ = some (.int .u32 k1) ∧ (w4.setCells (g + 1) 0 [.int .i64 y.id, .int .u32 y.addr, .int .i64 y.weight]).cell? ⟨g, 2, none⟩ = some (.int .i64 k2) ∧ (w4.setCells (g + 1) 0 [.int .i64 y.id, .int .u32 y.addr, .int .i64 y.weight]).cell? ⟨g, 3, none⟩ = some (.int .i64 k3) ∧ (w4.setCells (g + 1) 0 [.int .i64 y.id, .int .u32 y.addr, .int .i64 y.weight]).cell? ⟨g, 4, none⟩ = some (.int .i64 k4) ∧ (w4.setCells (g + 1) 0 [.int .i64 y.id, .int .u32 y.addr, .int .i64 y.weight]).cell? ⟨gt, ix, none⟩ = some (.int .i64 x) ∧ (w4.setCells (g + 1) 0 [.int .i64 y.id, .int .u32 y.addr, .int .i64 y.weight]).there (g + 1) 0 3) := Lib.hid (by
    refine ⟨cell_of (h6.block 2 rfl) rfl, cell_of (h6.block 2 rfl) rfl, cell_of (h6.block 1 rfl) rfl, cell_of (h6.block 1 rfl) rfl, cell_of (h6.block 1 rfl) rfl, cell_of (h6.block 1 rfl) rfl, cell_of (h6.block 1 rfl) rfl, HX2.out _ _ _ h6, there_of (h6.block 0 rfl)⟩)
  have G := Lib.hid h6
  clear ho4 ho5 h6 hS
  refine hK.out _ _ hS4 (fun hS => ?_)
  clear hK K' hS4
  try simp only [Act.put, List.setIfInBounds_toArray, List.set_cons_zero, List.set_cons_succ]
  refine e_take (i := 16) (v := ?_) rfl (by kernel_rfl) (fun _ _ _ h => h) (by rfl) ?_ hS ?_
  rotate_left
  · (intro w hSw; (try dsimp only at hSw); go_simp; try with_reducible rfl)
  try simp only [Act.put, List.setIfInBounds_toArray, List.set_cons_zero, List.set_cons_succ]
  refine e_take (i := 17) (v := ?_) rfl (by kernel_rfl) (fun _ _ _ h => h) (by rfl) ?_ hS ?_
  rotate_left
  · (intro w hSw; (try dsimp only at hSw); go_simp; try with_reducible rfl)
  try simp only [Act.put, List.setIfInBounds_toArray, List.set_cons_zero, List.set_cons_succ]
  refine e_pin (i := 18) rfl (by kernel_rfl) (fun K' hK => ?_)
  refine store_step (by rfl) 33 (.tmp 4) (.tmp 30) (by rfl) (g + 1) 0 (encBa y) (by rfl) (by rfl) hS.2.2.2.2.2.2.2.2 (by kernel_rfl) (encBa_all _ _ _) ?_
  clear hS
  refine hK.out _ _ HS6.out (fun hS => ?_)
  clear hK K' HS6
  try simp only [Act.put, List.setIfInBounds_toArray, List.set_cons_zero, List.set_cons_succ]
  refine e_last (i := 19) rfl (by kernel_rfl) (fun K' hK => ?_)
  go_simp
  refine hK.out _ _ ?_
  clear hK K' hS
  go_wp2_with fail
  exact bodyPost_ret (results_cell_tmp_row Tryz.results41 _ _ (g + 1) 33 _ (0, 0) _ rfl (G.out.block 0 rfl) Tryz.underlying33 rfl (by kernel_rfl)) rfl ⟨by rw [HE.out, hf, hy]; rfl, G.out.drop.drop⟩
end
theorem rd_take {b : List UInt8} {k n : Nat} (h : k + n ≤ b.length) : rdTake (b.drop k) 0 n = ((b.drop k).take n, b.drop (k + n), 0) := by
  rw [rdTake_ok (by rw [List.length_drop]; omega), List.drop_drop]
theorem num_at1 {b : List UInt8} {k : Nat} (h : k + 1 ≤ b.length) : num ((b.drop k).take 1) = byN b k := by
  obtain ⟨x, hx, e⟩ := get_of_lt (b := b) (i := k) (by omega)
  rw [seg_one hx, num_one, e]
theorem num_at2 {b : List UInt8} {k : Nat} (h : k + 2 ≤ b.length) : num ((b.drop k).take 2) = p16 b k := by
  obtain ⟨x, hx, e⟩ := get_of_lt (b := b) (i := k) (by omega)
  obtain ⟨y, hy, e2⟩ := get_of_lt (b := b) (i := k + 1) (by omega)
  rw [seg_two hx hy, num_two, p16, e, e2]
theorem num_at4 {b : List UInt8} {k : Nat} (h : k + 4 ≤ b.length) : num ((b.drop k).take 4) = p32 b k := by
  obtain ⟨x, hx, e⟩ := get_of_lt (b := b) (i := k) (by omega)
  obtain ⟨y, hy, e2⟩ := get_of_lt (b := b) (i := k + 1) (by omega)
  obtain ⟨z, hz, e3⟩ := get_of_lt (b := b) (i := k + 2) (by omega)
  obtain ⟨t, ht, e4⟩ := get_of_lt (b := b) (i := k + 3) (by omega)
  rw [seg_four hx hy hz ht, num_four, p32, p16, p16, e, e2, e3, show k + 2 + 1 = k + 3 by omega, e4]; omega
section
variable {F0 : List Nat} {w0 w : World} {R : List Asrt} {b : List UInt8} {br k : Nat}
theorem o_rd8 (h : In F0 w0 w R) (i : Nat) (hA : R[i]? = some (RdA br (b.drop k) 0)) (hk : k + 1 ≤ b.length) : Calls Tryz.prog 139 #[.pointer (some ⟨br, 0, none⟩)] w fun e w' => e = .returned (.int .i64 (byN b k)) ∧ In F0 w0 w' (R.set i (RdA br (b.drop (k + 1)) 0)) := by
  have := o_ru8 h i hA
  rw [rd_take hk] at this
  exact this.mono fun e w' ⟨h1, h2⟩ => ⟨by rw [h1, num_at1 hk], h2⟩
theorem o_rd16 (h : In F0 w0 w R) (i : Nat) (hA : R[i]? = some (RdA br (b.drop k) 0)) (hk : k + 2 ≤ b.length) : Calls Tryz.prog 111 #[.pointer (some ⟨br, 0, none⟩)] w fun e w' => e = .returned (.int .i64 (p16 b k)) ∧ In F0 w0 w' (R.set i (RdA br (b.drop (k + 2)) 0)) := by
  have := o_ru16 h i hA
  rw [rd_take hk] at this
  exact this.mono fun e w' ⟨h1, h2⟩ => ⟨by rw [h1, num_at2 hk], h2⟩
theorem o_rd32 (h : In F0 w0 w R) (i : Nat) (hA : R[i]? = some (RdA br (b.drop k) 0)) (hk : k + 4 ≤ b.length) : Calls Tryz.prog 140 #[.pointer (some ⟨br, 0, none⟩)] w fun e w' => e = .returned (.int .u32 (p32 b k)) ∧ In F0 w0 w' (R.set i (RdA br (b.drop (k + 4)) 0)) := by
  have := o_ru32 h i hA
  rw [rd_take hk] at this
  exact this.mono fun e w' ⟨h1, h2⟩ => ⟨by rw [h1, num_at4 hk], h2⟩
theorem bits_and_i64 (a m : Nat) (ha : a < 4294967296) (hm : m < 4294967296) : bits .and .i64 (a : Int) (m : Int) = ((a &&& m : Nat) : Int) := by
  have hx : a &&& m < 2 ^ 32 := Nat.and_lt_two_pow _ (by omega)
  have h1 : (BitVec.ofInt 64 (a : Int)).toNat = a := by
    rw [BitVec.ofInt_natCast, BitVec.toNat_ofNat]; exact Nat.mod_eq_of_lt (by omega)
  have h2 : (BitVec.ofInt 64 (m : Int)).toNat = m := by
    rw [BitVec.ofInt_natCast, BitVec.toNat_ofNat]; exact Nat.mod_eq_of_lt (by omega)
  show IntKind.i64.wrap ((BitVec.ofInt 64 (a : Int) &&& BitVec.ofInt 64 (m : Int)).toNat : Int) = _
  rw [BitVec.toNat_and, h1, h2]
  exact IntWalk.i64_in _ (by omega)
theorem bits_and_mask (a k : Nat) (ha : a < 4294967296) (hk : k ≤ 16) : bits .and .i64 (a : Int) ((2 ^ k - 1 : Nat) : Int) = ((a % 2 ^ k : Nat) : Int) := by
  have h2 : 2 ^ k ≤ 2 ^ 16 := Nat.pow_le_pow_right (by omega) hk
  rw [bits_and_i64 _ _ ha (by omega), Nat.and_two_pow_sub_one_eq_mod]
theorem and15 {a : Nat} (ha : a < 4294967296) : bits .and .i64 (a : Int) 15 = ((a % 16 : Nat) : Int) := bits_and_mask a 4 ha (by omega)
theorem and8191 {a : Nat} (ha : a < 4294967296) : bits .and .i64 (a : Int) 8191 = ((a % 8192 : Nat) : Int) := bits_and_mask a 13 ha (by omega)
abbrev hC (a0 a1 a2 a3 a4 a5 a6 a7 a8 a9 a10 : Int) : Array Value := #[.int .i64 a0, .int .i64 a1, .int .i64 a2, .int .i64 a3, .int .i64 a4, .int .i64 a5, .int .i64 a6, .int .i64 a7, .int .i64 a8, .int .u32 a9, .int .u32 a10]
theorem hC_set4 (a0 a1 a2 a3 a4 a5 a6 a7 a8 a9 a10 x : Int) : (hC a0 a1 a2 a3 a4 a5 a6 a7 a8 a9 a10).setIfInBounds 4 (.int .i64 x) = hC a0 a1 a2 a3 x a5 a6 a7 a8 a9 a10 := by simp [hC]
theorem hC_set5 (a0 a1 a2 a3 a4 a5 a6 a7 a8 a9 a10 x : Int) : (hC a0 a1 a2 a3 a4 a5 a6 a7 a8 a9 a10).setIfInBounds 5 (.int .i64 x) = hC a0 a1 a2 a3 a4 x a6 a7 a8 a9 a10 := by simp [hC]
theorem hC_set6 (a0 a1 a2 a3 a4 a5 a6 a7 a8 a9 a10 x : Int) : (hC a0 a1 a2 a3 a4 a5 a6 a7 a8 a9 a10).setIfInBounds 6 (.int .i64 x) = hC a0 a1 a2 a3 a4 a5 x a7 a8 a9 a10 := by simp [hC]
theorem hC_set7 (a0 a1 a2 a3 a4 a5 a6 a7 a8 a9 a10 x : Int) : (hC a0 a1 a2 a3 a4 a5 a6 a7 a8 a9 a10).setIfInBounds 7 (.int .i64 x) = hC a0 a1 a2 a3 a4 a5 a6 x a8 a9 a10 := by simp [hC]
theorem hC_set8 (a0 a1 a2 a3 a4 a5 a6 a7 a8 a9 a10 x : Int) : (hC a0 a1 a2 a3 a4 a5 a6 a7 a8 a9 a10).setIfInBounds 8 (.int .i64 x) = hC a0 a1 a2 a3 a4 a5 a6 a7 x a9 a10 := by simp [hC]
theorem hC_set9 (a0 a1 a2 a3 a4 a5 a6 a7 a8 a9 a10 x : Int) : (hC a0 a1 a2 a3 a4 a5 a6 a7 a8 a9 a10).setIfInBounds 9 (.int .u32 x) = hC a0 a1 a2 a3 a4 a5 a6 a7 a8 x a10 := by simp [hC]
theorem hC_set10 (a0 a1 a2 a3 a4 a5 a6 a7 a8 a9 a10 x : Int) : (hC a0 a1 a2 a3 a4 a5 a6 a7 a8 a9 a10).setIfInBounds 10 (.int .u32 x) = hC a0 a1 a2 a3 a4 a5 a6 a7 a8 a9 x := by simp [hC]
theorem o_ipread (h : In F0 w0 w R) {A : Option Addr} {c : Nat} (hb : Bytes F0 w0 R A c b) (hl : 20 ≤ b.length) (hm : b.length ≤ 100000000) :
    Calls Tryz.prog 113 #[.slice A b.length c] w fun e w' => e = .returned (.tuple #[.int .i64 ((byN b 0 / 16 : Nat) : Int), .agg (encH (readH b))]) ∧ In F0 w0 w' R := by
  have h1 := h.cells (hC 0 0 0 0 0 0 0 0 0 0 0) 84
  have K0 : Hid (Calls Tryz.prog 110 #[.slice A b.length c] (w.alloc (.cells (hC 0 0 0 0 0 0 0 0 0 0 0) 84)) fun e w' => ∃ br, e = .returned (.pointer (some ⟨br, 0, none⟩)) ∧ In F0 w0 w' (RdA br (b.drop 0) 0 :: Cells w.heap.size (hC 0 0 0 0 0 0 0 0 0 0 0) 84 :: R)) :=
    Lib.hid (o_rnew h1 hb.nil (hb.src _ h1.drop) hm)
  have HL := Lib.hid hl
  have x0 := byN_lt b 0
  have x1 := p16_lt b 6
  have e15 := and15 (a := byN b 0) (by omega)
  have e13 := and8191 (a := p16 b 6) (by omega)
  have HR : Hid (readH b = ⟨((byN b 0 % 16 : Nat) : Int), byN b 1, p16 b 2, p16 b 4, ((p16 b 6 / 8192 : Nat) : Int), ((p16 b 6 % 8192 : Nat) : Int), byN b 8, byN b 9, p16 b 10, p32 b 12, p32 b 16⟩) := Lib.hid rfl
  clear h hb h1 hl hm
  go_enter Tryz.func113, Tryz.ntmps113
  go_wp2_with fail
  generalize w.heap.size = g at *
  refine K0.out.mono ?_
  rintro e w1 ⟨br, rfl, ho⟩
  have K := Lib.hid (o_rd8 (k := 0) ho 0 rfl (by have := HL.out; omega))
  clear ho K0
  go_wp2_with fail
  refine K.out.mono ?_
  rintro e w2 ⟨rfl, ho0⟩
  have ho : In F0 w0 w2 (RdA br (b.drop 1) 0 :: Cells g (hC 0 0 0 0 0 0 0 0 0 0 0) 84 :: R) := ho0
  clear ho0
  have K2 := Lib.hid (o_rd8 (k := 1) ho 0 rfl (by have := HL.out; omega))
  clear ho K
  go_wp2_with fail
  refine K2.out.mono ?_
  rintro e w3 ⟨rfl, ho0⟩
  have ho : In F0 w0 w3 (RdA br (b.drop 2) 0 :: Cells g (hC 0 0 0 0 0 0 0 0 0 0 0) 84 :: R) := ho0
  clear ho0
  have K := Lib.hid (o_rd16 (k := 2) ho 0 rfl (by have := HL.out; omega))
  clear ho K2
  go_wp2_with fail
  refine K.out.mono ?_
  rintro e w4 ⟨rfl, ho0⟩
  have ho : In F0 w0 w4 (RdA br (b.drop 4) 0 :: Cells g (hC 0 0 0 0 0 0 0 0 0 0 0) 84 :: R) := ho0
  clear ho0
  have K2 := Lib.hid (o_rd16 (k := 4) ho 0 rfl (by have := HL.out; omega))
  clear ho K
  go_wp2_with fail
  refine K2.out.mono ?_
  rintro e w5 ⟨rfl, ho0⟩
  have ho : In F0 w0 w5 (RdA br (b.drop 6) 0 :: Cells g (hC 0 0 0 0 0 0 0 0 0 0 0) 84 :: R) := ho0
  clear ho0
  have ho2 := ho.cells (hC ((byN b 0 % 16 : Nat) : Int) (byN b 1) (p16 b 2) (p16 b 4) 0 0 0 0 0 0 0) 84
  clear ho K2
  have K := Lib.hid (o_rd16 (k := 6) ho2 1 rfl (by have := HL.out; omega))
  clear ho2
  go_wp2_with fail
  generalize w5.heap.size = g2 at *
  refine K.out.mono ?_
  rintro e w6 ⟨rfl, ho0⟩
  have ho : In F0 w0 w6 (Cells g2 (hC ((byN b 0 % 16 : Nat) : Int) (byN b 1) (p16 b 2) (p16 b 4) 0 0 0 0 0 0 0) 84 :: RdA br (b.drop 8) 0 :: Cells g (hC 0 0 0 0 0 0 0 0 0 0 0) 84 :: R) := ho0
  clear ho0 K
  have d4 : w6.frozen? ⟨g2, 4, none⟩ = false := free_of (ho.block 0 rfl)
  have d5 : w6.frozen? ⟨g2, 5, none⟩ = false := free_of (ho.block 0 rfl)
  have c4 : w6.cell? ⟨g2, 4, none⟩ = some (.int .i64 0) := cell_of (ho.block 0 rfl) rfl
  have c5 : w6.cell? ⟨g2, 5, none⟩ = some (.int .i64 0) := cell_of (ho.block 0 rfl) rfl
  have HO := Lib.hid (show In F0 w0 _ (Cells g2 (hC ((byN b 0 % 16 : Nat) : Int) (byN b 1) (p16 b 2) (p16 b 4) ((p16 b 6 / 8192 : Nat) : Int) ((p16 b 6 % 8192 : Nat) : Int) 0 0 0 0 0) 84 :: RdA br (b.drop 8) 0 :: Cells g (hC 0 0 0 0 0 0 0 0 0 0 0) 84 :: R) from by
    have h5 := (ho.put 0 rfl 4 (.int .i64 ((p16 b 6 / 8192 : Nat) : Int))).put 0 rfl 5 (.int .i64 ((p16 b 6 % 8192 : Nat) : Int))
    rw [hC_set4, hC_set5] at h5
    exact h5)
  clear ho
  go_upto_region 6 with fail
  have K := Lib.hid (o_rd8 (k := 8) HO.out 1 rfl (by have := HL.out; omega))
  clear HO d4 d5 c4 c5
  go_wp2_with fail
  refine K.out.mono ?_
  rintro e w7 ⟨rfl, ho0⟩
  have ho : In F0 w0 w7 (Cells g2 (hC ((byN b 0 % 16 : Nat) : Int) (byN b 1) (p16 b 2) (p16 b 4) ((p16 b 6 / 8192 : Nat) : Int) ((p16 b 6 % 8192 : Nat) : Int) 0 0 0 0 0) 84 :: RdA br (b.drop 9) 0 :: Cells g (hC 0 0 0 0 0 0 0 0 0 0 0) 84 :: R) := ho0
  clear ho0 K
  have K2 := Lib.hid (o_rd8 (k := 9) ho 1 rfl (by have := HL.out; omega))
  clear ho
  go_wp2_with fail
  refine K2.out.mono ?_
  rintro e w8 ⟨rfl, ho0⟩
  have ho : In F0 w0 w8 (Cells g2 (hC ((byN b 0 % 16 : Nat) : Int) (byN b 1) (p16 b 2) (p16 b 4) ((p16 b 6 / 8192 : Nat) : Int) ((p16 b 6 % 8192 : Nat) : Int) 0 0 0 0 0) 84 :: RdA br (b.drop 10) 0 :: Cells g (hC 0 0 0 0 0 0 0 0 0 0 0) 84 :: R) := ho0
  clear ho0 K2
  have K := Lib.hid (o_rd16 (k := 10) ho 1 rfl (by have := HL.out; omega))
  clear ho
  go_wp2_with fail
  refine K.out.mono ?_
  rintro e w9 ⟨rfl, ho0⟩
  have ho : In F0 w0 w9 (Cells g2 (hC ((byN b 0 % 16 : Nat) : Int) (byN b 1) (p16 b 2) (p16 b 4) ((p16 b 6 / 8192 : Nat) : Int) ((p16 b 6 % 8192 : Nat) : Int) 0 0 0 0 0) 84 :: RdA br (b.drop 12) 0 :: Cells g (hC 0 0 0 0 0 0 0 0 0 0 0) 84 :: R) := ho0
  clear ho0 K
  have d6 : w9.frozen? ⟨g2, 6, none⟩ = false := free_of (ho.block 0 rfl)
  have d7 : w9.frozen? ⟨g2, 7, none⟩ = false := free_of (ho.block 0 rfl)
  have d8 : w9.frozen? ⟨g2, 8, none⟩ = false := free_of (ho.block 0 rfl)
  have c6 : w9.cell? ⟨g2, 6, none⟩ = some (.int .i64 0) := cell_of (ho.block 0 rfl) rfl
  have c7 : w9.cell? ⟨g2, 7, none⟩ = some (.int .i64 0) := cell_of (ho.block 0 rfl) rfl
  have c8 : w9.cell? ⟨g2, 8, none⟩ = some (.int .i64 0) := cell_of (ho.block 0 rfl) rfl
  have HP := Lib.hid (show In F0 w0 _ (Cells g2 (hC ((byN b 0 % 16 : Nat) : Int) (byN b 1) (p16 b 2) (p16 b 4) ((p16 b 6 / 8192 : Nat) : Int) ((p16 b 6 % 8192 : Nat) : Int) (byN b 8) (byN b 9) (p16 b 10) 0 0) 84 :: RdA br (b.drop 12) 0 :: Cells g (hC 0 0 0 0 0 0 0 0 0 0 0) 84 :: R) from by
    have h5 := ((ho.put 0 rfl 6 (.int .i64 (byN b 8))).put 0 rfl 7 (.int .i64 (byN b 9))).put 0 rfl 8 (.int .i64 (p16 b 10))
    rw [hC_set6, hC_set7, hC_set8] at h5
    exact h5)
  clear ho
  go_upto_region 7 with fail
  have K := Lib.hid (o_rd32 (k := 12) HP.out 1 rfl (by have := HL.out; omega))
  clear HP d6 d7 d8 c6 c7 c8
  go_wp2_with fail
  refine K.out.mono ?_
  rintro e w10 ⟨rfl, ho0⟩
  have ho : In F0 w0 w10 (Cells g2 (hC ((byN b 0 % 16 : Nat) : Int) (byN b 1) (p16 b 2) (p16 b 4) ((p16 b 6 / 8192 : Nat) : Int) ((p16 b 6 % 8192 : Nat) : Int) (byN b 8) (byN b 9) (p16 b 10) 0 0) 84 :: RdA br (b.drop 16) 0 :: Cells g (hC 0 0 0 0 0 0 0 0 0 0 0) 84 :: R) := ho0
  clear ho0 K
  have K2 := Lib.hid (o_rd32 (k := 16) ho 1 rfl (by have := HL.out; omega))
  clear ho
  go_wp2_with fail
  refine K2.out.mono ?_
  rintro e w11 ⟨rfl, ho0⟩
  have ho : In F0 w0 w11 (Cells g2 (hC ((byN b 0 % 16 : Nat) : Int) (byN b 1) (p16 b 2) (p16 b 4) ((p16 b 6 / 8192 : Nat) : Int) ((p16 b 6 % 8192 : Nat) : Int) (byN b 8) (byN b 9) (p16 b 10) 0 0) 84 :: RdA br (b.drop 20) 0 :: Cells g (hC 0 0 0 0 0 0 0 0 0 0 0) 84 :: R) := ho0
  clear ho0 K2
  have d9 : w11.frozen? ⟨g2, 9, none⟩ = false := free_of (ho.block 0 rfl)
  have d10 : w11.frozen? ⟨g2, 10, none⟩ = false := free_of (ho.block 0 rfl)
  have c9 : w11.cell? ⟨g2, 9, none⟩ = some (.int .u32 0) := cell_of (ho.block 0 rfl) rfl
  have c10 : w11.cell? ⟨g2, 10, none⟩ = some (.int .u32 0) := cell_of (ho.block 0 rfl) rfl
  have HQ := Lib.hid (show In F0 w0 _ (Cells g2 (hC ((byN b 0 % 16 : Nat) : Int) (byN b 1) (p16 b 2) (p16 b 4) ((p16 b 6 / 8192 : Nat) : Int) ((p16 b 6 % 8192 : Nat) : Int) (byN b 8) (byN b 9) (p16 b 10) (p32 b 12) (p32 b 16)) 84 :: RdA br (b.drop 20) 0 :: Cells g (hC 0 0 0 0 0 0 0 0 0 0 0) 84 :: R) from by
    have h5 := (ho.put 0 rfl 9 (.int .u32 (p32 b 12))).put 0 rfl 10 (.int .u32 (p32 b 16))
    rw [hC_set9, hC_set10] at h5
    exact h5)
  clear ho
  go_upto_region 8 with fail
  generalize (w11.setCell ⟨g2, 9, none⟩ (.int .u32 (p32 b 12))).setCell ⟨g2, 10, none⟩ (.int .u32 (p32 b 16)) = W at *
  have Q2 := HQ.out.block 0 rfl
  have Q1 := HQ.out.block 2 rfl
  clear d9 d10 c9 c10
  have i0 : W.cell? ⟨g2, 0, none⟩ = some (.int .i64 ((byN b 0 % 16 : Nat) : Int)) := cell_of Q2 rfl
  have i1 : W.cell? ⟨g2, 1, none⟩ = some (.int .i64 (byN b 1)) := cell_of Q2 rfl
  have i2 : W.cell? ⟨g2, 2, none⟩ = some (.int .i64 (p16 b 2)) := cell_of Q2 rfl
  have i3 : W.cell? ⟨g2, 3, none⟩ = some (.int .i64 (p16 b 4)) := cell_of Q2 rfl
  have i4 : W.cell? ⟨g2, 4, none⟩ = some (.int .i64 ((p16 b 6 / 8192 : Nat) : Int)) := cell_of Q2 rfl
  have i5 : W.cell? ⟨g2, 5, none⟩ = some (.int .i64 ((p16 b 6 % 8192 : Nat) : Int)) := cell_of Q2 rfl
  have i6 : W.cell? ⟨g2, 6, none⟩ = some (.int .i64 (byN b 8)) := cell_of Q2 rfl
  have i7 : W.cell? ⟨g2, 7, none⟩ = some (.int .i64 (byN b 9)) := cell_of Q2 rfl
  have i8 : W.cell? ⟨g2, 8, none⟩ = some (.int .i64 (p16 b 10)) := cell_of Q2 rfl
  have i9 : W.cell? ⟨g2, 9, none⟩ = some (.int .u32 (p32 b 12)) := cell_of Q2 rfl
  have i10 : W.cell? ⟨g2, 10, none⟩ = some (.int .u32 (p32 b 16)) := cell_of Q2 rfl
  have f0 : W.frozen? ⟨g, 0, none⟩ = false := free_of Q1
  have f1 : W.frozen? ⟨g, 1, none⟩ = false := free_of Q1
  have f2 : W.frozen? ⟨g, 2, none⟩ = false := free_of Q1
  have f3 : W.frozen? ⟨g, 3, none⟩ = false := free_of Q1
  have f4 : W.frozen? ⟨g, 4, none⟩ = false := free_of Q1
  have f5 : W.frozen? ⟨g, 5, none⟩ = false := free_of Q1
  have f6 : W.frozen? ⟨g, 6, none⟩ = false := free_of Q1
  have f7 : W.frozen? ⟨g, 7, none⟩ = false := free_of Q1
  have f8 : W.frozen? ⟨g, 8, none⟩ = false := free_of Q1
  have f9 : W.frozen? ⟨g, 9, none⟩ = false := free_of Q1
  have f10 : W.frozen? ⟨g, 10, none⟩ = false := free_of Q1
  have z0 : W.cell? ⟨g, 0, none⟩ = some (.int .i64 0) := cell_of Q1 rfl
  have z1 : W.cell? ⟨g, 1, none⟩ = some (.int .i64 0) := cell_of Q1 rfl
  have z2 : W.cell? ⟨g, 2, none⟩ = some (.int .i64 0) := cell_of Q1 rfl
  have z3 : W.cell? ⟨g, 3, none⟩ = some (.int .i64 0) := cell_of Q1 rfl
  have z4 : W.cell? ⟨g, 4, none⟩ = some (.int .i64 0) := cell_of Q1 rfl
  have z5 : W.cell? ⟨g, 5, none⟩ = some (.int .i64 0) := cell_of Q1 rfl
  have z6 : W.cell? ⟨g, 6, none⟩ = some (.int .i64 0) := cell_of Q1 rfl
  have z7 : W.cell? ⟨g, 7, none⟩ = some (.int .i64 0) := cell_of Q1 rfl
  have z8 : W.cell? ⟨g, 8, none⟩ = some (.int .i64 0) := cell_of Q1 rfl
  have z9 : W.cell? ⟨g, 9, none⟩ = some (.int .u32 0) := cell_of Q1 rfl
  have z10 : W.cell? ⟨g, 10, none⟩ = some (.int .u32 0) := cell_of Q1 rfl
  clear Q1 Q2
  refine e_start (fun w' => w'.cell? ⟨g2, 0, none⟩ = some (.int .i64 ((byN b 0 % 16 : Nat) : Int)) ∧ w'.cell? ⟨g2, 1, none⟩ = some (.int .i64 (byN b 1)) ∧ w'.cell? ⟨g2, 2, none⟩ = some (.int .i64 (p16 b 2)) ∧ w'.cell? ⟨g2, 3, none⟩ = some (.int .i64 (p16 b 4)) ∧ w'.cell? ⟨g2, 4, none⟩ = some (.int .i64 ((p16 b 6 / 8192 : Nat) : Int)) ∧ w'.cell? ⟨g2, 5, none⟩ = some (.int .i64 ((p16 b 6 % 8192 : Nat) : Int)) ∧ w'.cell? ⟨g2, 6, none⟩ = some (.int .i64 (byN b 8)) ∧ w'.cell? ⟨g2, 7, none⟩ = some (.int .i64 (byN b 9)) ∧ w'.cell? ⟨g2, 8, none⟩ = some (.int .i64 (p16 b 10)) ∧ w'.cell? ⟨g2, 9, none⟩ = some (.int .u32 (p32 b 12)) ∧ w'.cell? ⟨g2, 10, none⟩ = some (.int .u32 (p32 b 16))) (by kernel_rfl) ⟨i0, i1, i2, i3, i4, i5, i6, i7, i8, i9, i10⟩ (fun hS => ?_)
  clear i0 i1 i2 i3 i4 i5 i6 i7 i8 i9 i10
  refine e_take (i := 0) (v := ?_) rfl (by kernel_rfl) (fun _ _ _ h => h) (by rfl) ?_ hS ?_
  rotate_left
  · (intro w hSw; (try dsimp only at hSw); go_simp; try with_reducible rfl)
  try simp only [Act.put, List.setIfInBounds_toArray, List.set_cons_zero, List.set_cons_succ]
  refine e_take (i := 1) (v := ?_) rfl (by kernel_rfl) (fun _ _ _ h => h) (by rfl) ?_ hS ?_
  rotate_left
  · (intro w hSw; (try dsimp only at hSw); go_simp; try with_reducible rfl)
  try simp only [Act.put, List.setIfInBounds_toArray, List.set_cons_zero, List.set_cons_succ]
  refine e_take (i := 2) (v := ?_) rfl (by kernel_rfl) (fun _ _ _ h => h) (by rfl) ?_ hS ?_
  rotate_left
  · (intro w hSw; (try dsimp only at hSw); go_simp; try with_reducible rfl)
  try simp only [Act.put, List.setIfInBounds_toArray, List.set_cons_zero, List.set_cons_succ]
  refine e_take (i := 3) (v := ?_) rfl (by kernel_rfl) (fun _ _ _ h => h) (by rfl) ?_ hS ?_
  rotate_left
  · (intro w hSw; (try dsimp only at hSw); go_simp; try with_reducible rfl)
  try simp only [Act.put, List.setIfInBounds_toArray, List.set_cons_zero, List.set_cons_succ]
  have G := Lib.hid ((HQ.out.setFull 2 rfl (xs := [.int .i64 ((byN b 0 % 16 : Nat) : Int), .int .i64 (byN b 1), .int .i64 (p16 b 2), .int .i64 (p16 b 4), .int .i64 ((p16 b 6 / 8192 : Nat) : Int), .int .i64 ((p16 b 6 % 8192 : Nat) : Int), .int .i64 (byN b 8), .int .i64 (byN b 9), .int .i64 (p16 b 10), .int .u32 (p32 b 12), .int .u32 (p32 b 16)]) (b := g) (C := hC 0 0 0 0 0 0 0 0 0 0 0) (T := 84) rfl).drewN 1)
  clear hS HQ
  refine e_last (i := 4) rfl (by kernel_rfl) (fun K' hK => ?_)
  go_simp
  refine hK.out _ _ ?_
  clear hK K'
  go_wp2_with fail
  exact bodyPost_ret (results_tmp_cell_row Tryz.results113 _ _ g 84 _ (0, 0) _ rfl (G.out.block 2 rfl) Tryz.underlying84 rfl (by kernel_rfl)) rfl ⟨by rw [HR.out]; rfl, (G.out.sel2 (R1 := [_, _, _]) (R2 := R) [] (by decide) rfl)⟩
end
end Go.Proofs.YtgapbecddgfkmaaGreat
