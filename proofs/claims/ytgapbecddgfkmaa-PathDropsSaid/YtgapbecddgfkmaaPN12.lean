/- Rows.PathNilSaid -/
import Derived.Test.YtgapbecddgfkmaaPN11
namespace Go.Proofs.Ytgapbecddgfkmaa
open Go.RowKit
set_option linter.unusedVariables false
set_option maxHeartbeats 64000000
set_option maxRecDepth 100000
def noneOut : Int → Bool := fun _ => false
theorem withoutL_none (l : List Bk) : withoutL noneOut l = l := by unfold withoutL noneOut; simp
section
variable {F0 : List Nat} {w0 w : World} {R : List Asrt}
def SetPost (cb : Nat) (x : ChD × Int) (F0 : List Nat) (w0 : World) (R : List Asrt) (e : Ending) (w' : World) : Prop := ∃ vl vt, e = .returned (.int .i64 x.2) ∧ In F0 w0 w' (ChL cb x.1 vl vt R)
theorem o_chset {cb : Nat} {c : ChD} {vl vt : Value} {l : List Bk} {A : Option Addr} {n : Nat} (hm : mayM (c.slots : Int) = true) (hc : ∀ s, 1 ≤ s → s < c.slots → Cov c.slots s) (hmd : 0 ≤ c.made ∧ c.made ≤ 1000000000)
    (hs : BksAt F0 w0 R A l) (hn : A = none → n = 0) (hl : l.length ≤ 1000000) (h : In F0 w0 w (ChL cb c vl vt R)) :
    Calls Try.prog 11 #[pC cb, .slice A l.length n, .nilFunc] w (SetPost cb (setCh c l noneOut) F0 w0 R) := by
  have hs3 : BksAt F0 w0 (ChL cb c vl vt R) A l := ((hs.more _).more _).more _
  have K0 := Lib.hid (o_gnmay (c := n) hs3 (by omega) h)
  cases hg : gensMay l with
  | false =>
    have e : setCh c l noneOut = (c, 1) := by unfold setCh; rw [hg]; rfl
    rw [hg] at K0
    rw [e]
    clear e h hs hs3 hm hc hmd hl hn hg
    go_enter Try.func11, Try.ntmps11
    go_wp2_with fail
    refine K0.out.mono ?_
    rintro e w1 ⟨rfl, ho⟩
    have G := Lib.hid ho
    clear ho K0
    go_wp2_with fail
    go_ret
    exact ⟨_, _, rfl, G.out⟩
  | true =>
  rw [hg] at K0
  obtain ⟨m, tl, tt, md⟩ := c
  simp only at hm hc hmd
  have HE : Hid (setCh ⟨m, tl, tt, md⟩ l noneOut = (⟨m, l, tableM l m, md + 1⟩, 0)) := Lib.hid (by unfold setCh; rw [hg]; simp only [if_true]; rw [withoutL_none])
  have hadd : IntKind.i64.wrap (md + 1) = md + 1 := IntWalk.i64_in _ (by omega)
  have HN := Lib.hid hn
  have K1 := Lib.hid (fun w' (h' : In F0 w0 w' (ChL cb ⟨m, tl, tt, md⟩ vl vt R)) => o_bkclone (c := n) h' hn (hs3 w' h') hl)
  have K2 := Lib.hid (fun w' v (h' : In F0 w0 w' (BkR v l :: ChL cb ⟨m, tl, tt, md⟩ vl vt R)) => o_gnwithout (c := n) (hs3.more (BkR v l)) hn hl h')
  have K3 := Lib.hid (fun w' v2 v c2 (h' : In F0 w0 w' (BkR (.slice v2 l.length c2) l :: BkR v l :: ChL cb ⟨m, tl, tt, md⟩ vl vt R)) => o_matable (c := c2) (m := m) (bks_row (v := .slice v2 l.length c2) (l := l) (n := l.length) (c := c2) rfl 0 rfl) hl h' hm hc)
  clear h hs hs3 hm hc hmd hl hn hg
  go_enter Try.func11, Try.ntmps11
  go_wp2_with fail
  refine K0.out.mono ?_
  rintro e w1 ⟨rfl, ho⟩
  clear K0
  go_upto_region 3 with fail
  have hd := ho.drewN 1
  have HD := Lib.hid hd
  have hS : w1.drew.cell? ⟨cb, 0, none⟩ = some (.int .i64 m) := cell_of (hd.block 0 rfl) rfl
  clear hd ho
  refine e_start (fun w' => w'.cell? ⟨cb, 0, none⟩ = some (.int .i64 m)) (by kernel_rfl) hS (fun hS => ?_)
  refine e_take (i := 0) (v := ?_) rfl (by kernel_rfl) (fun _ _ _ h => h) (by rfl) ?_ hS ?_
  rotate_left
  · (intro w hSw; (try dsimp only at hSw); go_simp; try with_reducible rfl)
  try simp only [Act.put, List.setIfInBounds_toArray, List.set_cons_zero, List.set_cons_succ]
  refine e_take (i := 1) (v := ?_) rfl (by kernel_rfl) (fun _ _ _ h => h) (by rfl) ?_ hS ?_
  rotate_left
  · (intro w hSw; (try dsimp only at hSw); go_simp; try with_reducible rfl)
  try simp only [Act.put, List.setIfInBounds_toArray, List.set_cons_zero, List.set_cons_succ]
  refine e_take (i := 2) (v := ?_) rfl (by kernel_rfl) (fun _ _ _ h => h) (by rfl) ?_ hS ?_
  rotate_left
  · (intro w hSw; (try dsimp only at hSw); go_simp; try with_reducible rfl)
  try simp only [Act.put, List.setIfInBounds_toArray, List.set_cons_zero, List.set_cons_succ]
  refine e_take (i := 4) (v := ?_) rfl (by kernel_rfl) (fun _ _ _ h => h) (by rfl) ?_ hS ?_
  rotate_left
  · (intro w hSw; (try dsimp only at hSw); go_simp; try with_reducible rfl)
  try simp only [Act.put, List.setIfInBounds_toArray, List.set_cons_zero, List.set_cons_succ]
  refine e_take (i := 5) (v := ?_) rfl (by kernel_rfl) (fun _ _ _ h => h) (by rfl) ?_ hS ?_
  rotate_left
  · (intro w hSw; (try dsimp only at hSw); go_simp; try with_reducible rfl)
  try simp only [Act.put, List.setIfInBounds_toArray, List.set_cons_zero, List.set_cons_succ]
  refine e_take (i := 7) (v := ?_) rfl (by kernel_rfl) (fun _ _ _ h => h) (by rfl) ?_ hS ?_
  rotate_left
  · (intro w hSw; (try dsimp only at hSw); go_simp; try with_reducible rfl)
  try simp only [Act.put, List.setIfInBounds_toArray, List.set_cons_zero, List.set_cons_succ]
  refine e_take (i := 8) (v := ?_) rfl (by kernel_rfl) (fun _ _ _ h => h) (by rfl) ?_ hS ?_
  rotate_left
  · (intro w hSw; (try dsimp only at hSw); go_simp; try with_reducible rfl)
  try simp only [Act.put, List.setIfInBounds_toArray, List.set_cons_zero, List.set_cons_succ]
  refine e_take (i := 9) (v := ?_) rfl (by kernel_rfl) (fun _ _ _ h => h) (by rfl) ?_ hS ?_
  rotate_left
  · (intro w hSw; (try dsimp only at hSw); go_simp; try with_reducible rfl)
  try simp only [Act.put, List.setIfInBounds_toArray, List.set_cons_zero, List.set_cons_succ]
  refine e_take (i := 10) (v := ?_) rfl (by kernel_rfl) (fun _ _ _ h => h) (by rfl) ?_ hS ?_
  rotate_left
  · (intro w hSw; (try dsimp only at hSw); go_simp; try with_reducible rfl)
  try simp only [Act.put, List.setIfInBounds_toArray, List.set_cons_zero, List.set_cons_succ]
  refine e_pin (i := 3) rfl (by kernel_rfl) (fun K' hK => ?_)
  go_simp
  go_at_call 28
  refine (K1.out _ HD.out).mono ?_
  rintro e w3 ⟨v3, rfl, ho3⟩
  obtain ⟨F3, r3⟩ := ho3.get 0 rfl
  obtain ⟨a3, n3, rfl, -, -, -⟩ := RowA.shape r3
  have HO3 := Lib.hid ho3
  have hS3 : w3.cell? ⟨cb, 0, none⟩ = some (.int .i64 m) := cell_of (ho3.block 1 rfl) rfl
  clear ho3 r3 hS
  refine hK.out _ _ hS3 (fun hS => ?_)
  clear hK K' hS3
  try simp only [Act.put, List.setIfInBounds_toArray, List.set_cons_zero, List.set_cons_succ]
  refine e_pin (i := 6) rfl (by kernel_rfl) (fun K' hK => ?_)
  go_simp
  go_at_call 29
  refine (K2.out _ _ HO3.out).mono ?_
  rintro e w4 ⟨v4, rfl, ho4⟩
  obtain ⟨F4, r4⟩ := ho4.get 0 rfl
  obtain ⟨a4, c4, rfl, -, -, -⟩ := RowA.shape r4
  have HO4 := Lib.hid ho4
  have hS4 : w4.cell? ⟨cb, 0, none⟩ = some (.int .i64 m) := cell_of (ho4.block 2 rfl) rfl
  clear ho4 r4 hS HO3
  refine hK.out _ _ hS4 (fun hS => ?_)
  clear hK K' hS4
  try simp only [Act.put, List.setIfInBounds_toArray, List.set_cons_zero, List.set_cons_succ]
  refine e_pin (i := 11) rfl (by kernel_rfl) (fun K' hK => ?_)
  go_simp
  go_at_call 25
  refine (K3.out _ _ _ _ HO4.out).mono ?_
  rintro e w5 ⟨a5, c5, rfl, ho5⟩
  have ho5 := ho5.sel2 (R1 := [_, _, _, _, _, _]) [3, 2, 0] (by decide) rfl
  have hb5 : w5.heap[cb]? = some (.cells (cC ⟨m, tl, tt, md⟩ vl vt) 76 (0, 0)) := ho5.block 0 rfl
  have h6 := ho5.put 0 rfl 1 (.slice a3 l.length n3)
  have h7 := h6.put 0 rfl 2 (.slice a5 m c5)
  have hS5 : w5.cell? ⟨cb, 0, none⟩ = some (.int .i64 m) := cell_of hb5 rfl
  have hS6 : (w5.setCell ⟨cb, 1, none⟩ (.slice a3 l.length n3)).cell? ⟨cb, 0, none⟩ = some (.int .i64 m) := cell_of (h6.block 0 rfl) rfl
  have HF1 : Hid ((w5.frozen? ⟨cb, 1, none⟩ = false) ∧ w5.cell? ⟨cb, 1, none⟩ = some vl) := Lib.hid ⟨free_of hb5, cell_of hb5 rfl⟩
  have HF2 : Hid (((w5.setCell ⟨cb, 1, none⟩ (.slice a3 l.length n3)).frozen? ⟨cb, 2, none⟩ = false) ∧ (w5.setCell ⟨cb, 1, none⟩ (.slice a3 l.length n3)).cell? ⟨cb, 2, none⟩ = some vt) := Lib.hid ⟨free_of (h6.block 0 rfl), cell_of (h6.block 0 rfl) rfl⟩
  have HF7 := Lib.hid h7
  have HS6 := Lib.hid hS6
  clear ho5 hb5 h6 h7 hS HO4 hS6
  refine hK.out _ _ hS5 (fun hS => ?_)
  clear hK K' hS5
  try simp only [Act.put, List.setIfInBounds_toArray, List.set_cons_zero, List.set_cons_succ]
  refine e_take (i := 12) (v := ?_) rfl (by kernel_rfl) (fun _ _ _ h => h) (by rfl) ?_ hS ?_
  rotate_left
  · (intro w hSw; (try dsimp only at hSw); go_simp; try with_reducible rfl)
  try simp only [Act.put, List.setIfInBounds_toArray, List.set_cons_zero, List.set_cons_succ]
  refine e_take (i := 13) (v := ?_) rfl (by kernel_rfl) (fun _ _ _ h => h) (by rfl) ?_ hS ?_
  rotate_left
  · (intro w hSw; (try dsimp only at hSw); go_simp; try with_reducible rfl)
  try simp only [Act.put, List.setIfInBounds_toArray, List.set_cons_zero, List.set_cons_succ]
  refine e_pin (i := 14) rfl (by kernel_rfl) (fun K' hK => ?_)
  have hf := HF1.out.1
  have hc1 := HF1.out.2
  go_simp
  refine hK.out _ _ HS6.out (fun hS => ?_)
  clear hK K' HS6 hf hc1
  try simp only [Act.put, List.setIfInBounds_toArray, List.set_cons_zero, List.set_cons_succ]
  refine e_take (i := 15) (v := ?_) rfl (by kernel_rfl) (fun _ _ _ h => h) (by rfl) ?_ hS ?_
  rotate_left
  · (intro w hSw; (try dsimp only at hSw); go_simp; try with_reducible rfl)
  try simp only [Act.put, List.setIfInBounds_toArray, List.set_cons_zero, List.set_cons_succ]
  refine e_take (i := 16) (v := ?_) rfl (by kernel_rfl) (fun _ _ _ h => h) (by rfl) ?_ hS ?_
  rotate_left
  · (intro w hSw; (try dsimp only at hSw); go_simp; try with_reducible rfl)
  try simp only [Act.put, List.setIfInBounds_toArray, List.set_cons_zero, List.set_cons_succ]
  refine e_last (i := 17) rfl (by kernel_rfl) (fun K' hK => ?_)
  have hf := HF2.out.1
  have hc1 := HF2.out.2
  go_simp
  refine hK.out _ _ ?_
  clear hK K' hS hf hc1
  have c3 : ((w5.setCell ⟨cb, 1, none⟩ (.slice a3 l.length n3)).setCell ⟨cb, 2, none⟩ (.slice a5 m c5)).cell? ⟨cb, 3, none⟩ = some (.int .i64 md) := cell_of (HF7.out.block 0 rfl) rfl
  have f3 : ((w5.setCell ⟨cb, 1, none⟩ (.slice a3 l.length n3)).setCell ⟨cb, 2, none⟩ (.slice a5 m c5)).frozen? ⟨cb, 3, none⟩ = false := free_of (HF7.out.block 0 rfl)
  have G := Lib.hid (HF7.out.put 0 rfl 3 (.int .i64 (md + 1)))
  have HLT : Hid ((tableM l m).length = m) := Lib.hid (by
    obtain ⟨F, r⟩ := HF7.out.get 2 rfl
    obtain ⟨a', c', e, h2, h3, h4⟩ := RowA.shape r
    rw [Value.slice.injEq] at e
    exact e.2.1.symm)
  generalize ((w5.setCell ⟨cb, 1, none⟩ (.slice a3 l.length n3)).setCell ⟨cb, 2, none⟩ (.slice a5 m c5)) = w7 at *
  clear HF7 HF1 HF2 HD K1 K2 K3
  go_wp2_with fail
  go_ret
  rw [HE.out]
  exact ⟨.slice a3 l.length n3, .slice a5 m c5, rfl, G.out⟩
end
section
variable {F0 : List Nat} {w0 w : World} {R : List Asrt}
theorem ir_at {a : Option Addr} {n cap k : Nat} {t : List Int} (h : In F0 w0 w R) (i : Nat) (hA : R[i]? = some (IR (.slice a n cap) t)) (hk : k < t.length) : ∃ g, a = some ⟨g, 0, none⟩ := by
  obtain ⟨F, r⟩ := h.get i hA
  obtain ⟨a', c', e, _, _, hat⟩ := RowA.shape r
  rw [Value.slice.injEq] at e
  obtain ⟨g, e2, _⟩ := hat k (.int .i64 (t.getD k 0)) (by simp [iV, List.getD_eq_getElem?_getD, hk])
  exact ⟨g, e.1.trans e2⟩
def PickPost (r : Option Bk) (F0 : List Nat) (w0 : World) (R : List Asrt) (e : Ending) (w' : World) : Prop := e = .returned (.tuple #[.agg (encBa (r.getD zBk)), .bool r.isSome]) ∧ In F0 w0 w' R
theorem o_chpick {cb : Nat} {c : ChD} {vl vt : Value} {t : Tup} (hw : WfT t) (hm : 1 ≤ c.slots ∧ c.slots ≤ 251) (ht : c.t.length = c.slots) (hl : c.l.length ≤ 1000000) (h : In F0 w0 w (ChL cb c vl vt R)) :
    Calls Try.prog 20 #[pC cb, .agg (encT t)] w (PickPost (pickCh c t) F0 w0 (ChL cb c vl vt R)) := by
  have h1 := (h.cells (encT t) 46).cells #[.int .i64 0, .int .u32 0, .int .i64 0] 43
  rw [World.size_alloc] at h1
  by_cases hmay : MayT t
  case neg =>
    have e : pickCh c t = none := by unfold pickCh; rw [if_neg hmay]
    have K0 := Lib.hid (tmay_false hmay ((w.alloc (.cells (encT t) 46)).alloc (.cells #[.int .i64 0, .int .u32 0, .int .i64 0] 43)))
    have h2 := h1.alloc (.cells (encT t) 46)
    rw [e]
    have htH := Lib.hid (there_of (h2.block 0 rfl))
    have G := Lib.hid (h2.setFull 0 rfl (xs := [.int .i64 0, .int .u32 0, .int .i64 0]) (b := w.heap.size + 1) (C := #[.int .i64 0, .int .u32 0, .int .i64 0]) (T := 43) rfl)
    have c0 : ((w.alloc (.cells (encT t) 46)).alloc (.cells #[.int .i64 0, .int .u32 0, .int .i64 0] 43)).heap[w.heap.size]? = some (.cells (encT t) 46 (0, 0)) := h1.block 1 rfl
    have b0 : ((w.alloc (.cells (encT t) 46)).alloc (.cells #[.int .i64 0, .int .u32 0, .int .i64 0] 43)).cell? ⟨w.heap.size, 0, none⟩ = some (.int .u32 t.src) := cell_of c0 rfl
    have b1 : ((w.alloc (.cells (encT t) 46)).alloc (.cells #[.int .i64 0, .int .u32 0, .int .i64 0] 43)).cell? ⟨w.heap.size, 1, none⟩ = some (.int .u32 t.dst) := cell_of c0 rfl
    have b2 : ((w.alloc (.cells (encT t) 46)).alloc (.cells #[.int .i64 0, .int .u32 0, .int .i64 0] 43)).cell? ⟨w.heap.size, 2, none⟩ = some (.int .i64 t.proto) := cell_of c0 rfl
    have b3 : ((w.alloc (.cells (encT t) 46)).alloc (.cells #[.int .i64 0, .int .u32 0, .int .i64 0] 43)).cell? ⟨w.heap.size, 3, none⟩ = some (.int .i64 t.sport) := cell_of c0 rfl
    have b4 : ((w.alloc (.cells (encT t) 46)).alloc (.cells #[.int .i64 0, .int .u32 0, .int .i64 0] 43)).cell? ⟨w.heap.size, 4, none⟩ = some (.int .i64 t.dport) := cell_of c0 rfl
    clear h h1 h2 hmay hw hm ht hl e c0
    go_enter Try.func20, Try.ntmps20
    go_wp2_with fail
    refine K0.out.mono ?_
    rintro e w1 ⟨rfl, rfl⟩
    clear K0 b0 b1 b2 b3 b4
    go_wp2_with (refine wpList_store_mid (op := ⟨none, Op.store 43 (.tmp 4) (.tmp 13), _, _, _, _⟩) (by rfl) 43 (.tmp 4) (.tmp 13) rfl (w.heap.size + 1) 0 (encBa zBk) (by rfl) (by rfl) htH.out (by kernel_rfl) (encBa_all _ _ _) ?_)
    exact bodyPost_ret (results_cell_tmp_row Try.results20 _ _ (w.heap.size + 1) 43 _ (0, 0) _ rfl (G.out.block 0 rfl) Try.underlying43 rfl (by kernel_rfl)) rfl ⟨rfl, G.out.drop.drop⟩
  case pos =>
  obtain ⟨m, tl, tt, md⟩ := c
  simp only at hm ht hl
  have e : pickCh ⟨m, tl, tt, md⟩ t = findBk tl (tt.getD (hashT t % m) 0) := by unfold pickCh; rw [if_pos hmay]
  have K0 := Lib.hid (tmay_true hmay ((w.alloc (.cells (encT t) 46)).alloc (.cells #[.int .i64 0, .int .u32 0, .int .i64 0] 43)))
  obtain ⟨hh, ehh⟩ : ∃ hh, hh = hashT t := ⟨_, rfl⟩
  have hhl : hh < 4294967296 := by rw [ehh]; exact mixN_lt _ _
  rw [← ehh] at e
  have KH0 := fun w' R' (h' : In F0 w0 w' R') => o_thash h' hw
  rw [← ehh] at KH0
  have KH := Lib.hid KH0
  have hmz : ¬ ((m : Int) = 0) := by omega
  have hmz' : ¬ (m = 0) := by omega
  have hmw : IntKind.u32.wrap (m : Int) = (m : Int) := u32_small (by omega) (by omega)
  have hmod : Int.tmod (hh : Int) (m : Int) = ((hh % m : Nat) : Int) := by rw [Int.tmod_eq_emod_of_nonneg (by omega), Int.natCast_emod]
  have hixl : hh % m < m := Nat.mod_lt _ (by omega)
  have hxw : IntKind.u32.wrap ((hh % m : Nat) : Int) = ((hh % m : Nat) : Int) := u32_small (by omega) (by omega)
  generalize hh % m = ix at *
  have hixm : (ix : Int) < (m : Int) := by omega
  obtain ⟨Fv, rv⟩ := h1.get 4 rfl
  obtain ⟨pt, ct, e2, -, -, -⟩ := RowA.shape rv
  simp only [ht] at e2
  subst e2
  obtain ⟨gt, rfl⟩ := ir_at (k := ix) h1 4 rfl (by simp only; omega)
  have HT : Hid (∀ W R1 R2, In F0 w0 W (R1 :: R2 :: ChL cb ⟨m, tl, tt, md⟩ vl (.slice (some ⟨gt, 0, none⟩) m ct) R) → W.cell? ⟨gt, ix, none⟩ = some (.int .i64 (tt.getD ix 0))) := Lib.hid fun W R1 R2 hW => (row_int (k := ix) hW 4 rfl (by simp only; omega)).1
  generalize tt.getD ix 0 = x at *
  have HE := Lib.hid e
  have KF := Lib.hid (fun w' R1 R2 (h' : In F0 w0 w' (R1 :: R2 :: ChL cb ⟨m, tl, tt, md⟩ vl (.slice (some ⟨gt, 0, none⟩) m ct) R)) => o_chfind (cb := cb) (c := ⟨m, tl, tt, md⟩) (vl := vl) (vt := .slice (some ⟨gt, 0, none⟩) m ct) (R := R1 :: R2 :: R) x hl (h'.sel2 (R1 := [_, _, _, _, _]) [2, 3, 4, 0, 1] (by decide) rfl))
  obtain ⟨k0, k1, k2, k3, k4⟩ := t
  have b0 : ((w.alloc (.cells #[.int .u32 k0, .int .u32 k1, .int .i64 k2, .int .i64 k3, .int .i64 k4] 46)).alloc (.cells #[.int .i64 0, .int .u32 0, .int .i64 0] 43)).cell? ⟨w.heap.size, 0, none⟩ = some (.int .u32 k0) := cell_of (h1.block 1 rfl) rfl
  have b1 : ((w.alloc (.cells #[.int .u32 k0, .int .u32 k1, .int .i64 k2, .int .i64 k3, .int .i64 k4] 46)).alloc (.cells #[.int .i64 0, .int .u32 0, .int .i64 0] 43)).cell? ⟨w.heap.size, 1, none⟩ = some (.int .u32 k1) := cell_of (h1.block 1 rfl) rfl
  have b2 : ((w.alloc (.cells #[.int .u32 k0, .int .u32 k1, .int .i64 k2, .int .i64 k3, .int .i64 k4] 46)).alloc (.cells #[.int .i64 0, .int .u32 0, .int .i64 0] 43)).cell? ⟨w.heap.size, 2, none⟩ = some (.int .i64 k2) := cell_of (h1.block 1 rfl) rfl
  have b3 : ((w.alloc (.cells #[.int .u32 k0, .int .u32 k1, .int .i64 k2, .int .i64 k3, .int .i64 k4] 46)).alloc (.cells #[.int .i64 0, .int .u32 0, .int .i64 0] 43)).cell? ⟨w.heap.size, 3, none⟩ = some (.int .i64 k3) := cell_of (h1.block 1 rfl) rfl
  have b4 : ((w.alloc (.cells #[.int .u32 k0, .int .u32 k1, .int .i64 k2, .int .i64 k3, .int .i64 k4] 46)).alloc (.cells #[.int .i64 0, .int .u32 0, .int .i64 0] 43)).cell? ⟨w.heap.size, 4, none⟩ = some (.int .i64 k4) := cell_of (h1.block 1 rfl) rfl
  have h2 : In F0 w0 _ (Cells (w.heap.size + 1) #[.int .i64 0, .int .u32 0, .int .i64 0] 43 :: Cells w.heap.size #[.int .u32 k0, .int .u32 k1, .int .i64 k2, .int .i64 k3, .int .i64 k4] 46 :: ChL cb ⟨m, tl, tt, md⟩ vl (.slice (some ⟨gt, 0, none⟩) m ct) R) := (h1.alloc (.cells (encT ⟨k0, k1, k2, k3, k4⟩) 46)).drewN 1
  have HX2 := HT
  have HX : Hid (∀ W, In F0 w0 W (Cells (w.heap.size + 1) #[.int .i64 0, .int .u32 0, .int .i64 0] 43 :: Cells w.heap.size #[.int .u32 k0, .int .u32 k1, .int .i64 k2, .int .i64 k3, .int .i64 k4] 46 :: ChL cb ⟨m, tl, tt, md⟩ vl (.slice (some ⟨gt, 0, none⟩) m ct) R) → W.cell? ⟨gt, ix, none⟩ = some (.int .i64 x)) := Lib.hid fun W hW => HT.out W _ _ hW
  have HD := Lib.hid h2
  clear h h1 h2 hm ht hl hmay hw e rv hhl ehh KH0 hixl HT
  go_enter Try.func20, Try.ntmps20
  go_wp2_with fail
  refine K0.out.mono ?_
  rintro e w1 ⟨rfl, rfl⟩
  clear K0 b0 b1 b2 b3 b4
  go_upto_region 3 with fail
  generalize w.heap.size = g at *
  refine e_start (fun w' => w'.cell? ⟨cb, 0, none⟩ = some (.int .i64 m) ∧ w'.cell? ⟨cb, 2, none⟩ = some (.slice (some ⟨gt, 0, none⟩) m ct) ∧ w'.cell? ⟨g, 0, none⟩ = some (.int .u32 k0) ∧ w'.cell? ⟨g, 1, none⟩ = some (.int .u32 k1) ∧ w'.cell? ⟨g, 2, none⟩ = some (.int .i64 k2) ∧ w'.cell? ⟨g, 3, none⟩ = some (.int .i64 k3) ∧ w'.cell? ⟨g, 4, none⟩ = some (.int .i64 k4) ∧ w'.cell? ⟨gt, ix, none⟩ = some (.int .i64 x) ∧ w'.there (g + 1) 0 3) (by kernel_rfl) ⟨cell_of (HD.out.block 2 rfl) rfl, cell_of (HD.out.block 2 rfl) rfl, cell_of (HD.out.block 1 rfl) rfl, cell_of (HD.out.block 1 rfl) rfl, cell_of (HD.out.block 1 rfl) rfl, cell_of (HD.out.block 1 rfl) rfl, cell_of (HD.out.block 1 rfl) rfl, HX.out _ HD.out, there_of (HD.out.block 0 rfl)⟩ (fun hS => ?_)
  refine e_take (i := 0) (v := ?_) rfl (by kernel_rfl) (fun _ _ _ h => h) (by rfl) ?_ hS ?_
  rotate_left
  · (intro w hSw; (try dsimp only at hSw); go_simp; try with_reducible rfl)
  try simp only [Act.put, List.setIfInBounds_toArray, List.set_cons_zero, List.set_cons_succ]
  refine e_take (i := 1) (v := ?_) rfl (by kernel_rfl) (fun _ _ _ h => h) (by rfl) ?_ hS ?_
  rotate_left
  · (intro w hSw; (try dsimp only at hSw); go_simp; try with_reducible rfl)
  try simp only [Act.put, List.setIfInBounds_toArray, List.set_cons_zero, List.set_cons_succ]
  refine e_take (i := 2) (v := ?_) rfl (by kernel_rfl) (fun _ _ _ h => h) (by rfl) ?_ hS ?_
  rotate_left
  · (intro w hSw; (try dsimp only at hSw); go_simp; try with_reducible rfl)
  try simp only [Act.put, List.setIfInBounds_toArray, List.set_cons_zero, List.set_cons_succ]
  refine e_take (i := 3) (v := ?_) rfl (by kernel_rfl) (fun _ _ _ h => h) (by rfl) ?_ hS ?_
  rotate_left
  · (intro w hSw; (try dsimp only at hSw); go_simp; try with_reducible rfl)
  try simp only [Act.put, List.setIfInBounds_toArray, List.set_cons_zero, List.set_cons_succ]
  refine e_take (i := 4) (v := ?_) rfl (by kernel_rfl) (fun _ _ _ h => h) (by rfl) ?_ hS ?_
  rotate_left
  · (intro w hSw; (try dsimp only at hSw); go_simp; try with_reducible rfl)
  try simp only [Act.put, List.setIfInBounds_toArray, List.set_cons_zero, List.set_cons_succ]
  refine e_take (i := 5) (v := ?_) rfl (by kernel_rfl) (fun _ _ _ h => h) (by rfl) ?_ hS ?_
  rotate_left
  · (intro w hSw; (try dsimp only at hSw); go_simp; try with_reducible rfl)
  try simp only [Act.put, List.setIfInBounds_toArray, List.set_cons_zero, List.set_cons_succ]
  refine e_take (i := 7) (v := ?_) rfl (by kernel_rfl) (fun _ _ _ h => h) (by rfl) ?_ hS ?_
  rotate_left
  · (intro w hSw; (try dsimp only at hSw); go_simp; try with_reducible rfl)
  try simp only [Act.put, List.setIfInBounds_toArray, List.set_cons_zero, List.set_cons_succ]
  refine e_take (i := 8) (v := ?_) rfl (by kernel_rfl) (fun _ _ _ h => h) (by rfl) ?_ hS ?_
  rotate_left
  · (intro w hSw; (try dsimp only at hSw); go_simp; try with_reducible rfl)
  try simp only [Act.put, List.setIfInBounds_toArray, List.set_cons_zero, List.set_cons_succ]
  refine e_take (i := 9) (v := ?_) rfl (by kernel_rfl) (fun _ _ _ h => h) (by rfl) ?_ hS ?_
  rotate_left
  · (intro w hSw; (try dsimp only at hSw); go_simp; try with_reducible rfl)
  try simp only [Act.put, List.setIfInBounds_toArray, List.set_cons_zero, List.set_cons_succ]
  refine e_take (i := 10) (v := ?_) rfl (by kernel_rfl) (fun _ _ _ h => h) (by rfl) ?_ hS ?_
  rotate_left
  · (intro w hSw; (try dsimp only at hSw); go_simp; try with_reducible rfl)
  try simp only [Act.put, List.setIfInBounds_toArray, List.set_cons_zero, List.set_cons_succ]
  refine e_take (i := 11) (v := ?_) rfl (by kernel_rfl) (fun _ _ _ h => h) (by rfl) ?_ hS ?_
  rotate_left
  · (intro w hSw; (try dsimp only at hSw); go_simp; try with_reducible rfl)
  try simp only [Act.put, List.setIfInBounds_toArray, List.set_cons_zero, List.set_cons_succ]
  refine e_pin (i := 6) rfl (by kernel_rfl) (fun K' hK => ?_)
  go_simp
  go_at_call 35
  refine (KH.out _ _ HD.out).mono ?_
  rintro e w3 ⟨rfl, ho3⟩
  have HO3 := Lib.hid ho3
  have hS3 : w3.cell? ⟨cb, 0, none⟩ = some (.int .i64 m) ∧ w3.cell? ⟨cb, 2, none⟩ = some (.slice (some ⟨gt, 0, none⟩) m ct) ∧ w3.cell? ⟨g, 0, none⟩ = some (.int .u32 k0) ∧ w3.cell? ⟨g, 1, none⟩ = some (.int .u32 k1) ∧ w3.cell? ⟨g, 2, none⟩ = some (.int .i64 k2) ∧ w3.cell? ⟨g, 3, none⟩ = some (.int .i64 k3) ∧ w3.cell? ⟨g, 4, none⟩ = some (.int .i64 k4) ∧ w3.cell? ⟨gt, ix, none⟩ = some (.int .i64 x) ∧ w3.there (g + 1) 0 3 := ⟨cell_of (HO3.out.block 2 rfl) rfl, cell_of (HO3.out.block 2 rfl) rfl, cell_of (HO3.out.block 1 rfl) rfl, cell_of (HO3.out.block 1 rfl) rfl, cell_of (HO3.out.block 1 rfl) rfl, cell_of (HO3.out.block 1 rfl) rfl, cell_of (HO3.out.block 1 rfl) rfl, HX.out _ HO3.out, there_of (HO3.out.block 0 rfl)⟩
  clear ho3 hS
  refine hK.out _ _ hS3 (fun hS => ?_)
  clear hK K' hS3
  try simp only [Act.put, List.setIfInBounds_toArray, List.set_cons_zero, List.set_cons_succ]
  refine e_take (i := 12) (v := ?_) rfl (by kernel_rfl) (fun _ _ _ h => h) (by rfl) ?_ hS ?_
  rotate_left
  · (intro w hSw; (try dsimp only at hSw); go_simp; try with_reducible rfl)
  try simp only [Act.put, List.setIfInBounds_toArray, List.set_cons_zero, List.set_cons_succ]
  refine e_take (i := 13) (v := ?_) rfl (by kernel_rfl) (fun _ _ _ h => h) (by rfl) ?_ hS ?_
  rotate_left
  · (intro w hSw; (try dsimp only at hSw); go_simp; try with_reducible rfl)
  try simp only [Act.put, List.setIfInBounds_toArray, List.set_cons_zero, List.set_cons_succ]
  refine e_take (i := 14) (v := ?_) rfl (by kernel_rfl) (fun _ _ _ h => h) (by rfl) ?_ hS ?_
  rotate_left
  · (intro w hSw; (try dsimp only at hSw); go_simp; try with_reducible rfl)
  try simp only [Act.put, List.setIfInBounds_toArray, List.set_cons_zero, List.set_cons_succ]
  refine e_pin (i := 15) rfl (by kernel_rfl) (fun K' hK => ?_)
  go_simp
  go_at_call 19
  refine (KF.out _ _ _ HO3.out).mono ?_
  rintro e w4 ⟨rfl, ho4⟩
  have ho5 := ho4.sel2 (R1 := [_, _, _, _, _]) [3, 4, 0, 1, 2] (by decide) rfl
  generalize hf : (findBk tl x).isSome = fs at *
  generalize hy : (findBk tl x).getD zBk = y at *
  have h6 := ho5.setFull 0 rfl (xs := [.int .i64 y.id, .int .u32 y.addr, .int .i64 y.weight]) (b := g + 1) (C := #[.int .i64 0, .int .u32 0, .int .i64 0]) (T := 43) rfl
  have HO5 := Lib.hid ho5
  have hS4 : w4.cell? ⟨cb, 0, none⟩ = some (.int .i64 m) ∧ w4.cell? ⟨cb, 2, none⟩ = some (.slice (some ⟨gt, 0, none⟩) m ct) ∧ w4.cell? ⟨g, 0, none⟩ = some (.int .u32 k0) ∧ w4.cell? ⟨g, 1, none⟩ = some (.int .u32 k1) ∧ w4.cell? ⟨g, 2, none⟩ = some (.int .i64 k2) ∧ w4.cell? ⟨g, 3, none⟩ = some (.int .i64 k3) ∧ w4.cell? ⟨g, 4, none⟩ = some (.int .i64 k4) ∧ w4.cell? ⟨gt, ix, none⟩ = some (.int .i64 x) ∧ w4.there (g + 1) 0 3 := ⟨cell_of (HO5.out.block 2 rfl) rfl, cell_of (HO5.out.block 2 rfl) rfl, cell_of (HO5.out.block 1 rfl) rfl, cell_of (HO5.out.block 1 rfl) rfl, cell_of (HO5.out.block 1 rfl) rfl, cell_of (HO5.out.block 1 rfl) rfl, cell_of (HO5.out.block 1 rfl) rfl, HX.out _ HO5.out, there_of (HO5.out.block 0 rfl)⟩
  have HS6 : Hid ((w4.setCells (g + 1) 0 [.int .i64 y.id, .int .u32 y.addr, .int .i64 y.weight]).cell? ⟨cb, 0, none⟩ = some (.int .i64 m) ∧ (w4.setCells (g + 1) 0 [.int .i64 y.id, .int .u32 y.addr, .int .i64 y.weight]).cell? ⟨cb, 2, none⟩ = some (.slice (some ⟨gt, 0, none⟩) m ct) ∧ (w4.setCells (g + 1) 0 [.int .i64 y.id, .int .u32 y.addr, .int .i64 y.weight]).cell? ⟨g, 0, none⟩ = some (.int .u32 k0) ∧ (w4.setCells (g + 1) 0 [.int .i64 y.id, .int .u32 y.addr, .int .i64 y.weight]).cell? ⟨g, 1, none⟩ = some (.int .u32 k1) ∧ (w4.setCells (g + 1) 0 [.int .i64 y.id, .int .u32 y.addr, .int .i64 y.weight]).cell? ⟨g, 2, none⟩ = some (.int .i64 k2) ∧ (w4.setCells (g + 1) 0 [.int .i64 y.id, .int .u32 y.addr, .int .i64 y.weight]).cell? ⟨g, 3, none⟩ = some (.int .i64 k3) ∧ (w4.setCells (g + 1) 0 [.int .i64 y.id, .int .u32 y.addr, .int .i64 y.weight]).cell? ⟨g, 4, none⟩ = some (.int .i64 k4) ∧ (w4.setCells (g + 1) 0 [.int .i64 y.id, .int .u32 y.addr, .int .i64 y.weight]).cell? ⟨gt, ix, none⟩ = some (.int .i64 x) ∧ (w4.setCells (g + 1) 0 [.int .i64 y.id, .int .u32 y.addr, .int .i64 y.weight]).there (g + 1) 0 3) := Lib.hid (by
    refine ⟨cell_of (h6.block 2 rfl) rfl, cell_of (h6.block 2 rfl) rfl, cell_of (h6.block 1 rfl) rfl, cell_of (h6.block 1 rfl) rfl, cell_of (h6.block 1 rfl) rfl, cell_of (h6.block 1 rfl) rfl, cell_of (h6.block 1 rfl) rfl, HX2.out _ _ _ h6, there_of (h6.block 0 rfl)⟩)
  have G := Lib.hid h6
  clear ho4 ho5 h6 hS
  refine hK.out _ _ hS4 (fun hS => ?_)
  clear hK K' hS4
  try simp only [Act.put, List.setIfInBounds_toArray, List.set_cons_zero, List.set_cons_succ]
  refine e_take (i := 16) (v := ?_) rfl (by kernel_rfl) (fun _ _ _ h => h) (by rfl) ?_ hS ?_
  rotate_left
  · (intro w hSw; (try dsimp only at hSw); go_simp; try with_reducible rfl)
  try simp only [Act.put, List.setIfInBounds_toArray, List.set_cons_zero, List.set_cons_succ]
  refine e_take (i := 17) (v := ?_) rfl (by kernel_rfl) (fun _ _ _ h => h) (by rfl) ?_ hS ?_
  rotate_left
  · (intro w hSw; (try dsimp only at hSw); go_simp; try with_reducible rfl)
  try simp only [Act.put, List.setIfInBounds_toArray, List.set_cons_zero, List.set_cons_succ]
  refine e_pin (i := 18) rfl (by kernel_rfl) (fun K' hK => ?_)
  refine store_step (by rfl) 43 (.tmp 4) (.tmp 30) (by rfl) (g + 1) 0 (encBa y) (by rfl) (by rfl) hS.2.2.2.2.2.2.2.2 (by kernel_rfl) (encBa_all _ _ _) ?_
  clear hS
  refine hK.out _ _ HS6.out (fun hS => ?_)
  clear hK K' HS6
  try simp only [Act.put]
  refine e_last (i := 19) rfl (by kernel_rfl) (fun K' hK => ?_)
  go_simp
  refine hK.out _ _ ?_
  clear hK K' hS
  go_wp2_with fail
  exact bodyPost_ret (results_cell_tmp_row Try.results20 _ _ (g + 1) 43 _ (0, 0) _ rfl (G.out.block 0 rfl) Try.underlying43 rfl (by kernel_rfl)) rfl ⟨by rw [HE.out, hf, hy]; rfl, G.out.drop.drop⟩
end
end Go.Proofs.Ytgapbecddgfkmaa
