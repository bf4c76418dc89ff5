/- Rows.PathPlaysSaid -/
import Derived.Test.YtgapbecddgfkmaaGreatPY12
import Derived.Test.YtgapbecddgfkmaaGreatPY26
import Derived.Test.YtgapbecddgfkmaaGreatPY8
import Derived.Test.YtgapbecddgfkmaaGreatPY20
import Derived.Deep.CutBlock
namespace Go.Proofs.YtgapbecddgfkmaaGreat
open Go.RowKit
open Go.RowKit Go.ChangeShapes Go.WideShapes Go.Deep
set_option linter.unusedVariables false
set_option maxHeartbeats 64000000
set_option maxRecDepth 100000
section
variable {F0 : List Nat} {w0 w : World} {R : List Asrt}
theorem o_chsetF {fv : Value} {q : Int → Bool} (hf : OutF fv q F0 w0 R) {cb : Nat} {c : ChD} {vl vt : Value} {l : List Bk} {A : Option Addr} {n : Nat} (hm : mayM (c.slots : Int) = true) (hc : ∀ s, 1 ≤ s → s < c.slots → Cov c.slots s) (hmd : 0 ≤ c.made ∧ c.made ≤ 1000000000)
    (hs : BksAt F0 w0 R A l) (hn : A = none → n = 0) (hl : l.length ≤ 1000000) (h : In F0 w0 w (ChL cb c vl vt R)) :
    Calls Tryz.prog 11 #[pC cb, .slice A l.length n, fv] w (SetPost cb (setCh c l q) F0 w0 R) := by
  have hs3 : BksAt F0 w0 (ChL cb c vl vt R) A l := ((hs.more _).more _).more _
  have K0 := Lib.hid (o_gnmay (c := n) hs3 (by omega) h)
  cases hg : gensMay l with
  | false =>
    have e : setCh c l q = (c, 1) := by unfold setCh; rw [hg]; rfl
    rw [hg] at K0
    rw [e]
    obtain ⟨f, caps, rfl, -, -⟩ := hf
    clear e h hs hs3 hm hc hmd hl hn hg
    go_enter Tryz.func11, Tryz.ntmps11
    go_wp2_with fail
    refine K0.out.mono ?_
    rintro e w1 ⟨rfl, ho⟩
    have G := Lib.hid ho
    clear ho K0
    go_wp2_with fail
    go_ret
    exact ⟨_, _, rfl, G.out⟩
  | true =>
  rw [hg] at K0
  obtain ⟨m, tl, tt, md⟩ := c
  simp only at hm hc hmd
  have HE : Hid (setCh ⟨m, tl, tt, md⟩ l q = (⟨m, l, tableM (withoutL q l) m, md + 1⟩, 0)) := Lib.hid (by unfold setCh; rw [hg]; simp only [if_true])
  have hadd : IntKind.i64.wrap (md + 1) = md + 1 := IntWalk.i64_in _ (by omega)
  have HN := Lib.hid hn
  have K1 := Lib.hid (fun w' (h' : In F0 w0 w' (ChL cb ⟨m, tl, tt, md⟩ vl vt R)) => o_bkclone (c := n) h' hn (hs3 w' h') hl)
  have K2 := Lib.hid (fun w' v (h' : In F0 w0 w' (BkR v l :: ChL cb ⟨m, tl, tt, md⟩ vl vt R)) => o_gnwithoutF (c := n) ((((hf.more _).more _).more _).more _) (hs3.more (BkR v l)) hn hl h')
  have K3 := Lib.hid (fun w' v2 v c2 (h' : In F0 w0 w' (BkR (.slice v2 (withoutL q l).length c2) (withoutL q l) :: BkR v l :: ChL cb ⟨m, tl, tt, md⟩ vl vt R)) => o_matable (c := c2) (m := m) (bks_row (v := .slice v2 (withoutL q l).length c2) (l := withoutL q l) (n := (withoutL q l).length) (c := c2) rfl 0 rfl) (Nat.le_trans (List.length_filter_le _ _) hl) h' hm hc)
  obtain ⟨f, caps, rfl, -, -⟩ := hf
  generalize withoutL q l = lo at *
  clear h hs hs3 hm hc hmd hl hn hg
  go_enter Tryz.func11, Tryz.ntmps11
  go_wp2_with fail
  refine K0.out.mono ?_
  rintro e w1 ⟨rfl, ho⟩
  clear K0
  go_upto_region 3 with fail
  have hd := ho.drewN 1
  have HD := Lib.hid hd
  have hS : w1.drew.cell? ⟨cb, 0, none⟩ = some (.int .i64 m) := cell_of (hd.block 0 rfl) rfl
  clear hd ho
  refine e_start (fun w' => w'.cell? ⟨cb, 0, none⟩ = some (.int .i64 m)) (by kernel_rfl) hS (fun hS => ?_)
  refine e_take (i := 0) (v := ?_) rfl (by kernel_rfl) (fun _ _ _ h => h) (by rfl) ?_ hS ?_
  rotate_left
  · (intro w hSw; (try dsimp only at hSw); go_simp; try with_reducible rfl)
  try simp only [Act.put, List.setIfInBounds_toArray, List.set_cons_zero, List.set_cons_succ]
  refine e_take (i := 1) (v := ?_) rfl (by kernel_rfl) (fun _ _ _ h => h) (by rfl) ?_ hS ?_
  rotate_left
  · (intro w hSw; (try dsimp only at hSw); go_simp; try with_reducible rfl)
  try simp only [Act.put, List.setIfInBounds_toArray, List.set_cons_zero, List.set_cons_succ]
  refine e_take (i := 2) (v := ?_) rfl (by kernel_rfl) (fun _ _ _ h => h) (by rfl) ?_ hS ?_
  rotate_left
  · (intro w hSw; (try dsimp only at hSw); go_simp; try with_reducible rfl)
  try simp only [Act.put, List.setIfInBounds_toArray, List.set_cons_zero, List.set_cons_succ]
  refine e_take (i := 4) (v := ?_) rfl (by kernel_rfl) (fun _ _ _ h => h) (by rfl) ?_ hS ?_
  rotate_left
  · (intro w hSw; (try dsimp only at hSw); go_simp; try with_reducible rfl)
  try simp only [Act.put, List.setIfInBounds_toArray, List.set_cons_zero, List.set_cons_succ]
  refine e_take (i := 5) (v := ?_) rfl (by kernel_rfl) (fun _ _ _ h => h) (by rfl) ?_ hS ?_
  rotate_left
  · (intro w hSw; (try dsimp only at hSw); go_simp; try with_reducible rfl)
  try simp only [Act.put, List.setIfInBounds_toArray, List.set_cons_zero, List.set_cons_succ]
  refine e_take (i := 7) (v := ?_) rfl (by kernel_rfl) (fun _ _ _ h => h) (by rfl) ?_ hS ?_
  rotate_left
  · (intro w hSw; (try dsimp only at hSw); go_simp; try with_reducible rfl)
  try simp only [Act.put, List.setIfInBounds_toArray, List.set_cons_zero, List.set_cons_succ]
  refine e_take (i := 8) (v := ?_) rfl (by kernel_rfl) (fun _ _ _ h => h) (by rfl) ?_ hS ?_
  rotate_left
  · (intro w hSw; (try dsimp only at hSw); go_simp; try with_reducible rfl)
  try simp only [Act.put, List.setIfInBounds_toArray, List.set_cons_zero, List.set_cons_succ]
  refine e_take (i := 9) (v := ?_) rfl (by kernel_rfl) (fun _ _ _ h => h) (by rfl) ?_ hS ?_
  rotate_left
  · (intro w hSw; (try dsimp only at hSw); go_simp; try with_reducible rfl)
  try simp only [Act.put, List.setIfInBounds_toArray, List.set_cons_zero, List.set_cons_succ]
  refine e_take (i := 10) (v := ?_) rfl (by kernel_rfl) (fun _ _ _ h => h) (by rfl) ?_ hS ?_
  rotate_left
  · (intro w hSw; (try dsimp only at hSw); go_simp; try with_reducible rfl)
  try simp only [Act.put, List.setIfInBounds_toArray, List.set_cons_zero, List.set_cons_succ]
  refine e_pin (i := 3) rfl (by kernel_rfl) (fun K' hK => ?_)
  go_simp
  go_at_call 37
  refine (K1.out _ HD.out).mono ?_
  rintro e w3 ⟨v3, rfl, ho3⟩
  obtain ⟨F3, r3⟩ := ho3.get 0 rfl
  obtain ⟨a3, n3, rfl, -, -, -⟩ := RowA.shape r3
  have HO3 := Lib.hid ho3
  have hS3 : w3.cell? ⟨cb, 0, none⟩ = some (.int .i64 m) := cell_of (ho3.block 1 rfl) rfl
  clear ho3 r3 hS
  refine hK.out _ _ hS3 (fun hS => ?_)
  clear hK K' hS3
  try simp only [Act.put, List.setIfInBounds_toArray, List.set_cons_zero, List.set_cons_succ]
  refine e_pin (i := 6) rfl (by kernel_rfl) (fun K' hK => ?_)
  go_simp
  go_at_call 38
  refine (K2.out _ _ HO3.out).mono ?_
  rintro e w4 ⟨v4, rfl, ho4⟩
  obtain ⟨F4, r4⟩ := ho4.get 0 rfl
  obtain ⟨a4, c4, rfl, -, -, -⟩ := RowA.shape r4
  have HO4 := Lib.hid ho4
  have hS4 : w4.cell? ⟨cb, 0, none⟩ = some (.int .i64 m) := cell_of (ho4.block 2 rfl) rfl
  clear ho4 r4 hS HO3
  refine hK.out _ _ hS4 (fun hS => ?_)
  clear hK K' hS4
  try simp only [Act.put, List.setIfInBounds_toArray, List.set_cons_zero, List.set_cons_succ]
  refine e_pin (i := 11) rfl (by kernel_rfl) (fun K' hK => ?_)
  go_simp
  go_at_call 33
  refine (K3.out _ _ _ _ HO4.out).mono ?_
  rintro e w5 ⟨a5, c5, rfl, ho5⟩
  have ho5 := ho5.sel2 (R1 := [_, _, _, _, _, _]) [3, 2, 0] (by decide) rfl
  have hb5 : w5.heap[cb]? = some (.cells (cC ⟨m, tl, tt, md⟩ vl vt) 96 (0, 0)) := ho5.block 0 rfl
  have h6 := ho5.put 0 rfl 1 (.slice a3 l.length n3)
  have h7 := h6.put 0 rfl 2 (.slice a5 m c5)
  have hS5 : w5.cell? ⟨cb, 0, none⟩ = some (.int .i64 m) := cell_of hb5 rfl
  have hS6 : (w5.setCell ⟨cb, 1, none⟩ (.slice a3 l.length n3)).cell? ⟨cb, 0, none⟩ = some (.int .i64 m) := cell_of (h6.block 0 rfl) rfl
  have HF1 : Hid ((w5.frozen? ⟨cb, 1, none⟩ = false) ∧ w5.cell? ⟨cb, 1, none⟩ = some vl) := Lib.hid ⟨free_of hb5, cell_of hb5 rfl⟩
  have HF2 : Hid (((w5.setCell ⟨cb, 1, none⟩ (.slice a3 l.length n3)).frozen? ⟨cb, 2, none⟩ = false) ∧ (w5.setCell ⟨cb, 1, none⟩ (.slice a3 l.length n3)).cell? ⟨cb, 2, none⟩ = some vt) := Lib.hid ⟨free_of (h6.block 0 rfl), cell_of (h6.block 0 rfl) rfl⟩
  have HF7 := Lib.hid h7
  have HS6 := Lib.hid hS6
  clear ho5 hb5 h6 h7 hS HO4 hS6
  refine hK.out _ _ hS5 (fun hS => ?_)
  clear hK K' hS5
  try simp only [Act.put, List.setIfInBounds_toArray, List.set_cons_zero, List.set_cons_succ]
  refine e_take (i := 12) (v := ?_) rfl (by kernel_rfl) (fun _ _ _ h => h) (by rfl) ?_ hS ?_
  rotate_left
  · (intro w hSw; (try dsimp only at hSw); go_simp; try with_reducible rfl)
  try simp only [Act.put, List.setIfInBounds_toArray, List.set_cons_zero, List.set_cons_succ]
  refine e_take (i := 13) (v := ?_) rfl (by kernel_rfl) (fun _ _ _ h => h) (by rfl) ?_ hS ?_
  rotate_left
  · (intro w hSw; (try dsimp only at hSw); go_simp; try with_reducible rfl)
  try simp only [Act.put, List.setIfInBounds_toArray, List.set_cons_zero, List.set_cons_succ]
  refine e_pin (i := 14) rfl (by kernel_rfl) (fun K' hK => ?_)
  have hf := HF1.out.1
  have hc1 := HF1.out.2
  go_simp
  refine hK.out _ _ HS6.out (fun hS => ?_)
  clear hK K' HS6 hf hc1
  try simp only [Act.put, List.setIfInBounds_toArray, List.set_cons_zero, List.set_cons_succ]
  refine e_take (i := 15) (v := ?_) rfl (by kernel_rfl) (fun _ _ _ h => h) (by rfl) ?_ hS ?_
  rotate_left
  · (intro w hSw; (try dsimp only at hSw); go_simp; try with_reducible rfl)
  try simp only [Act.put, List.setIfInBounds_toArray, List.set_cons_zero, List.set_cons_succ]
  refine e_take (i := 16) (v := ?_) rfl (by kernel_rfl) (fun _ _ _ h => h) (by rfl) ?_ hS ?_
  rotate_left
  · (intro w hSw; (try dsimp only at hSw); go_simp; try with_reducible rfl)
  try simp only [Act.put, List.setIfInBounds_toArray, List.set_cons_zero, List.set_cons_succ]
  refine e_last (i := 17) rfl (by kernel_rfl) (fun K' hK => ?_)
  have hf := HF2.out.1
  have hc1 := HF2.out.2
  go_simp
  refine hK.out _ _ ?_
  clear hK K' hS hf hc1
  have c3 : ((w5.setCell ⟨cb, 1, none⟩ (.slice a3 l.length n3)).setCell ⟨cb, 2, none⟩ (.slice a5 m c5)).cell? ⟨cb, 3, none⟩ = some (.int .i64 md) := cell_of (HF7.out.block 0 rfl) rfl
  have f3 : ((w5.setCell ⟨cb, 1, none⟩ (.slice a3 l.length n3)).setCell ⟨cb, 2, none⟩ (.slice a5 m c5)).frozen? ⟨cb, 3, none⟩ = false := free_of (HF7.out.block 0 rfl)
  have G := Lib.hid (HF7.out.put 0 rfl 3 (.int .i64 (md + 1)))
  have HLT : Hid ((tableM lo m).length = m) := Lib.hid (by
    obtain ⟨F, r⟩ := HF7.out.get 2 rfl
    obtain ⟨a', c', e, h2, h3, h4⟩ := RowA.shape r
    rw [Value.slice.injEq] at e
    exact e.2.1.symm)
  generalize ((w5.setCell ⟨cb, 1, none⟩ (.slice a3 l.length n3)).setCell ⟨cb, 2, none⟩ (.slice a5 m c5)) = w7 at *
  clear HF7 HF1 HF2 HD K1 K2 K3
  go_wp2_with fail
  go_ret
  rw [HE.out]
  exact ⟨.slice a3 l.length n3, .slice a5 m c5, rfl, G.out⟩
end
section
variable {F0 : List Nat} {w0 w : World} {R : List Asrt}
theorem o_r4hash {t : Tup} (hw : WfT t) (hm : MayT t) (h : In F0 w0 w R) : Calls Tryz.prog 89 #[.agg (encT t)] w fun e w' => e = .returned (.int .u32 (hashT t)) ∧ In F0 w0 w' R := by
  obtain ⟨k0, k1, k2, k3, k4⟩ := t
  have K := Lib.hid (q_tupb hw hm (h.alloc (.cells (encT ⟨k0, k1, k2, k3, k4⟩) 24)))
  have hl : (keyL ⟨k0, k1, k2, k3, k4⟩).length ≤ 100000000 := by unfold keyL; simp [be_length]
  have HL := Lib.hid hl
  have HH : Hid (hashT ⟨k0, k1, k2, k3, k4⟩ = mixN 0 (keyL ⟨k0, k1, k2, k3, k4⟩)) := Lib.hid rfl
  generalize keyL ⟨k0, k1, k2, k3, k4⟩ = kk at *
  clear h hw hm hl
  go_enter Tryz.func89, Tryz.ntmps89
  go_wp2_with fail
  refine K.out.mono ?_
  rintro e w1 ⟨v, rfl, ho⟩
  obtain ⟨a, c, rfl⟩ := ByR.shape ho
  have K1 := Lib.hid (r1_mix (c := c) (s := 0) (ByR.src ho 0 rfl) HL.out (by decide))
  have G := Lib.hid ho.drop
  clear ho K
  go_wp2_with fail
  refine K1.out.mono ?_
  rintro e w2 ⟨rfl, rfl⟩
  clear K1
  go_wp2_with fail
  go_ret
  exact ⟨by rw [HH.out]; rfl, G.out⟩
def FdRel (l : List Bk) (id : Int) (g : Nat) (F0 : List Nat) (w0 : World) (R : List Asrt) (v : Value) (wr : World) : Prop :=
  ∃ k : Nat, v = .int .i64 k ∧ k ≤ l.length ∧ (∀ y ∈ l.take k, (y.id == id) = false) ∧ In F0 w0 wr (Cells g (encBa zBk) 33 :: R)
theorem o_r10find {l : List Bk} {A : Option Addr} {c : Nat} (hs : BksAt F0 w0 R A l) (hl : l.length ≤ 1000000) (id : Int) (h : In F0 w0 w R) :
    Calls Tryz.prog 53 #[.slice A l.length c, .int .i64 id] w fun e w' => e = .returned (.tuple #[.agg (encBa ((findBk l id).getD zBk)), .bool (findBk l id).isSome]) ∧ In F0 w0 w' R := by
  have h1 := h.cells (encBa zBk) 33
  have H1 : Hid (FdRel l id w.heap.size F0 w0 R (.int .i64 0) (w.alloc (.cells (encBa zBk) 33))) := Lib.hid ⟨0, rfl, Nat.zero_le _, fun y hy => by simp at hy, h1⟩
  have HS := Lib.hid hs
  have HL := Lib.hid hl
  clear h h1 hs hl
  go_enter Tryz.func53, Tryz.ntmps53
  go_wp2_with fail
  generalize w.heap.size = g at *
  go_loopw [10] (FdRel l id g F0 w0 R) (fun v _ => l.length - (intOf v).toNat)
  case atStart => exact H1.out
  case round =>
    clear H1
    obtain ⟨k, rfl, hk, hno, ho⟩ := hrel
    by_cases hlt : k < l.length
    · obtain ⟨b, hb⟩ : ∃ b, l[k]? = some b := ⟨l[k], List.getElem?_eq_getElem hlt⟩
      obtain ⟨gb, ob, rfl, c0, c1, c2⟩ := HS.out.cell ho.drop hb
      have hlt' : (k : Int) < (l.length : Int) := by omega
      have hw2 : wrap64 ((k : Int) + 1) = (k : Int) + 1 := by have := HL.out; unfold wrap64; omega
      have ho2 := ho.cells (encBa b) 33
      have d0 := cell_of (o := 0) (v := .int .i64 b.id) (ho2.block 0 rfl) rfl
      have d1 := cell_of (o := 1) (v := .int .u32 b.addr) (ho2.block 0 rfl) rfl
      have d2 := cell_of (o := 2) (v := .int .i64 b.weight) (ho2.block 0 rfl) rfl
      cases hbi : (b.id == id) with
      | false =>
        have HR : Hid (FdRel l id g F0 w0 R (.int .i64 ((k : Int) + 1)) (wr.alloc (.cells (encBa b) 33))) := Lib.hid ⟨k + 1, by rw [Int.natCast_add]; rfl, hlt, fun y hy => by
          rw [List.take_add_one, hb] at hy
          rcases List.mem_append.1 hy with hy | hy
          · exact hno y hy
          · simp at hy; subst hy; exact hbi, ho2.drop⟩
        obtain ⟨b0, b1, b2⟩ := b
        simp only at c0 c1 c2 d0 d1 d2 hbi
        clear ho ho2 hno hb hk hlt
        go_wp2_with fail
        go_roundw
        case rel => (try rw [hw2]); exact HR.out
        case measure => (try rw [hw2]); exact meas_lt hlt'
      | true =>
        have HF : Hid (findBk l id = some b) := Lib.hid (find_take hb hbi hno)
        have ht := there_of (ho2.block 1 rfl)
        have G := Lib.hid (ho2.setFull 1 rfl (xs := [.int .i64 b.id, .int .u32 b.addr, .int .i64 b.weight]) (b := g) (C := encBa zBk) (T := 33) rfl)
        obtain ⟨b0, b1, b2⟩ := b
        simp only at c0 c1 c2 d0 d1 d2 hbi G ht
        clear ho ho2 hno hb hk hlt
        go_wp2_with (refine wpList_store_mid (op := ⟨none, Op.store 33 (.tmp 4) (.tmp 18), _, _, _, _⟩) (by rfl) 33 (.tmp 4) (.tmp 18) rfl g 0 (encBa ⟨b0, b1, b2⟩) (by rfl) (by rfl) ht (by kernel_rfl) (encBa_all _ _ _) ?_)
        exact bodyPost_ret (results_cell_tmp_row Tryz.results53 _ _ g 33 _ (0, 0) _ rfl (G.out.block 1 rfl) Tryz.underlying33 rfl (by kernel_rfl)) rfl ⟨by rw [HF.out]; rfl, G.out.drop.drop⟩
    · have hge : (l.length : Int) ≤ (k : Int) := by omega
      have hdk : decide ((k : Int) < (l.length : Int)) = false := decide_eq_false (by omega)
      have hdkn : decide (k < l.length) = false := decide_eq_false hlt
      rw [List.take_of_length_le (by omega)] at hno
      have HF : Hid (findBk l id = none) := Lib.hid (List.find?_eq_none.2 (fun y hy => by rw [hno y hy]; simp))
      have ht := there_of (ho.block 0 rfl)
      have G := Lib.hid (ho.setFull 0 rfl (xs := [.int .i64 0, .int .u32 0, .int .i64 0]) (b := g) (C := encBa zBk) (T := 33) rfl)
      clear ho hno hk hlt
      go_wp2_with (refine wpList_store_mid (op := ⟨none, Op.store 33 (.tmp 4) (.tmp 20), _, _, _, _⟩) (by rfl) 33 (.tmp 4) (.tmp 20) rfl g 0 (encBa zBk) (by rfl) (by rfl) ht (by kernel_rfl) (encBa_all _ _ _) ?_)
      exact bodyPost_ret (results_cell_tmp_row Tryz.results53 _ _ g 33 _ (0, 0) _ rfl (G.out.block 0 rfl) Tryz.underlying33 rfl (by kernel_rfl)) rfl ⟨by rw [HF.out]; rfl, G.out.drop⟩
end
structure Call23 where
  act : Int
  ttl : Int
  flags : Int
  k : Tup
  body : List UInt8
  now : Int
  l : List Bk
  out : List Int
def intV (l : List Int) : List Value := l.map (fun n => .int .i64 n)
structure ArgIs (w : World) (v : Value) (l : List Int) : Prop where
  ex : ∃ a c, v = .slice a l.length c ∧ Src w a l.length 1 (intV l) ∧ l.length ≤ c ∧ c ≤ maxLen ∧ (a = none → c = 0)
structure ArgBy (w : World) (v : Value) (bs : List UInt8) : Prop where
  ex : ∃ a c, v = .slice a bs.length c ∧ Src w a bs.length 1 (u8s bs) ∧ bs.length ≤ c ∧ c ≤ maxLen ∧ (a = none → c = 0) ∧ (a = none ∨ bs = [] ∨ ∃ g o, a = some ⟨g, o, none⟩)
def c23V (c : Call23) (ab : Option Addr) (cb : Nat) (al : Option Addr) (cl : Nat) (ao : Option Addr) (co : Nat) : List Value :=
  [.int .i64 c.act, .int .i64 c.ttl, .int .i64 c.flags, .int .u32 c.k.src, .int .u32 c.k.dst, .int .i64 c.k.proto, .int .i64 c.k.sport, .int .i64 c.k.dport, .slice ab c.body.length cb, .int .i64 c.now, .slice al c.l.length cl, .slice ao c.out.length co]
structure Wf23 (c : Call23) : Prop where
  k : WfT c.k
  now : -9223372036854775808 ≤ c.now ∧ c.now ≤ 9223372036854775807
def C23Is (w : World) (cs : List Value) (c : Call23) : Prop := ∃ ab cb al cl ao co, cs = c23V c ab cb al cl ao co ∧ ArgBy w (.slice ab c.body.length cb) c.body ∧ ArgBks w (.slice al c.l.length cl) c.l ∧ ArgIs w (.slice ao c.out.length co) c.out ∧ Wf23 c
abbrev ArgC23 := ArgSl 12 C23Is
theorem list12 {cs : List Value} (h : cs.length = 12) : ∃ c0 c1 c2 c3 c4 c5 c6 c7 c8 c9 c10 c11, cs = [c0, c1, c2, c3, c4, c5, c6, c7, c8, c9, c10, c11] := by
  match cs, h with
  | [c0, c1, c2, c3, c4, c5, c6, c7, c8, c9, c10, c11], _ => exact ⟨c0, c1, c2, c3, c4, c5, c6, c7, c8, c9, c10, c11, rfl⟩
section
variable {H : Type} {enc : TypeId × Value → H} {w : World} {base : Nat} {spare : Nat → Bool} {held : Bool}
theorem openIs {fuel : Nat} {cs : List Value} {y : DataW H × List MemPlace} (h : DataW.trod enc Tryz.prog w base spare held fuel 63 cs = some y) : ∃ v l, cs = [v] ∧ ArgIs w v l := by
  obtain ⟨v, L, e, hv⟩ := openSl (k := 1) (Q := fun _ cs (n : Int) => cs = [.int .i64 n]) Tryz.underlying63 (by kernel_rfl) (by decide) (fun n cs y hy hl => by
    obtain ⟨m, e, -, -⟩ := DataW.trod_int (k := .i64) (by kernel_rfl) hy
    exact ⟨m, e⟩) h
  obtain ⟨a, c, e1, h1, h2, hn, h3⟩ := hv.ex
  refine ⟨v, L, e, ⟨a, c, e1, ⟨by simp [intV], fun h0 => ?_⟩, h1, h2, hn⟩⟩
  obtain ⟨g, o, cs0, e0, _, _⟩ := h3 0 _ (List.getElem?_eq_getElem h0)
  refine ⟨⟨g, o, none⟩, e0, fun j u hu => ?_⟩
  unfold intV at hu
  rw [List.getElem?_map] at hu
  cases hj : L[j]? with
  | none => rw [hj] at hu; cases hu
  | some x =>
    rw [hj] at hu
    obtain ⟨g', o', cs', e', ec, hc⟩ := h3 _ _ hj
    rw [e0] at e'; cases e'
    subst ec
    have := hc 0 u hu
    rw [add_at]
    rw [Nat.mul_one, Nat.add_zero] at this
    exact this
theorem openBy {fuel : Nat} {cs : List Value} {y : DataW H × List MemPlace} (h : DataW.trod enc Tryz.prog w base spare held fuel 35 cs = some y) : ∃ v l, cs = [v] ∧ ArgBy w v l := by
  obtain ⟨v, L, e, hv⟩ := openSl (k := 1) (Q := fun _ cs (x : UInt8) => cs = [.int .u8 x.toNat]) Tryz.underlying35 (by kernel_rfl) (by decide) (fun n cs y hy hl => by
    obtain ⟨m, e, -, hw⟩ := DataW.trod_int (k := .u8) (by kernel_rfl) hy
    have hb : 0 ≤ m ∧ m < 256 := by
      have hmin : IntKind.u8.min = 0 := rfl
      have hmax : IntKind.u8.max = 255 := rfl
      simp only [Lit.wf, Bool.and_eq_true, decide_eq_true_eq] at hw
      rw [hmin, hmax] at hw
      omega
    refine ⟨UInt8.ofNat m.toNat, ?_⟩
    rw [e, UInt8.toNat_ofNat']
    congr 2
    omega) h
  obtain ⟨a, c, e1, h1, h2, hn, h3⟩ := hv.ex
  refine ⟨v, L, e, ⟨a, c, e1, ⟨by simp [u8s], fun h0 => ?_⟩, h1, h2, hn, ?_⟩⟩
  · obtain ⟨g, o, cs0, e0, _, _⟩ := h3 0 _ (List.getElem?_eq_getElem h0)
    refine ⟨⟨g, o, none⟩, e0, fun j u hu => ?_⟩
    unfold u8s at hu
    rw [List.getElem?_map] at hu
    cases hj : L[j]? with
    | none => rw [hj] at hu; cases hu
    | some x =>
      rw [hj] at hu
      obtain ⟨g', o', cs', e', ec, hc⟩ := h3 _ _ hj
      rw [e0] at e'; cases e'
      subst ec
      have := hc 0 u hu
      rw [add_at]
      rw [Nat.mul_one, Nat.add_zero] at this
      exact this
  · cases L with
    | nil => exact Or.inr (Or.inl rfl)
    | cons x r =>
      obtain ⟨g, o, cs0, e0, _, _⟩ := h3 0 x rfl
      exact Or.inr (Or.inr ⟨g, o, e0⟩)
theorem c23Of {n : Nat} {cs : List Value} {y : DataW H × List MemPlace} (h : DataW.trod enc Tryz.prog w base spare held n 65 cs = some y) (hl : cs.length = 12) : ∃ c, C23Is w cs c := by
  obtain ⟨xs, n', _, _, hlc, hlen, hfl⟩ := DataW.trod_struct Tryz.underlying65 h
  have hxl : xs.length = 8 := by rw [hlen]; rfl
  obtain ⟨z0, t0⟩ := fld hfl (j := 0) rfl rfl rfl (show Tryz.prog.cellsOf 3 = 1 by kernel_rfl) (by omega)
  obtain ⟨z1, t1⟩ := fld hfl (j := 1) rfl rfl rfl (show Tryz.prog.cellsOf 3 = 1 by kernel_rfl) (by omega)
  obtain ⟨z2, t2⟩ := fld hfl (j := 2) rfl rfl rfl (show Tryz.prog.cellsOf 3 = 1 by kernel_rfl) (by omega)
  obtain ⟨z3, t3⟩ := fld hfl (j := 3) rfl rfl rfl (show Tryz.prog.cellsOf 24 = 5 by kernel_rfl) (by omega)
  obtain ⟨z4, t4⟩ := fld hfl (j := 4) rfl rfl rfl (show Tryz.prog.cellsOf 35 = 1 by kernel_rfl) (by omega)
  obtain ⟨z5, t5⟩ := fld hfl (j := 5) rfl rfl rfl (show Tryz.prog.cellsOf 2 = 1 by kernel_rfl) (by omega)
  obtain ⟨z6, t6⟩ := fld hfl (j := 6) rfl rfl rfl (show Tryz.prog.cellsOf 34 = 1 by kernel_rfl) (by omega)
  obtain ⟨z7, t7⟩ := fld hfl (j := 7) rfl rfl rfl (show Tryz.prog.cellsOf 63 = 1 by kernel_rfl) (by omega)
  obtain ⟨a, e0, -, -⟩ := DataW.trod_int (k := .i64) (by kernel_rfl) t0
  obtain ⟨b, e1, -, -⟩ := DataW.trod_int (k := .i64) (by kernel_rfl) t1
  obtain ⟨c, e2, -, -⟩ := DataW.trod_int (k := .i64) (by kernel_rfl) t2
  obtain ⟨ns, n1, n2, n3⟩ := flatTupR w base spare held n' _ _ t3
  obtain ⟨vb, bs, e4, hb⟩ := openBy t4
  obtain ⟨nw, e5, -, hw5⟩ := DataW.trod_int (k := .i64) (by kernel_rfl) t5
  obtain ⟨vl, l, e6, hL⟩ := openBks t6
  obtain ⟨vo, os, e7, hO⟩ := openIs t7
  obtain ⟨c0, c1, c2, c3, c4, c5, c6, c7, c8, c9, c10, c11, rfl⟩ := list12 hl
  obtain ⟨ab, cb, rfl, -, -, -, -, -⟩ := hb.ex
  obtain ⟨al, cl, rfl, -, -, -, -⟩ := hL.ex
  obtain ⟨ao, co, rfl, -, -, -, -⟩ := hO.ex
  obtain ⟨w50, w51⟩ := litR_i64 hw5
  match ns, n1, n2, n3 with
  | [s, d, p, sp, dp], _, e3, hw =>
    change [c0] = _ at e0
    change [c1] = _ at e1
    change [c2] = _ at e2
    change [c3, c4, c5, c6, c7] = _ at e3
    change [c8] = _ at e4
    change [c9] = _ at e5
    change [c10] = _ at e6
    change [c11] = _ at e7
    simp only [encK, List.cons.injEq, and_true] at e0 e1 e2 e3 e4 e5 e6 e7
    obtain ⟨s0, s1⟩ := litR_u32 (hw 0 _ _ rfl rfl)
    obtain ⟨d0, d1⟩ := litR_u32 (hw 1 _ _ rfl rfl)
    obtain ⟨p0, p1⟩ := litR_i64 (hw 2 _ _ rfl rfl)
    obtain ⟨sp0, sp1⟩ := litR_i64 (hw 3 _ _ rfl rfl)
    obtain ⟨dp0, dp1⟩ := litR_i64 (hw 4 _ _ rfl rfl)
    obtain ⟨q1, q2, q3, q4, q5⟩ := e3
    subst e0 e1 e2 e4 e5 e6 e7 q1 q2 q3 q4 q5
    exact ⟨⟨a, b, c, ⟨s, d, p, sp, dp⟩, bs, nw, l, os⟩, ab, cb, al, cl, ao, co, rfl, hb, hL, hO, ⟨⟨s0, s1, d0, d1, p0, by show p ≤ _; omega, sp0, by show sp ≤ _; omega, dp0, by show dp ≤ _; omega⟩, ⟨w50, by show nw ≤ _; omega⟩⟩⟩
theorem openCalls23 {a : Option Addr} {len cap : Nat} {d : DataW H} {p : List MemPlace} (h : DataW.Trod enc Tryz.prog w base spare held 58 (.slice a len cap) d p) : ∃ L, ArgC23 w (.slice a len cap) L := by
  obtain ⟨fuel, hf⟩ := h
  obtain ⟨v, L, e, hL⟩ := openSl (k := 12) (Q := C23Is) Tryz.underlying58 (by kernel_rfl) (by decide) (fun n cs y hy hl => c23Of hy hl) hf
  simp [Value.cells] at e
  subst e
  exact ⟨L, hL⟩
end
section
variable {w0 w : World} {R : List Asrt}
end
section
variable {F0 : List Nat} {w0 w : World} {R : List Asrt} {body : List UInt8}
def headK (k : Tup) (flags : Int) (n : Nat) : List UInt8 := be (u64 k.sport) 2 ++ be (u64 k.dport) 2 ++ (if k.proto = 6 then [0, 0, 0, 0, 0, 0, 0, 0, 80, UInt8.ofNat (u64 flags), 0, 0, 0, 0, 0, 0] else be (8 + n) 2 ++ [0, 0])
theorem headK_inner (k : Tup) (flags : Int) (body : List UInt8) : headK k flags body.length ++ body = innerL k flags body := rfl
theorem headK_length (k : Tup) (flags : Int) (n : Nat) : (headK k flags n).length ≤ 20 := by unfold headK; split <;> simp [be, beTo_length]
theorem made_app (k : Tup) (ttl flags : Int) (body : List UInt8) : buildD ⟨0, 0, 20 + ((innerL k flags body).length : Int), 0, 0, 0, ttl, k.proto, 0, k.src, k.dst⟩ ++ innerL k flags body = madeD k ttl flags body := rfl
def MadeMid (k : Tup) (flags : Int) (n gk : Nat) (F0 : List Nat) (w0 : World) (R : List Asrt) (v : Value) (wx : World) : Prop :=
  ∃ a c, v = .slice a (headK k flags n).length c ∧ In F0 w0 wx (ByR (.slice a (headK k flags n).length c) (headK k flags n) :: Cells gk (encT k) 24 :: R)
theorem o_made (h : In F0 w0 w R) {k : Tup} (hk : WfT k) (ttl flags : Int) {A : Option Addr} {c : Nat} (hb : Bytes F0 w0 R A c body) (hm : body.length ≤ 100000) :
    Calls Tryz.prog 10 #[.agg (encT k), .int .i64 ttl, .int .i64 flags, .slice A body.length c] w fun e w' => ∃ v, e = .returned v ∧ In F0 w0 w' (ByR v (madeD k ttl flags body) :: R) := by
  have h1 := h.cells (encT k) 24
  have HU := Lib.hid (fun (n : Int) W R' (hW : In F0 w0 W R') => md_b2 n hW)
  have HB := Lib.hid hb
  have HM := Lib.hid hm
  have HSD := Lib.hid (And.intro (And.intro hk.1 hk.2) (And.intro hk.3 hk.4))
  have HI := Lib.hid (headK_inner k flags body)
  have HA := Lib.hid (made_app k ttl flags body)
  have HHL := Lib.hid (headK_length k flags body.length)
  have HK : Hid (headK k flags body.length = be (u64 k.sport) 2 ++ be (u64 k.dport) 2 ++ (if k.proto = 6 then [0, 0, 0, 0, 0, 0, 0, 0, 80, UInt8.ofNat (u64 flags), 0, 0, 0, 0, 0, 0] else be (8 + body.length) 2 ++ [0, 0])) := Lib.hid rfl
  clear h hb hm hk
  obtain ⟨k0, k1, k2, k3, k4⟩ := k
  go_enter Tryz.func10, Tryz.ntmps10
  go_upto_region 1 with fail
  generalize w.heap.size = gk at *
  generalize (w.alloc (.cells #[.int .u32 k0, .int .u32 k1, .int .i64 k2, .int .i64 k3, .int .i64 k4] 24)) = w1 at *
  have X0 := Lib.hid h1
  have hS : w1.drew.cell? ⟨gk, 3, none⟩ = some (.int .i64 k3) ∧ w1.drew.cell? ⟨gk, 4, none⟩ = some (.int .i64 k4) := ⟨cell_of ((X0.out.drewN 1).block 0 rfl) rfl, cell_of ((X0.out.drewN 1).block 0 rfl) rfl⟩
  have K1 := Lib.hid (HU.out k3 _ _ (X0.out.drewN 1))
  clear h1 X0
  refine e_start (fun w' => w'.cell? ⟨gk, 3, none⟩ = some (.int .i64 k3) ∧ w'.cell? ⟨gk, 4, none⟩ = some (.int .i64 k4)) (by kernel_rfl) hS (fun hS => ?_)
  refine e_take (i := 0) (v := ?_) rfl (by kernel_rfl) (fun _ _ _ h => h) (by rfl) ?_ hS ?_
  rotate_left
  · (intro w hSw; (try dsimp only at hSw); go_simp; try with_reducible rfl)
  try simp only [Act.put, List.setIfInBounds_toArray, List.set_cons_zero, List.set_cons_succ]
  refine e_take (i := 1) (v := ?_) rfl (by kernel_rfl) (fun _ _ _ h => h) (by rfl) ?_ hS ?_
  rotate_left
  · (intro w hSw; (try dsimp only at hSw); go_simp; try with_reducible rfl)
  try simp only [Act.put, List.setIfInBounds_toArray, List.set_cons_zero, List.set_cons_succ]
  refine e_take (i := 3) (v := ?_) rfl (by kernel_rfl) (fun _ _ _ h => h) (by rfl) ?_ hS ?_
  rotate_left
  · (intro w hSw; (try dsimp only at hSw); go_simp; try with_reducible rfl)
  try simp only [Act.put, List.setIfInBounds_toArray, List.set_cons_zero, List.set_cons_succ]
  refine e_take (i := 4) (v := ?_) rfl (by kernel_rfl) (fun _ _ _ h => h) (by rfl) ?_ hS ?_
  rotate_left
  · (intro w hSw; (try dsimp only at hSw); go_simp; try with_reducible rfl)
  try simp only [Act.put, List.setIfInBounds_toArray, List.set_cons_zero, List.set_cons_succ]
  refine e_pin (i := 2) rfl (by kernel_rfl) (fun K' hK => ?_)
  go_simp
  go_at_call 34
  refine K1.out.mono ?_
  rintro e x1 ⟨pa, pac, rfl, ho⟩
  have hz : x1.cell? ⟨gk, 3, none⟩ = some (.int .i64 k3) ∧ x1.cell? ⟨gk, 4, none⟩ = some (.int .i64 k4) := ⟨cell_of (ho.block 1 rfl) rfl, cell_of (ho.block 1 rfl) rfl⟩
  have X1 := Lib.hid ho
  have K2 := Lib.hid (HU.out k4 _ _ ho)
  clear ho hS K1
  refine hK.out _ _ hz (fun hS => ?_)
  clear hK K' hz
  try simp only [Act.put, List.setIfInBounds_toArray, List.set_cons_zero, List.set_cons_succ]
  refine e_pin (i := 5) rfl (by kernel_rfl) (fun K' hK => ?_)
  go_simp
  go_at_call 34
  refine K2.out.mono ?_
  rintro e x2 ⟨pb, pbc, rfl, ho⟩
  have hz : x2.cell? ⟨gk, 3, none⟩ = some (.int .i64 k3) ∧ x2.cell? ⟨gk, 4, none⟩ = some (.int .i64 k4) := ⟨cell_of (ho.block 2 rfl) rfl, cell_of (ho.block 2 rfl) rfl⟩
  have X2 := Lib.hid ho
  clear ho hS K2
  refine hK.out _ _ hz (fun hS => ?_)
  clear hK K' hz
  try simp only [Act.put, List.setIfInBounds_toArray, List.set_cons_zero, List.set_cons_succ]
  refine e_pin (i := 6) rfl (by kernel_rfl) (fun K' hK => ?_)
  refine app_step rfl X2.out 1 rfl (.tmp 13) (.tmp 16) 35 (by rfl) Tryz.underlying35 infoByte (by decide) (by decide) (by rfl) (by rfl) (ByR.src X2.out 0 rfl) (u8s_one _) (by simp [be, beTo_length]) ?_
  intro y1 x3 ho hg
  have hA := by_app (ho.sel2 (R1 := [_, _, _]) (R2 := R) [1, 2] (by decide) rfl)
  obtain ⟨ya, yc, hy⟩ := ByR.shape hA
  rw [show (be (u64 k3) 2 ++ be (u64 k4) 2).length = 4 by simp [be, beTo_length]] at hy
  subst hy
  have hz : x3.cell? ⟨gk, 3, none⟩ = some (.int .i64 k3) ∧ x3.cell? ⟨gk, 4, none⟩ = some (.int .i64 k4) := ⟨cell_of (hA.block 1 rfl) rfl, cell_of (hA.block 1 rfl) rfl⟩
  obtain ⟨l1, hl1⟩ : ∃ l1 : List UInt8, l1 = be (u64 k3) 2 ++ be (u64 k4) 2 := ⟨_, rfl⟩
  have n1 : l1.length = 4 := by rw [hl1]; simp [be, beTo_length]
  rw [← hl1] at hA
  have X3 := Lib.hid (show In F0 w0 x3 (ByR (.slice ya 4 yc) l1 :: Cells gk #[.int .u32 k0, .int .u32 k1, .int .i64 k2, .int .i64 k3, .int .i64 k4] 24 :: R) from hA)
  have E1 := Lib.hid hl1
  have N1 := Lib.hid n1
  clear ho hg hA hS X1 X2 hl1 n1
  refine hK.out _ _ hz (fun hS => ?_)
  clear hK K' hz
  try simp only [Act.put, List.setIfInBounds_toArray, List.set_cons_zero, List.set_cons_succ]
  refine e_last (i := 7) rfl (by kernel_rfl) (fun K' hK => ?_)
  go_simp
  refine hK.out _ _ ?_
  clear hK K' hS
  have j2 : x3.cell? ⟨gk, 2, none⟩ = some (.int .i64 k2) := cell_of (X3.out.block 1 rfl) rfl
  go_upto_if 20 with fail
  go_cut [9] (fun v9 wx => MadeMid ⟨k0, k1, k2, k3, k4⟩ flags body.length gk F0 w0 R v9 wx)
  case first =>
    by_cases h6 : k2 = 6
    · have q6 : (k2 == 6) = true := by rw [h6]; rfl
      have hq : headK ⟨k0, k1, k2, k3, k4⟩ flags body.length = l1 ++ [0, 0, 0, 0, 0, 0, 0, 0, 80, UInt8.ofNat (u64 flags), 0, 0, 0, 0, 0, 0] := by rw [HK.out, E1.out]; simp only [h6, if_true]
      have g7 := (X3.out.cells #[.int .u8 0, .int .u8 0, .int .u8 0, .int .u8 0, .int .u8 0, .int .u8 0, .int .u8 0, .int .u8 0, .int .u8 80, .int .u8 (flags % 256), .int .u8 0, .int .u8 0, .int .u8 0, .int .u8 0, .int .u8 0, .int .u8 0] 5).rowFull 0 (n := 16) (k := 1) rfl rfl (by decide)
      have e7 : (#[.int .u8 0, .int .u8 0, .int .u8 0, .int .u8 0, .int .u8 0, .int .u8 0, .int .u8 0, .int .u8 0, .int .u8 80, .int .u8 (flags % 256), .int .u8 0, .int .u8 0, .int .u8 0, .int .u8 0, .int .u8 0, .int .u8 0] : Array Value).toList = u8s [0, 0, 0, 0, 0, 0, 0, 0, 80, UInt8.ofNat (u64 flags), 0, 0, 0, 0, 0, 0] := by
        rw [u64_mod256 flags]; simp only [u8s, List.map_cons, List.map_nil]
        rw [show (UInt8.ofNat (u64 flags)).toNat = u64 flags % 256 from lo8_nat _]; rfl
      rw [e7] at g7
      have X4 := Lib.hid (show In F0 w0 _ (ByR (.slice (some ⟨x3.heap.size, 0, none⟩) 16 16) [0, 0, 0, 0, 0, 0, 0, 0, 80, UInt8.ofNat (u64 flags), 0, 0, 0, 0, 0, 0] :: ByR (.slice ya 4 yc) l1 :: Cells gk #[.int .u32 k0, .int .u32 k1, .int .i64 k2, .int .i64 k3, .int .i64 k4] 24 :: R) from g7)
      have HQ := Lib.hid hq
      clear hq h6 g7 e7
      go_wp2_with (at_builtin; refine app_list rfl X4.out 1 rfl (.tmp 21) (.tmp 24) 35 (by rfl) Tryz.underlying35 infoByte (by decide) (by decide) (by rfl) (by rfl) (ByR.src X4.out 0 rfl) (u8s_one _) (by rw [N1.out]; simp) ?_)
      intro y7 x8 ho hg
      have hA := by_app (ho.sel2 (R1 := [_, _, _]) (R2 := R) [1, 2] (by decide) rfl)
      have hB : In F0 w0 x8 (ByR y7 (headK ⟨k0, k1, k2, k3, k4⟩ flags body.length) :: Cells gk #[.int .u32 k0, .int .u32 k1, .int .i64 k2, .int .i64 k3, .int .i64 k4] 24 :: R) := by rw [HQ.out]; exact hA
      obtain ⟨za, zc, rfl⟩ := ByR.shape hB
      have HF : Hid (MadeMid ⟨k0, k1, k2, k3, k4⟩ flags body.length gk F0 w0 R (.slice za (headK ⟨k0, k1, k2, k3, k4⟩ flags body.length).length zc) x8) := Lib.hid ⟨_, _, rfl, hB⟩
      clear ho hg hA hB X4
      go_wp2_with fail
      go_meet
      exact HF.out
    · have q6 : (k2 == 6) = false := beq_eq_false_iff_ne.2 h6
      have hq : headK ⟨k0, k1, k2, k3, k4⟩ flags body.length = (l1 ++ be (u64 (8 + (body.length : Int))) 2) ++ [0, 0] := by
        have hmm := HM.out
        have e8 : u64 (8 + (body.length : Int)) = 8 + body.length := by unfold u64; omega
        rw [HK.out, E1.out, e8]; simp only [h6, if_false, List.append_assoc]
      have HQ := Lib.hid hq
      have w8 : wrap64 (8 + (body.length : Int)) = 8 + (body.length : Int) := by have := HM.out; unfold wrap64; omega
      have w8' : IntKind.i64.wrap (8 + (body.length : Int)) = 8 + (body.length : Int) := by have := HM.out; exact IntWalk.i64_in _ (by omega)
      have K4 := Lib.hid (HU.out (8 + (body.length : Int)) _ _ X3.out)
      clear hq h6
      go_wp2_with fail
      refine K4.out.mono ?_
      rintro e x4 ⟨pc, pcc, rfl, ho⟩
      have X4 := Lib.hid ho
      clear ho K4
      go_wp2_with (at_builtin; refine app_list rfl X4.out 1 rfl (.tmp 26) (.tmp 30) 35 (by rfl) Tryz.underlying35 infoByte (by decide) (by decide) (by rfl) (by rfl) (ByR.src X4.out 0 rfl) (u8s_one _) (by rw [N1.out]; simp [be, beTo_length]) ?_)
      intro y5 x5 ho hg
      have hA := by_app (ho.sel2 (R1 := [_, _, _]) (R2 := R) [1, 2] (by decide) rfl)
      obtain ⟨l2, hl2⟩ : ∃ l2 : List UInt8, l2 = l1 ++ be (u64 (8 + (body.length : Int))) 2 := ⟨_, rfl⟩
      have n2 : l2.length = 6 := by rw [hl2]; simp [N1.out, be, beTo_length]
      rw [← hl2] at hA
      obtain ⟨ta, tc, hy⟩ := ByR.shape hA
      rw [n2] at hy
      subst hy
      have HQ2 : Hid (headK ⟨k0, k1, k2, k3, k4⟩ flags body.length = l2 ++ [0, 0]) := Lib.hid (by rw [hl2]; exact HQ.out)
      have g7 := (hA.cells #[.int .u8 0, .int .u8 0] 5).rowFull 0 (n := 2) (k := 1) rfl rfl (by decide)
      have X5 := Lib.hid (show In F0 w0 _ (ByR (.slice (some ⟨x5.heap.size, 0, none⟩) 2 2) [0, 0] :: ByR (.slice ta 6 tc) l2 :: Cells gk #[.int .u32 k0, .int .u32 k1, .int .i64 k2, .int .i64 k3, .int .i64 k4] 24 :: R) from g7)
      have N2 := Lib.hid n2
      clear ho hg hA hl2 n2 g7 X4 HQ
      go_wp2_with (at_builtin; refine app_list rfl X5.out 1 rfl (.tmp 31) (.tmp 32) 35 (by rfl) Tryz.underlying35 infoByte (by decide) (by decide) (by rfl) (by rfl) (ByR.src X5.out 0 rfl) (u8s_one _) (by rw [N2.out]; simp) ?_)
      intro y7 x8 ho hg
      have hA := by_app (ho.sel2 (R1 := [_, _, _]) (R2 := R) [1, 2] (by decide) rfl)
      have hB : In F0 w0 x8 (ByR y7 (headK ⟨k0, k1, k2, k3, k4⟩ flags body.length) :: Cells gk #[.int .u32 k0, .int .u32 k1, .int .i64 k2, .int .i64 k3, .int .i64 k4] 24 :: R) := by rw [HQ2.out]; exact hA
      obtain ⟨za, zc, rfl⟩ := ByR.shape hB
      have HF : Hid (MadeMid ⟨k0, k1, k2, k3, k4⟩ flags body.length gk F0 w0 R (.slice za (headK ⟨k0, k1, k2, k3, k4⟩ flags body.length).length zc) x8) := Lib.hid ⟨_, _, rfl, hB⟩
      clear ho hg hA hB X5
      go_wp2_with fail
      go_meet
      exact HF.out
  case rest =>
  obtain ⟨ma, mc, rfl, ho⟩ := hcut
  have X4 := Lib.hid ho
  have hl := HHL.out
  obtain ⟨l3, hl3⟩ : ∃ l3 : List UInt8, l3 = headK ⟨k0, k1, k2, k3, k4⟩ flags body.length := ⟨_, rfl⟩
  rw [← hl3] at HI X4 hl
  rw [← hl3]
  have HL3 := Lib.hid hl
  clear ho hl hl3 HK E1 N1 X3 j2 HHL
  have HL4 : Hid (l3.length + body.length ≤ 1000000000) := Lib.hid (by have := HL3.out; have := HM.out; omega)
  go_wp2_with (at_builtin; refine app_list rfl X4.out 0 rfl (.tmp 34) (.tmp 35) 35 (by rfl) Tryz.underlying35 infoByte (by decide) (by decide) (by rfl) (by rfl) (HB.out.src _ X4.out.drop.drop) (u8s_one _) HL4.out ?_)
  intro y9 x9 ho hg
  have hA := by_app ho
  rw [HI.out] at hA
  obtain ⟨va, vc, rfl⟩ := ByR.shape hA
  have hnl : (innerL ⟨k0, k1, k2, k3, k4⟩ flags body).length ≤ 100020 := by rw [← HI.out, List.length_append]; have := HL3.out; have := HM.out; omega
  obtain ⟨q, hq⟩ : ∃ q : List UInt8, q = innerL ⟨k0, k1, k2, k3, k4⟩ flags body := ⟨_, rfl⟩
  rw [← hq] at hA hnl HA
  rw [← hq]
  have c0 : x9.cell? ⟨gk, 0, none⟩ = some (.int .u32 k0) := cell_of (hA.block 1 rfl) rfl
  have c1 : x9.cell? ⟨gk, 1, none⟩ = some (.int .u32 k1) := cell_of (hA.block 1 rfl) rfl
  have c2 : x9.cell? ⟨gk, 2, none⟩ = some (.int .i64 k2) := cell_of (hA.block 1 rfl) rfl
  have w9 : IntKind.i64.wrap (20 + (q.length : Int)) = 20 + (q.length : Int) := IntWalk.i64_in _ (by omega)
  have KB : Hid (Calls Tryz.prog 35 #[.agg (hC 0 0 (20 + (q.length : Int)) 0 ((0 : Nat) : Int) 0 ttl k2 0 k0 k1)] x9 fun e w' => ∃ v, e = .returned v ∧ In F0 w0 w' (ByR v (buildD ⟨0, 0, 20 + (q.length : Int), 0, ((0 : Nat) : Int), 0, ttl, k2, 0, k0, k1⟩) :: ByR (.slice va q.length vc) q :: Cells gk #[.int .u32 k0, .int .u32 k1, .int .i64 k2, .int .i64 k3, .int .i64 k4] 24 :: R)) :=
    Lib.hid (o_r20build hA (fl := 0) (by omega) HSD.out.1.1 HSD.out.1.2 HSD.out.2.1 HSD.out.2.2)
  have HN := Lib.hid hnl
  clear ho hg hA X4 hnl hq HI
  go_wp2_with fail
  refine KB.out.mono ?_
  rintro e x10 ⟨vb, rfl, ho⟩
  obtain ⟨ba, bc, rfl⟩ := ByR.shape ho
  have X10 := Lib.hid ho
  have HL5 : Hid ((buildD ⟨0, 0, 20 + (q.length : Int), 0, ((0 : Nat) : Int), 0, ttl, k2, 0, k0, k1⟩).length + q.length ≤ 1000000000) := Lib.hid (by rw [buildD_length]; have := HN.out; omega)
  clear ho KB c0 c1 c2 w9
  go_wp2_with (at_builtin; refine app_list rfl X10.out 0 rfl (.tmp 48) (.tmp 49) 35 (by rfl) Tryz.underlying35 infoByte (by decide) (by decide) (by rfl) (by rfl) (ByR.src X10.out 1 rfl) (u8s_one _) HL5.out ?_)
  intro y11 x11 ho hg
  have G := Lib.hid (by_app (ho.sel2 (R1 := [_, _, _]) (R2 := R) [0] (by decide) rfl))
  clear ho hg X10
  go_wp2_with fail
  go_ret
  exact ⟨_, rfl, by rw [← HA.out]; exact G.out⟩
end
end Go.Proofs.YtgapbecddgfkmaaGreat
