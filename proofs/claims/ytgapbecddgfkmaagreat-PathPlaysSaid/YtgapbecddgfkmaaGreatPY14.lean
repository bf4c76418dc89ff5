/- Rows.PathPlaysSaid -/
import Derived.Test.YtgapbecddgfkmaaGreatPY13
namespace Go.Proofs.YtgapbecddgfkmaaGreat
open Go.RowKit
set_option linter.unusedVariables false
set_option maxHeartbeats 64000000
set_option maxRecDepth 100000
section
variable {F0 : List Nat} {w0 w : World} {R : List Asrt} {b : List UInt8}
theorem hC_all (a0 a1 a2 a3 a4 a5 a6 a7 a8 a9 a10 : Int) : (hC a0 a1 a2 a3 a4 a5 a6 a7 a8 a9 a10).all (·.oneCell') = true := by simp [hC, Value.oneCell']
def ParsePost (b : List UInt8) (F0 : List Nat) (w0 : World) (R : List Asrt) (e : Ending) (w' : World) : Prop :=
  ∃ v, e = .returned (.tuple #[.agg (encH (parseD b).1), v, .int .i64 (parseD b).2.2]) ∧ In F0 w0 w' (ByR v (parseD b).2.1 :: R)
theorem ParsePost.err {r : Int} (h : In F0 w0 w R) (e : parseD b = (zH, [], r)) : ParsePost b F0 w0 R (.returned (.tuple #[.agg (hC 0 0 0 0 0 0 0 0 0 0 0), .slice none 0 0, .int .i64 r])) w :=
  ⟨.slice none 0 0, by rw [e]; rfl, by rw [e]; exact h.rownil _ _⟩
theorem src_mid {W : World} {g o c i j : Nat} (hs : Src W (some ⟨g, o, none⟩) b.length 1 (u8s b)) (hij : i ≤ j) (hj : j ≤ b.length) : Src W (some ⟨g, o + i, none⟩) (j - i) 1 (u8s ((b.take j).drop i)) := by
  have h1 := src_take hs rfl hj
  by_cases hlt : i < j
  · have := src_drop h1 (by rw [List.length_take]; omega) hlt
    exact this
  · have e : (b.take j).drop i = [] := List.drop_eq_nil_of_le (by rw [List.length_take]; omega)
    rw [e, show j - i = 0 by omega]
    exact Src.nil _ _ _
theorem Bytes.mid {g o c : Nat} (hb : Bytes F0 w0 R (some ⟨g, o, none⟩) c b) {i j : Nat} (hij : i ≤ j) (hj : j ≤ b.length) :
    ∃ g' o' c', (∀ w, (Instr.slice 35 (.slice (some ⟨g, o, none⟩) b.length c) (some (.int .i64 i)) (some (.int .i64 j)) none).run Tryz.prog w = .ok (.slice (some ⟨g', o', none⟩) (j - i) c') w) ∧ ∀ W, In F0 w0 W R → Src W (some ⟨g', o', none⟩) (j - i) 1 (u8s ((b.take j).drop i)) := by
  have hc := hb.cap
  by_cases hi : i < c
  · exact ⟨g, o + i, c - i, fun w => run_mid g o b.length c i j hi hij (by omega) w, fun W hW => src_mid (c := c) (hb.src W hW) hij hj⟩
  · refine ⟨g, o, 0, fun w => ?_, fun W hW => ?_⟩
    · have e1 : i = c := by omega
      have e2 : j = c := by omega
      rw [e1, e2, Nat.sub_self]; exact run_mid_end g o b.length c w
    · have e : (b.take j).drop i = [] := List.drop_eq_nil_of_le (by rw [List.length_take]; omega)
      rw [e, show j - i = 0 by omega]; exact Src.nil _ _ _
theorem Bytes.some {A : Option Addr} {c : Nat} (hb : Bytes F0 w0 R A c b) (h0 : 0 < b.length) : ∃ g o, A = Option.some ⟨g, o, none⟩ := by
  obtain ⟨g, o, e, _⟩ := hb.cells h0
  exact ⟨g, o, e⟩
theorem o_ipparse (h : In F0 w0 w R) {A : Option Addr} {c : Nat} (hb : Bytes F0 w0 R A c b) (hm : b.length ≤ 100000000) :
    Calls Tryz.prog 79 #[.slice A b.length c] w (ParsePost b F0 w0 R) := by
  have h1 := h.cells (hC 0 0 0 0 0 0 0 0 0 0 0) 84
  by_cases h20 : b.length < 20
  · have HE : parseD b = (zH, [], 1) := by unfold parseD; rw [if_pos h20]
    have q := Lib.hid (ParsePost.err h1.drop HE)
    have B := Lib.hid (h1.block 0 rfl)
    have h20' : (b.length : Int) < 20 := by omega
    clear h hb hm h20 HE h1
    go_enter Tryz.func79, Tryz.ntmps79
    go_wp2_with fail
    exact bodyPost_ret (results_cell_tmp2_row Tryz.results79 _ _ w.heap.size 84 _ (0, 0) _ rfl B.out Tryz.underlying84 rfl (by kernel_rfl)) rfl q.out
  have hge : ¬ ((b.length : Int) < 20) := by omega
  have hge2 : (20 : Int) ≤ (b.length : Int) := by omega
  have e20 : ∀ t : Hd × List UInt8 × Int, (if b.length < 20 then (zH, [], 1) else t) = t := fun t => if_neg h20
  have K : Hid (Calls Tryz.prog 113 #[.slice A b.length c] (w.alloc (.cells (hC 0 0 0 0 0 0 0 0 0 0 0) 84)) fun e w' => e = .returned (.tuple #[.int .i64 ((byN b 0 / 16 : Nat) : Int), .agg (hC ((byN b 0 % 16 : Nat) : Int) (byN b 1) (p16 b 2) (p16 b 4) ((p16 b 6 / 8192 : Nat) : Int) ((p16 b 6 % 8192 : Nat) : Int) (byN b 8) (byN b 9) (p16 b 10) (p32 b 12) (p32 b 16))]) ∧ In F0 w0 w' (Cells w.heap.size (hC 0 0 0 0 0 0 0 0 0 0 0) 84 :: R)) :=
    Lib.hid (o_ipread h1 ⟨fun W hW => hb.src W hW.drop, hb.nil, hb.ad, hb.cap, hb.room⟩ (by omega) hm)
  obtain ⟨ga, oa, rfl⟩ := hb.some (by omega)
  have HP : Hid (parseD b = if byN b 0 / 16 ≠ 4 then (zH, [], 2) else if byN b 0 % 16 < 5 then (zH, [], 3) else if b.length < 4 * (byN b 0 % 16) then (zH, [], 1) else if netN (b.take (4 * (byN b 0 % 16))) ≠ 0 then (zH, [], 4)
      else if p16 b 2 < 4 * (byN b 0 % 16) then (zH, [], 3) else if b.length < p16 b 2 then (zH, [], 5) else (readH b, (b.take (p16 b 2)).drop (4 * (byN b 0 % 16)), 0)) := Lib.hid (by unfold parseD; exact if_neg h20)
  have HE : Hid (encH (readH b) = hC ((byN b 0 % 16 : Nat) : Int) (byN b 1) (p16 b 2) (p16 b 4) ((p16 b 6 / 8192 : Nat) : Int) ((p16 b 6 % 8192 : Nat) : Int) (byN b 8) (byN b 9) (p16 b 10) (p32 b 12) (p32 b 16)) := Lib.hid rfl
  have l0 : byN b 0 % 16 < 16 := Nat.mod_lt _ (by decide)
  have l2 := p16_lt b 2
  generalize byN b 0 / 16 = nv at *
  generalize byN b 0 % 16 = n0 at *
  generalize byN b 1 = n1 at *
  generalize p16 b 2 = n2 at *
  generalize p16 b 4 = n4 at *
  generalize p16 b 6 / 8192 = n5 at *
  generalize p16 b 6 % 8192 = n6 at *
  generalize byN b 8 = n8 at *
  generalize byN b 9 = n9 at *
  generalize p16 b 10 = n10 at *
  generalize p32 b 12 = n12 at *
  generalize p32 b 16 = n16 at *
  have HB := Lib.hid hb
  have HM := Lib.hid hm
  have HL0 := Lib.hid (And.intro l0 l2)
  have hs4 : IntKind.i64.wrap (4 * (n0 : Int)) = 4 * (n0 : Int) := IntWalk.i64_in _ (by omega)
  clear h h1 hb hm h20 e20 l0 l2
  go_enter Tryz.func79, Tryz.ntmps79
  go_wp2_with fail
  generalize w.heap.size = g at *
  refine K.out.mono ?_
  rintro e w1 ⟨rfl, ho⟩
  have ho2 := ho.cells (hC (n0 : Int) n1 n2 n4 n5 n6 n8 n9 n10 n12 n16) 84
  clear ho K
  go_upto_region 4 with fail
  generalize w1.heap.size = g2 at *
  generalize (w1.alloc (.cells (hC (n0 : Int) n1 n2 n4 n5 n6 n8 n9 n10 n12 n16) 84)) = W at *
  have HO := Lib.hid ho2
  have Q2 := ho2.block 0 rfl
  have Q1 := ho2.block 1 rfl
  clear ho2
  have i0 : W.cell? ⟨g2, 0, none⟩ = some (.int .i64 (n0 : Nat)) := cell_of Q2 rfl
  have i1 : W.cell? ⟨g2, 1, none⟩ = some (.int .i64 (n1 : Nat)) := cell_of Q2 rfl
  have i2 : W.cell? ⟨g2, 2, none⟩ = some (.int .i64 (n2 : Nat)) := cell_of Q2 rfl
  have i3 : W.cell? ⟨g2, 3, none⟩ = some (.int .i64 (n4 : Nat)) := cell_of Q2 rfl
  have i4 : W.cell? ⟨g2, 4, none⟩ = some (.int .i64 (n5 : Nat)) := cell_of Q2 rfl
  have i5 : W.cell? ⟨g2, 5, none⟩ = some (.int .i64 (n6 : Nat)) := cell_of Q2 rfl
  have i6 : W.cell? ⟨g2, 6, none⟩ = some (.int .i64 (n8 : Nat)) := cell_of Q2 rfl
  have i7 : W.cell? ⟨g2, 7, none⟩ = some (.int .i64 (n9 : Nat)) := cell_of Q2 rfl
  have i8 : W.cell? ⟨g2, 8, none⟩ = some (.int .i64 (n10 : Nat)) := cell_of Q2 rfl
  have i9 : W.cell? ⟨g2, 9, none⟩ = some (.int .u32 (n12 : Nat)) := cell_of Q2 rfl
  have i10 : W.cell? ⟨g2, 10, none⟩ = some (.int .u32 (n16 : Nat)) := cell_of Q2 rfl
  have z0 : W.cell? ⟨g, 0, none⟩ = some (.int .i64 0) := cell_of Q1 rfl
  have z1 : W.cell? ⟨g, 1, none⟩ = some (.int .i64 0) := cell_of Q1 rfl
  have z2 : W.cell? ⟨g, 2, none⟩ = some (.int .i64 0) := cell_of Q1 rfl
  have z3 : W.cell? ⟨g, 3, none⟩ = some (.int .i64 0) := cell_of Q1 rfl
  have z4 : W.cell? ⟨g, 4, none⟩ = some (.int .i64 0) := cell_of Q1 rfl
  have z5 : W.cell? ⟨g, 5, none⟩ = some (.int .i64 0) := cell_of Q1 rfl
  have z6 : W.cell? ⟨g, 6, none⟩ = some (.int .i64 0) := cell_of Q1 rfl
  have z7 : W.cell? ⟨g, 7, none⟩ = some (.int .i64 0) := cell_of Q1 rfl
  have z8 : W.cell? ⟨g, 8, none⟩ = some (.int .i64 0) := cell_of Q1 rfl
  have z9 : W.cell? ⟨g, 9, none⟩ = some (.int .u32 0) := cell_of Q1 rfl
  have z10 : W.cell? ⟨g, 10, none⟩ = some (.int .u32 0) := cell_of Q1 rfl
  have f0 : W.frozen? ⟨g, 0, none⟩ = false := free_of Q1
  have f1 : W.frozen? ⟨g, 1, none⟩ = false := free_of Q1
  have f2 : W.frozen? ⟨g, 2, none⟩ = false := free_of Q1
  have f3 : W.frozen? ⟨g, 3, none⟩ = false := free_of Q1
  have f4 : W.frozen? ⟨g, 4, none⟩ = false := free_of Q1
  have f5 : W.frozen? ⟨g, 5, none⟩ = false := free_of Q1
  have f6 : W.frozen? ⟨g, 6, none⟩ = false := free_of Q1
  have f7 : W.frozen? ⟨g, 7, none⟩ = false := free_of Q1
  have f8 : W.frozen? ⟨g, 8, none⟩ = false := free_of Q1
  have f9 : W.frozen? ⟨g, 9, none⟩ = false := free_of Q1
  have f10 : W.frozen? ⟨g, 10, none⟩ = false := free_of Q1
  have GZ := Lib.hid (HO.out.setFull 1 rfl (xs := [.int .i64 0, .int .i64 0, .int .i64 0, .int .i64 0, .int .i64 0, .int .i64 0, .int .i64 0, .int .i64 0, .int .i64 0, .int .u32 0, .int .u32 0]) (b := g) (C := hC 0 0 0 0 0 0 0 0 0 0 0) (T := 84) rfl)
  clear Q1 Q2
  have HERR := Lib.hid (fun (r : Int) (e : parseD b = (zH, [], r)) => ParsePost.err (GZ.out.drop.drop) e)
  by_cases c1 : nv = 4
  case neg =>
    have q := Lib.hid (HERR.out 2 (by rw [HP.out, if_pos c1]))
    have c1' : ((nv : Int) != 4) = true := by rw [bne_iff_ne]; omega
    clear HERR HP HB c1 HE
    go_wp2_with fail
    exact bodyPost_ret (results_cell_tmp2_row Tryz.results79 _ _ g 84 _ (0, 0) _ rfl (GZ.out.block 1 rfl) Tryz.underlying84 rfl (by kernel_rfl)) rfl q.out
  have c1' : ((nv : Int) != 4) = false := by rw [c1]; rfl
  by_cases c2 : n0 < 5
  · have q := Lib.hid (HERR.out 3 (by rw [HP.out, if_neg (by omega), if_pos c2]))
    have c2' : (n0 : Int) < 5 := by omega
    clear HERR HP HB c1 c2 HE
    go_wp2_with fail
    exact bodyPost_ret (results_cell_tmp2_row Tryz.results79 _ _ g 84 _ (0, 0) _ rfl (GZ.out.block 1 rfl) Tryz.underlying84 rfl (by kernel_rfl)) rfl q.out
  have c2' : ¬ ((n0 : Int) < 5) := by omega
  by_cases c3 : b.length < 4 * n0
  · have q := Lib.hid (HERR.out 1 (by rw [HP.out, if_neg (by omega), if_neg c2, if_pos c3]))
    have c3' : (b.length : Int) < 4 * (n0 : Int) := by omega
    clear HERR HP HB c1 c2 c3 HE
    go_wp2_with fail
    exact bodyPost_ret (results_cell_tmp2_row Tryz.results79 _ _ g 84 _ (0, 0) _ rfl (GZ.out.block 1 rfl) Tryz.underlying84 rfl (by kernel_rfl)) rfl q.out
  have c3' : ¬ ((b.length : Int) < 4 * (n0 : Int)) := by omega
  have hcap := HB.out.cap
  have hpre : ∀ w, (Instr.slice 35 (.slice (some ⟨ga, oa, none⟩) b.length c) none (some (.int .i64 (4 * (n0 : Int)))) none).run Tryz.prog w = .ok (.slice (some ⟨ga, oa, none⟩) (4 * n0) c) w := fun w => by
    have := run_pre_at ga oa b.length c (4 * n0) (by omega) w
    rwa [show ((4 * n0 : Nat) : Int) = 4 * (n0 : Int) by omega] at this
  have KN : Hid (Calls Tryz.prog 114 #[.slice (some ⟨ga, oa, none⟩) (4 * n0) c] W fun e w' => e = .returned (.int .u16 (netN (b.take (4 * n0)))) ∧ w' = W) := Lib.hid (by
    have := su_net (c := c) (bs := b.take (4 * n0)) (A := some ⟨ga, oa, none⟩) (w := W) (by
      have := src_take (HB.out.src W HO.out.drop.drop) rfl (m := 4 * n0) (by omega)
      rwa [show (b.take (4 * n0)).length = 4 * n0 by rw [List.length_take]; omega]) (by rw [List.length_take]; have := HM.out; omega)
    rwa [show (b.take (4 * n0)).length = 4 * n0 by rw [List.length_take]; omega] at this)
  have l4 := netN_lt (b.take (4 * n0))
  generalize netN (b.take (4 * n0)) = nn at *
  clear hcap
  by_cases c4 : nn = 0
  case neg =>
    have q := Lib.hid (HERR.out 4 (by rw [HP.out, if_neg (by omega), if_neg c2, if_neg c3, if_pos c4]))
    have c4' : ((nn : Int) != 0) = true := by rw [bne_iff_ne]; omega
    clear HERR HP HB c1 c2 c3 HE c4
    go_wp2_with fail
    refine KN.out.mono ?_
    rintro e w2 ⟨rfl, rfl⟩
    clear KN
    go_wp2_with fail
    exact bodyPost_ret (results_cell_tmp2_row Tryz.results79 _ _ g 84 _ (0, 0) _ rfl (GZ.out.block 1 rfl) Tryz.underlying84 rfl (by kernel_rfl)) rfl q.out
  have c4' : ((nn : Int) != 0) = false := by rw [c4]; rfl
  by_cases c5 : n2 < 4 * n0
  · have q := Lib.hid (HERR.out 3 (by rw [HP.out, if_neg (by omega), if_neg c2, if_neg c3, if_neg (by omega), if_pos c5]))
    have c5' : (n2 : Int) < 4 * (n0 : Int) := by omega
    clear HERR HP HB c1 c2 c3 HE c4 c5
    go_wp2_with fail
    refine KN.out.mono ?_
    rintro e w2 ⟨rfl, rfl⟩
    clear KN
    go_wp2_with fail
    exact bodyPost_ret (results_cell_tmp2_row Tryz.results79 _ _ g 84 _ (0, 0) _ rfl (GZ.out.block 1 rfl) Tryz.underlying84 rfl (by kernel_rfl)) rfl q.out
  have c5' : ¬ ((n2 : Int) < 4 * (n0 : Int)) := by omega
  by_cases c6 : b.length < n2
  · have q := Lib.hid (HERR.out 5 (by rw [HP.out, if_neg (by omega), if_neg c2, if_neg c3, if_neg (by omega), if_neg c5, if_pos c6]))
    have c6' : (b.length : Int) < (n2 : Int) := by omega
    clear HERR HP HB c1 c2 c3 HE c4 c5 c6
    go_wp2_with fail
    refine KN.out.mono ?_
    rintro e w2 ⟨rfl, rfl⟩
    clear KN
    go_wp2_with fail
    exact bodyPost_ret (results_cell_tmp2_row Tryz.results79 _ _ g 84 _ (0, 0) _ rfl (GZ.out.block 1 rfl) Tryz.underlying84 rfl (by kernel_rfl)) rfl q.out
  have c6' : ¬ ((b.length : Int) < (n2 : Int)) := by omega
  have HF : Hid (parseD b = (readH b, (b.take n2).drop (4 * n0), 0)) := Lib.hid (by rw [HP.out, if_neg (by omega), if_neg c2, if_neg c3, if_neg (by omega), if_neg c5, if_neg c6])
  have hlen : ((b.take n2).drop (4 * n0)).length = n2 - 4 * n0 := by rw [List.length_drop, List.length_take]; omega
  obtain ⟨g', o', c', hmid0, hsrc⟩ := HB.out.mid (i := 4 * n0) (j := n2) (by omega) (by omega)
  have hmid : ∀ w, (Instr.slice 35 (.slice (some ⟨ga, oa, none⟩) b.length c) (some (.int .i64 (4 * (n0 : Int)))) (some (.int .i64 (n2 : Int))) none).run Tryz.prog w = .ok (.slice (some ⟨g', o', none⟩) (n2 - 4 * n0) c') w := fun w => by
    have := hmid0 w
    rwa [show ((4 * n0 : Nat) : Int) = 4 * (n0 : Int) by omega] at this
  have KC : Hid (∀ W', In F0 w0 W' (Cells g2 (hC (n0 : Int) n1 n2 n4 n5 n6 n8 n9 n10 n12 n16) 84 :: Cells g (hC 0 0 0 0 0 0 0 0 0 0 0) 84 :: R) → Calls Tryz.prog 115 #[.slice (some ⟨g', o', none⟩) (n2 - 4 * n0) c'] W' fun e w' => ∃ v, e = .returned v ∧ In F0 w0 w' (ByR v ((b.take n2).drop (4 * n0)) :: Cells g2 (hC (n0 : Int) n1 n2 n4 n5 n6 n8 n9 n10 n12 n16) 84 :: Cells g (hC 0 0 0 0 0 0 0 0 0 0 0) 84 :: R)) := Lib.hid (fun W' hW' => by
    have := o_clone (c := c') hW' (A := some ⟨g', o', none⟩) (bs := (b.take n2).drop (4 * n0)) (by intro h; cases h) (by rw [hlen]; exact hsrc W' hW'.drop.drop) (by rw [hlen]; have := HM.out; omega)
    rw [hlen] at this
    exact this.mono fun e w' ⟨v, he, ho⟩ => ⟨v, he, by unfold ByR; rw [hlen]; exact ho⟩)
  have HOK : Hid (∀ (W' : World) (v : Value), In F0 w0 W' (ByR v ((b.take n2).drop (4 * n0)) :: R) → ParsePost b F0 w0 R (.returned (.tuple #[.agg (hC (n0 : Int) n1 n2 n4 n5 n6 n8 n9 n10 n12 n16), v, .int .i64 0])) W') := Lib.hid (fun W' v hW' => ⟨v, by rw [HF.out, HE.out], by rw [HF.out]; exact hW'⟩)
  have HD := Lib.hid (HO.out.drewN 1)
  have hu := Tryz.underlying84
  have hi11 : (Tryz.prog.info? 84).map (·.size) = some 11 := by kernel_rfl
  have h2n : (4 * (n0 : Int)) ≤ (n2 : Int) := by omega
  clear HERR HP HB c1 c2 c3 HE c4 c5 c6 HF hlen hmid0 hsrc
  generalize (b.take n2).drop (4 * n0) = bd at *
  clear z0 z1 z2 z3 z4 z5 z6 z7 z8 z9 z10 f0 f1 f2 f3 f4 f5 f6 f7 f8 f9 f10
  have hS : W.drew.cell? ⟨g2, 0, none⟩ = some (.int .i64 (n0 : Nat)) ∧ W.drew.cell? ⟨g2, 1, none⟩ = some (.int .i64 (n1 : Nat)) ∧ W.drew.cell? ⟨g2, 2, none⟩ = some (.int .i64 (n2 : Nat)) ∧ W.drew.cell? ⟨g2, 3, none⟩ = some (.int .i64 (n4 : Nat)) ∧ W.drew.cell? ⟨g2, 4, none⟩ = some (.int .i64 (n5 : Nat)) ∧ W.drew.cell? ⟨g2, 5, none⟩ = some (.int .i64 (n6 : Nat)) ∧ W.drew.cell? ⟨g2, 6, none⟩ = some (.int .i64 (n8 : Nat)) ∧ W.drew.cell? ⟨g2, 7, none⟩ = some (.int .i64 (n9 : Nat)) ∧ W.drew.cell? ⟨g2, 8, none⟩ = some (.int .i64 (n10 : Nat)) ∧ W.drew.cell? ⟨g2, 9, none⟩ = some (.int .u32 (n12 : Nat)) ∧ W.drew.cell? ⟨g2, 10, none⟩ = some (.int .u32 (n16 : Nat)) ∧ W.drew.there g 0 11 := ⟨cell_of (HD.out.block 0 rfl) rfl, cell_of (HD.out.block 0 rfl) rfl, cell_of (HD.out.block 0 rfl) rfl, cell_of (HD.out.block 0 rfl) rfl, cell_of (HD.out.block 0 rfl) rfl, cell_of (HD.out.block 0 rfl) rfl, cell_of (HD.out.block 0 rfl) rfl, cell_of (HD.out.block 0 rfl) rfl, cell_of (HD.out.block 0 rfl) rfl, cell_of (HD.out.block 0 rfl) rfl, cell_of (HD.out.block 0 rfl) rfl, there_of (HD.out.block 1 rfl)⟩
  go_wp2_with fail
  refine KN.out.mono ?_
  rintro e w2 ⟨rfl, rfl⟩
  clear KN i0 i1 i3 i4 i5 i6 i7 i8 i9 i10
  go_wp2_with fail
  refine e_start (fun w' => w'.cell? ⟨g2, 0, none⟩ = some (.int .i64 (n0 : Nat)) ∧ w'.cell? ⟨g2, 1, none⟩ = some (.int .i64 (n1 : Nat)) ∧ w'.cell? ⟨g2, 2, none⟩ = some (.int .i64 (n2 : Nat)) ∧ w'.cell? ⟨g2, 3, none⟩ = some (.int .i64 (n4 : Nat)) ∧ w'.cell? ⟨g2, 4, none⟩ = some (.int .i64 (n5 : Nat)) ∧ w'.cell? ⟨g2, 5, none⟩ = some (.int .i64 (n6 : Nat)) ∧ w'.cell? ⟨g2, 6, none⟩ = some (.int .i64 (n8 : Nat)) ∧ w'.cell? ⟨g2, 7, none⟩ = some (.int .i64 (n9 : Nat)) ∧ w'.cell? ⟨g2, 8, none⟩ = some (.int .i64 (n10 : Nat)) ∧ w'.cell? ⟨g2, 9, none⟩ = some (.int .u32 (n12 : Nat)) ∧ w'.cell? ⟨g2, 10, none⟩ = some (.int .u32 (n16 : Nat)) ∧ w'.there g 0 11) (by kernel_rfl) hS (fun hS => ?_)
  refine e_take (i := 0) (v := ?_) rfl (by kernel_rfl) (fun _ _ _ h => h) (by rfl) ?_ hS ?_
  rotate_left
  · (intro w hSw; (try dsimp only at hSw); go_simp; try with_reducible rfl)
  try simp only [Act.put, List.setIfInBounds_toArray, List.set_cons_zero, List.set_cons_succ]
  refine e_take (i := 1) (v := ?_) rfl (by kernel_rfl) (fun _ _ _ h => h) (by rfl) ?_ hS ?_
  rotate_left
  · (intro w hSw; (try dsimp only at hSw); go_simp; try with_reducible rfl)
  try simp only [Act.put, List.setIfInBounds_toArray, List.set_cons_zero, List.set_cons_succ]
  refine e_take (i := 2) (v := ?_) rfl (by kernel_rfl) (fun _ _ _ h => h) (by rfl) ?_ hS ?_
  rotate_left
  · (intro w hSw; (try dsimp only at hSw); go_simp; try with_reducible rfl)
  try simp only [Act.put, List.setIfInBounds_toArray, List.set_cons_zero, List.set_cons_succ]
  refine e_take (i := 3) (v := ?_) rfl (by kernel_rfl) (fun _ _ _ h => h) (by rfl) ?_ hS ?_
  rotate_left
  · (intro w hSw; (try dsimp only at hSw); go_simp; try with_reducible rfl)
  try simp only [Act.put, List.setIfInBounds_toArray, List.set_cons_zero, List.set_cons_succ]
  refine e_take (i := 4) (v := ?_) rfl (by kernel_rfl) (fun _ _ _ h => h) (by rfl) ?_ hS ?_
  rotate_left
  · (intro w hSw; (try dsimp only at hSw); go_simp; try with_reducible rfl)
  try simp only [Act.put, List.setIfInBounds_toArray, List.set_cons_zero, List.set_cons_succ]
  refine e_take (i := 5) (v := ?_) rfl (by kernel_rfl) (fun _ _ _ h => h) (by rfl) ?_ hS ?_
  rotate_left
  · (intro w hSw; (try dsimp only at hSw); go_simp; try with_reducible rfl)
  try simp only [Act.put, List.setIfInBounds_toArray, List.set_cons_zero, List.set_cons_succ]
  refine e_pin (i := 6) rfl (by kernel_rfl) (fun K' hK => ?_)
  go_simp
  go_at_call 115
  refine (KC.out _ HD.out).mono ?_
  rintro e w3 ⟨v3, rfl, ho3⟩
  have hS3 : w3.cell? ⟨g2, 0, none⟩ = some (.int .i64 (n0 : Nat)) ∧ w3.cell? ⟨g2, 1, none⟩ = some (.int .i64 (n1 : Nat)) ∧ w3.cell? ⟨g2, 2, none⟩ = some (.int .i64 (n2 : Nat)) ∧ w3.cell? ⟨g2, 3, none⟩ = some (.int .i64 (n4 : Nat)) ∧ w3.cell? ⟨g2, 4, none⟩ = some (.int .i64 (n5 : Nat)) ∧ w3.cell? ⟨g2, 5, none⟩ = some (.int .i64 (n6 : Nat)) ∧ w3.cell? ⟨g2, 6, none⟩ = some (.int .i64 (n8 : Nat)) ∧ w3.cell? ⟨g2, 7, none⟩ = some (.int .i64 (n9 : Nat)) ∧ w3.cell? ⟨g2, 8, none⟩ = some (.int .i64 (n10 : Nat)) ∧ w3.cell? ⟨g2, 9, none⟩ = some (.int .u32 (n12 : Nat)) ∧ w3.cell? ⟨g2, 10, none⟩ = some (.int .u32 (n16 : Nat)) ∧ w3.there g 0 11 := ⟨cell_of (ho3.block 1 rfl) rfl, cell_of (ho3.block 1 rfl) rfl, cell_of (ho3.block 1 rfl) rfl, cell_of (ho3.block 1 rfl) rfl, cell_of (ho3.block 1 rfl) rfl, cell_of (ho3.block 1 rfl) rfl, cell_of (ho3.block 1 rfl) rfl, cell_of (ho3.block 1 rfl) rfl, cell_of (ho3.block 1 rfl) rfl, cell_of (ho3.block 1 rfl) rfl, cell_of (ho3.block 1 rfl) rfl, there_of (ho3.block 2 rfl)⟩
  have G4 := ho3.setFull 2 rfl (xs := [.int .i64 (n0 : Nat), .int .i64 (n1 : Nat), .int .i64 (n2 : Nat), .int .i64 (n4 : Nat), .int .i64 (n5 : Nat), .int .i64 (n6 : Nat), .int .i64 (n8 : Nat), .int .i64 (n9 : Nat), .int .i64 (n10 : Nat), .int .u32 (n12 : Nat), .int .u32 (n16 : Nat)]) (b := g) (C := hC 0 0 0 0 0 0 0 0 0 0 0) (T := 84) rfl
  have HS4 : Hid ((w3.setCells g 0 [.int .i64 (n0 : Nat), .int .i64 (n1 : Nat), .int .i64 (n2 : Nat), .int .i64 (n4 : Nat), .int .i64 (n5 : Nat), .int .i64 (n6 : Nat), .int .i64 (n8 : Nat), .int .i64 (n9 : Nat), .int .i64 (n10 : Nat), .int .u32 (n12 : Nat), .int .u32 (n16 : Nat)]).cell? ⟨g2, 0, none⟩ = some (.int .i64 (n0 : Nat)) ∧ (w3.setCells g 0 [.int .i64 (n0 : Nat), .int .i64 (n1 : Nat), .int .i64 (n2 : Nat), .int .i64 (n4 : Nat), .int .i64 (n5 : Nat), .int .i64 (n6 : Nat), .int .i64 (n8 : Nat), .int .i64 (n9 : Nat), .int .i64 (n10 : Nat), .int .u32 (n12 : Nat), .int .u32 (n16 : Nat)]).cell? ⟨g2, 1, none⟩ = some (.int .i64 (n1 : Nat)) ∧ (w3.setCells g 0 [.int .i64 (n0 : Nat), .int .i64 (n1 : Nat), .int .i64 (n2 : Nat), .int .i64 (n4 : Nat), .int .i64 (n5 : Nat), .int .i64 (n6 : Nat), .int .i64 (n8 : Nat), .int .i64 (n9 : Nat), .int .i64 (n10 : Nat), .int .u32 (n12 : Nat), .int .u32 (n16 : Nat)]).cell? ⟨g2, 2, none⟩ = some (.int .i64 (n2 : Nat)) ∧ (w3.setCells g 0 [.int .i64 (n0 : Nat), .int .i64 (n1 : Nat), .int .i64 (n2 : Nat), .int .i64 (n4 : Nat), .int .i64 (n5 : Nat), .int .i64 (n6 : Nat), .int .i64 (n8 : Nat), .int .i64 (n9 : Nat), .int .i64 (n10 : Nat), .int .u32 (n12 : Nat), .int .u32 (n16 : Nat)]).cell? ⟨g2, 3, none⟩ = some (.int .i64 (n4 : Nat)) ∧ (w3.setCells g 0 [.int .i64 (n0 : Nat), .int .i64 (n1 : Nat), .int .i64 (n2 : Nat), .int .i64 (n4 : Nat), .int .i64 (n5 : Nat), .int .i64 (n6 : Nat), .int .i64 (n8 : Nat), .int .i64 (n9 : Nat), .int .i64 (n10 : Nat), .int .u32 (n12 : Nat), .int .u32 (n16 : Nat)]).cell? ⟨g2, 4, none⟩ = some (.int .i64 (n5 : Nat)) ∧ (w3.setCells g 0 [.int .i64 (n0 : Nat), .int .i64 (n1 : Nat), .int .i64 (n2 : Nat), .int .i64 (n4 : Nat), .int .i64 (n5 : Nat), .int .i64 (n6 : Nat), .int .i64 (n8 : Nat), .int .i64 (n9 : Nat), .int .i64 (n10 : Nat), .int .u32 (n12 : Nat), .int .u32 (n16 : Nat)]).cell? ⟨g2, 5, none⟩ = some (.int .i64 (n6 : Nat)) ∧ (w3.setCells g 0 [.int .i64 (n0 : Nat), .int .i64 (n1 : Nat), .int .i64 (n2 : Nat), .int .i64 (n4 : Nat), .int .i64 (n5 : Nat), .int .i64 (n6 : Nat), .int .i64 (n8 : Nat), .int .i64 (n9 : Nat), .int .i64 (n10 : Nat), .int .u32 (n12 : Nat), .int .u32 (n16 : Nat)]).cell? ⟨g2, 6, none⟩ = some (.int .i64 (n8 : Nat)) ∧ (w3.setCells g 0 [.int .i64 (n0 : Nat), .int .i64 (n1 : Nat), .int .i64 (n2 : Nat), .int .i64 (n4 : Nat), .int .i64 (n5 : Nat), .int .i64 (n6 : Nat), .int .i64 (n8 : Nat), .int .i64 (n9 : Nat), .int .i64 (n10 : Nat), .int .u32 (n12 : Nat), .int .u32 (n16 : Nat)]).cell? ⟨g2, 7, none⟩ = some (.int .i64 (n9 : Nat)) ∧ (w3.setCells g 0 [.int .i64 (n0 : Nat), .int .i64 (n1 : Nat), .int .i64 (n2 : Nat), .int .i64 (n4 : Nat), .int .i64 (n5 : Nat), .int .i64 (n6 : Nat), .int .i64 (n8 : Nat), .int .i64 (n9 : Nat), .int .i64 (n10 : Nat), .int .u32 (n12 : Nat), .int .u32 (n16 : Nat)]).cell? ⟨g2, 8, none⟩ = some (.int .i64 (n10 : Nat)) ∧ (w3.setCells g 0 [.int .i64 (n0 : Nat), .int .i64 (n1 : Nat), .int .i64 (n2 : Nat), .int .i64 (n4 : Nat), .int .i64 (n5 : Nat), .int .i64 (n6 : Nat), .int .i64 (n8 : Nat), .int .i64 (n9 : Nat), .int .i64 (n10 : Nat), .int .u32 (n12 : Nat), .int .u32 (n16 : Nat)]).cell? ⟨g2, 9, none⟩ = some (.int .u32 (n12 : Nat)) ∧ (w3.setCells g 0 [.int .i64 (n0 : Nat), .int .i64 (n1 : Nat), .int .i64 (n2 : Nat), .int .i64 (n4 : Nat), .int .i64 (n5 : Nat), .int .i64 (n6 : Nat), .int .i64 (n8 : Nat), .int .i64 (n9 : Nat), .int .i64 (n10 : Nat), .int .u32 (n12 : Nat), .int .u32 (n16 : Nat)]).cell? ⟨g2, 10, none⟩ = some (.int .u32 (n16 : Nat)) ∧ (w3.setCells g 0 [.int .i64 (n0 : Nat), .int .i64 (n1 : Nat), .int .i64 (n2 : Nat), .int .i64 (n4 : Nat), .int .i64 (n5 : Nat), .int .i64 (n6 : Nat), .int .i64 (n8 : Nat), .int .i64 (n9 : Nat), .int .i64 (n10 : Nat), .int .u32 (n12 : Nat), .int .u32 (n16 : Nat)]).there g 0 11) := Lib.hid ⟨cell_of (G4.block 1 rfl) rfl, cell_of (G4.block 1 rfl) rfl, cell_of (G4.block 1 rfl) rfl, cell_of (G4.block 1 rfl) rfl, cell_of (G4.block 1 rfl) rfl, cell_of (G4.block 1 rfl) rfl, cell_of (G4.block 1 rfl) rfl, cell_of (G4.block 1 rfl) rfl, cell_of (G4.block 1 rfl) rfl, cell_of (G4.block 1 rfl) rfl, cell_of (G4.block 1 rfl) rfl, there_of (G4.block 2 rfl)⟩
  obtain ⟨F3, r3⟩ := ho3.get 0 rfl
  obtain ⟨a3, cap3, rfl, -, -, -⟩ := RowA.shape r3
  have GF := Lib.hid G4
  clear ho3 G4 hS r3
  refine hK.out _ _ hS3 (fun hS => ?_)
  clear hK K' hS3
  try simp only [Act.put, List.setIfInBounds_toArray, List.set_cons_zero, List.set_cons_succ]
  refine e_pin (i := 7) rfl (by kernel_rfl) (fun K' hK => ?_)
  refine store_step (by rfl) 84 (.tmp 2) (.tmp 21) (by rfl) g 0 (hC (n0 : Int) n1 n2 n4 n5 n6 n8 n9 n10 n12 n16) (by rfl) (by rfl) hS.2.2.2.2.2.2.2.2.2.2.2 (by kernel_rfl) (hC_all _ _ _ _ _ _ _ _ _ _ _) ?_
  clear hS
  refine hK.out _ _ HS4.out (fun hS => ?_)
  clear hK K' HS4
  try simp only [Act.put, List.setIfInBounds_toArray, List.set_cons_zero, List.set_cons_succ]
  refine e_pin (i := 8) rfl (by kernel_rfl) (fun K' hK => ?_)
  go_simp
  refine hK.out _ _ hS (fun hS => ?_)
  clear hK K'
  try simp only [Act.put, List.setIfInBounds_toArray, List.set_cons_zero, List.set_cons_succ]
  refine e_last (i := 9) rfl (by kernel_rfl) (fun K' hK => ?_)
  go_simp
  refine hK.out _ _ ?_
  clear hK K' hS
  go_wp2_with fail
  exact bodyPost_ret (results_cell_tmp2_row Tryz.results79 _ _ g 84 _ (0, 0) _ rfl (GF.out.block 2 rfl) Tryz.underlying84 rfl (by kernel_rfl)) rfl (HOK.out _ _ (GF.out.sel2 (R1 := [_, _, _]) (R2 := R) [0] (by decide) rfl))
end
theorem pt_tcp {w : World} {A : Option Addr} {bs : List UInt8} {c : Nat} (h : Src w A bs.length 1 (u8s bs)) : Calls Tryz.prog 108 #[.slice A bs.length c] w fun e w' => e = .returned (.bool (tcpOk bs)) ∧ w' = w := by
  by_cases h20 : bs.length < 20
  · have HE : Hid (tcpOk bs = false) := Lib.hid (by unfold tcpOk; rw [decide_eq_false (by omega)]; rfl)
    have h20' : (bs.length : Int) < 20 := by omega
    clear h h20
    go_enter Tryz.func108, Tryz.ntmps108
    go_wp2_with fail
    go_ret
    exact ⟨by rw [HE.out]; rfl, rfl⟩
  obtain ⟨g, o, rfl, hc⟩ := h.plain (by omega) (by decide)
  have c0 := hc 12 _ (u8s_get (by omega))
  have h20' : ¬ ((bs.length : Int) < 20) := by omega
  have hix : (12 : Int) < (bs.length : Int) := by omega
  have hl := byN_lt bs 12
  have e0 : tcpOk bs = (decide (5 ≤ byN bs 12 / 16) && decide (4 * (byN bs 12 / 16) ≤ bs.length)) := by unfold tcpOk; rw [decide_eq_true (by omega)]; rfl
  generalize byN bs 12 = n at *
  clear h hc h20
  by_cases h5 : 5 ≤ n / 16
  · have q5 : (5 : Int) ≤ (n : Int) / 16 := by omega
    by_cases h4 : 4 * (n / 16) ≤ bs.length
    · have HE : Hid (tcpOk bs = true) := Lib.hid (by rw [e0, decide_eq_true h5, decide_eq_true h4]; rfl)
      have q4 : 4 * ((n : Int) / 16) ≤ (bs.length : Int) := by omega
      have q3 : IntKind.i64.wrap (4 * ((n : Int) / 16)) = 4 * ((n : Int) / 16) := IntWalk.i64_in _ (by omega)
      clear e0 h5 h4
      go_enter Tryz.func108, Tryz.ntmps108
      go_wp2_with fail
      go_ret
      exact ⟨by rw [HE.out]; rfl, rfl⟩
    · have HE : Hid (tcpOk bs = false) := Lib.hid (by rw [e0, decide_eq_true h5, decide_eq_false h4]; rfl)
      have q4 : decide (4 * ((n : Int) / 16) ≤ (bs.length : Int)) = false := decide_eq_false (by omega)
      have q3 : IntKind.i64.wrap (4 * ((n : Int) / 16)) = 4 * ((n : Int) / 16) := IntWalk.i64_in _ (by omega)
      clear e0 h5 h4
      go_enter Tryz.func108, Tryz.ntmps108
      go_wp2_with fail
      go_ret
      exact ⟨by rw [HE.out]; rfl, rfl⟩
  · have HE : Hid (tcpOk bs = false) := Lib.hid (by rw [e0, decide_eq_false h5]; rfl)
    have q5 : decide ((5 : Int) ≤ (n : Int) / 16) = false := decide_eq_false (by omega)
    clear e0 h5
    go_enter Tryz.func108, Tryz.ntmps108
    go_wp2_with fail
    go_ret
    exact ⟨by rw [HE.out]; rfl, rfl⟩
section
variable {F0 : List Nat} {w0 w : World} {R : List Asrt}
theorem o_ptudp {A : Option Addr} {bs : List UInt8} {c : Nat} (h : In F0 w0 w R) (hb : Bytes F0 w0 R A c bs) (hm : bs.length ≤ 100000000) : Calls Tryz.prog 109 #[.slice A bs.length c] w fun e w' => e = .returned (.bool (udpOk bs)) ∧ In F0 w0 w' R := by
  by_cases h8 : bs.length < 8
  · have HE : Hid (udpOk bs = false) := Lib.hid (by unfold udpOk; rw [decide_eq_false (by omega)]; rfl)
    have h8' : (bs.length : Int) < 8 := by omega
    have G := Lib.hid h
    clear h h8 hb hm
    go_enter Tryz.func109, Tryz.ntmps109
    go_wp2_with fail
    go_ret
    exact ⟨by rw [HE.out]; rfl, G.out⟩
  obtain ⟨g, o, rfl⟩ := hb.some (by omega)
  have hcap := hb.cap
  have h8' : ¬ ((bs.length : Int) < 8) := by omega
  have hsuf : ∀ W, (Instr.slice 35 (.slice (some ⟨g, o, none⟩) bs.length c) (some (.int .i64 4)) none none).run Tryz.prog W = .ok (.slice (some ⟨g, o + 4, none⟩) (bs.length - 4) (c - 4)) W := fun W => run_suf g o bs.length c 4 (by omega) (by omega) W
  have hl4 : (bs.drop 4).length = bs.length - 4 := List.length_drop
  have K0 : Hid (Calls Tryz.prog 110 #[.slice (some ⟨g, o + 4, none⟩) (bs.length - 4) (c - 4)] w fun e w' => ∃ br, e = .returned (.pointer (some ⟨br, 0, none⟩)) ∧ In F0 w0 w' (RdA br ((bs.drop 4).drop 0) 0 :: R)) := Lib.hid (by
    have := o_rnew (c := c - 4) (A := some ⟨g, o + 4, none⟩) (bs := bs.drop 4) h (by intro h; cases h) (by rw [hl4]; exact src_drop (hb.src w h) rfl (by omega)) (by omega)
    rwa [hl4] at this)
  have HL : Hid (0 + 2 ≤ (bs.drop 4).length) := Lib.hid (by omega)
  have hp : p16 (bs.drop 4) 0 = p16 bs 4 := by unfold p16 byN; simp
  have e0 : udpOk bs = (decide (8 ≤ p16 bs 4) && decide (p16 bs 4 ≤ bs.length)) := by unfold udpOk; rw [decide_eq_true (by omega)]; rfl
  have hl := p16_lt bs 4
  clear h hb h8 hcap hl4 hm
  have HP : Hid (p16 (bs.drop 4) 0 = p16 bs 4) := Lib.hid hp
  clear hp
  by_cases h5 : 8 ≤ p16 bs 4
  · by_cases h4 : p16 bs 4 ≤ bs.length
    · have HE : Hid (udpOk bs = true) := Lib.hid (by rw [e0, decide_eq_true h5, decide_eq_true h4]; rfl)
      generalize p16 bs 4 = n at *
      have q5 : (8 : Int) ≤ (n : Int) := by omega
      have q4 : (n : Int) ≤ (bs.length : Int) := by omega
      clear e0 h5 h4
      go_enter Tryz.func109, Tryz.ntmps109
      go_wp2_with fail
      refine K0.out.mono ?_
      rintro e w1 ⟨br, rfl, ho⟩
      have K1 := Lib.hid (o_rd16 (k := 0) ho 0 rfl HL.out)
      rw [HP.out] at K1
      clear ho K0
      go_wp2_with fail
      refine K1.out.mono ?_
      rintro e w2 ⟨rfl, ho⟩
      have G := Lib.hid ho.drop
      clear ho K1
      go_wp2_with fail
      go_ret
      exact ⟨by rw [HE.out]; rfl, G.out⟩
    · have HE : Hid (udpOk bs = false) := Lib.hid (by rw [e0, decide_eq_true h5, decide_eq_false h4]; rfl)
      generalize p16 bs 4 = n at *
      have q5 : (8 : Int) ≤ (n : Int) := by omega
      have q4 : decide ((n : Int) ≤ (bs.length : Int)) = false := decide_eq_false (by omega)
      have q4' : decide (n ≤ bs.length) = false := decide_eq_false (by omega)
      clear e0 h5 h4
      go_enter Tryz.func109, Tryz.ntmps109
      go_wp2_with fail
      refine K0.out.mono ?_
      rintro e w1 ⟨br, rfl, ho⟩
      have K1 := Lib.hid (o_rd16 (k := 0) ho 0 rfl HL.out)
      rw [HP.out] at K1
      clear ho K0
      go_wp2_with fail
      refine K1.out.mono ?_
      rintro e w2 ⟨rfl, ho⟩
      have G := Lib.hid ho.drop
      clear ho K1
      go_wp2_with fail
      go_ret
      exact ⟨by rw [HE.out]; rfl, G.out⟩
  · have HE : Hid (udpOk bs = false) := Lib.hid (by rw [e0, decide_eq_false h5]; rfl)
    generalize p16 bs 4 = n at *
    have q5 : decide ((8 : Int) ≤ (n : Int)) = false := decide_eq_false (by omega)
    have q5' : decide (8 ≤ n) = false := decide_eq_false (by omega)
    clear e0 h5
    go_enter Tryz.func109, Tryz.ntmps109
    go_wp2_with fail
    refine K0.out.mono ?_
    rintro e w1 ⟨br, rfl, ho⟩
    have K1 := Lib.hid (o_rd16 (k := 0) ho 0 rfl HL.out)
    rw [HP.out] at K1
    clear ho K0
    go_wp2_with fail
    refine K1.out.mono ?_
    rintro e w2 ⟨rfl, ho⟩
    have G := Lib.hid ho.drop
    clear ho K1
    go_wp2_with fail
    go_ret
    exact ⟨by rw [HE.out]; rfl, G.out⟩
theorem o_ipwhole (h : In F0 w0 w R) (a0 a1 a2 a3 a6 a7 a8 a9 a10 off : Int) {fl : Nat} (hf : fl < 8) : Calls Tryz.prog 107 #[.agg (hC a0 a1 a2 a3 fl off a6 a7 a8 a9 a10)] w fun e w' => e = .returned (.bool (decide ((fl : Int) % 2 = 0) && decide (off = 0))) ∧ In F0 w0 w' R := by
  have G := Lib.hid (h.alloc (.cells (hC a0 a1 a2 a3 fl off a6 a7 a8 a9 a10) 84))
  have q1 : bits .and .i64 (fl : Int) 1 = ((fl % 2 : Nat) : Int) := bits_and_mask fl 1 (by omega) (by omega)
  clear h
  have hx : decide ((fl : Int) % 2 = 0) = decide (fl % 2 = 0) := by
    by_cases h1 : fl % 2 = 0
    · rw [decide_eq_true h1, decide_eq_true (by omega)]
    · rw [decide_eq_false h1, decide_eq_false (by omega)]
  rw [hx]
  clear hx
  generalize fl % 2 = fm at *
  by_cases h1 : fm = 0
  · have q2 : ((fm : Int) == 0) = true := by rw [h1]; rfl
    have e1 : decide (fm = 0) = true := decide_eq_true h1
    by_cases h2 : off = 0
    · have e2 : decide (off = 0) = true := decide_eq_true h2
      have q3 : (off == 0) = true := by rw [h2]; rfl
      rw [e1, e2]
      clear e1 e2 h1 h2
      go_enter Tryz.func107, Tryz.ntmps107
      go_wp2_with fail
      go_ret
      exact ⟨rfl, G.out⟩
    · have e2 : decide (off = 0) = false := decide_eq_false h2
      have q3 : (off == 0) = false := beq_eq_false_iff_ne.2 h2
      rw [e1, e2]
      clear e1 e2 h1 h2
      go_enter Tryz.func107, Tryz.ntmps107
      go_wp2_with fail
      go_ret
      exact ⟨rfl, G.out⟩
  · have q2 : ((fm : Int) == 0) = false := by rw [beq_eq_false_iff_ne]; omega
    have e1 : decide (fm = 0) = false := decide_eq_false h1
    rw [e1]
    clear e1 h1
    go_enter Tryz.func107, Tryz.ntmps107
    go_wp2_with fail
    go_ret
    exact ⟨rfl, G.out⟩
end
end Go.Proofs.YtgapbecddgfkmaaGreat
