/- Rows.PathPlaysSaid -/
import Derived.Test.YtgapbecddgfkmaaGreatPY14
import Derived.Test.YtgapbecddgfkmaaGreatPY18
import Derived.Deep.DeepCutAuto
namespace Go.Proofs.YtgapbecddgfkmaaGreat
open Go.RowKit
set_option linter.unusedVariables false
set_option maxHeartbeats 64000000
set_option maxRecDepth 100000
theorem bits_and_u8R (a : Nat) (ha : a < 256) : bits .and .u8 (a : Int) 15 = ((a % 16 : Nat) : Int) ∧ bits .and .u8 (a : Int) 31 = ((a % 32 : Nat) : Int) := by
  have h : ∀ a : Fin 256, bits .and .u8 (a.val : Int) 15 = ((a.val % 16 : Nat) : Int) ∧ bits .and .u8 (a.val : Int) 31 = ((a.val % 32 : Nat) : Int) := by decide +kernel
  exact h ⟨a, ha⟩
theorem rangeZ {W : World} {g : Nat} (h : W.heap[g]? = some (.cells (hC 0 0 0 0 0 0 0 0 0 0 0) 84 (0, 0))) : W.rangeAt g 0 [.int .i64 0, .int .i64 0, .int .i64 0, .int .i64 0, .int .i64 0, .int .i64 0, .int .i64 0, .int .i64 0, .int .i64 0, .int .u32 0, .int .u32 0] := fun j u hu => by
  rw [Nat.zero_add]
  exact cell_of h (by rw [show (hC 0 0 0 0 0 0 0 0 0 0 0) = ([.int .i64 0, .int .i64 0, .int .i64 0, .int .i64 0, .int .i64 0, .int .i64 0, .int .i64 0, .int .i64 0, .int .i64 0, .int .u32 0, .int .u32 0] : List Value).toArray from rfl, List.getElem?_toArray]; exact hu)
def HcS (g2 g : Nat) (a0 a1 a2 a3 a4 a5 a6 a7 a8 a9 a10 : Int) (w' : World) : Prop := w'.cell? ⟨g2, 0, none⟩ = some (.int .i64 a0) ∧ w'.cell? ⟨g2, 1, none⟩ = some (.int .i64 a1) ∧ w'.cell? ⟨g2, 2, none⟩ = some (.int .i64 a2) ∧ w'.cell? ⟨g2, 3, none⟩ = some (.int .i64 a3) ∧ w'.cell? ⟨g2, 4, none⟩ = some (.int .i64 a4) ∧ w'.cell? ⟨g2, 5, none⟩ = some (.int .i64 a5) ∧ w'.cell? ⟨g2, 6, none⟩ = some (.int .i64 a6) ∧ w'.cell? ⟨g2, 7, none⟩ = some (.int .i64 a7) ∧ w'.cell? ⟨g2, 8, none⟩ = some (.int .i64 a8) ∧ w'.cell? ⟨g2, 9, none⟩ = some (.int .u32 a9) ∧ w'.cell? ⟨g2, 10, none⟩ = some (.int .u32 a10) ∧ w'.there g 0 11
theorem HcS.of {g2 g : Nat} {a0 a1 a2 a3 a4 a5 a6 a7 a8 a9 a10 : Int} {W : World} (h : W.heap[g2]? = some (.cells (hC a0 a1 a2 a3 a4 a5 a6 a7 a8 a9 a10) 84 (0, 0))) (ht : W.there g 0 11) : HcS g2 g a0 a1 a2 a3 a4 a5 a6 a7 a8 a9 a10 W :=
  ⟨cell_of h rfl, cell_of h rfl, cell_of h rfl, cell_of h rfl, cell_of h rfl, cell_of h rfl, cell_of h rfl, cell_of h rfl, cell_of h rfl, cell_of h rfl, cell_of h rfl, ht⟩
section
variable {F0 : List Nat} {w0 w : World} {R : List Asrt} {b : List UInt8}
theorem o_r20parse (h : In F0 w0 w R) {A : Option Addr} {c : Nat} (hb : Bytes F0 w0 R A c b) (hm : b.length ≤ 100000000) :
    Calls Tryz.prog 65 #[.slice A b.length c] w (ParsePost b F0 w0 R) := by
  have h1 := (h.cells (hC 0 0 0 0 0 0 0 0 0 0 0) 84).cells (hC 0 0 0 0 0 0 0 0 0 0 0) 84
  simp only [World.size_alloc] at h1
  have H1 := Lib.hid h1
  by_cases h20 : b.length < 20
  · have HE : parseD b = (zH, [], 1) := by unfold parseD; rw [if_pos h20]
    have q := Lib.hid (fun W (hW : In F0 w0 W (Cells (w.heap.size + 1) (hC 0 0 0 0 0 0 0 0 0 0 0) 84 :: Cells w.heap.size (hC 0 0 0 0 0 0 0 0 0 0 0) 84 :: R)) => ParsePost.err hW.drop.drop HE)
    have h20' : (b.length : Int) < 20 := by omega
    clear h hb hm h20 HE h1
    go_enter Tryz.func65, Tryz.ntmps65
    go_upto_region 3 with fail
    generalize ((w.alloc (.cells (hC 0 0 0 0 0 0 0 0 0 0 0) 84)).alloc (.cells (hC 0 0 0 0 0 0 0 0 0 0 0) 84)) = W1 at *
    generalize w.heap.size = g at *
    have HRG : Hid (W1.rangeAt (g + 1) 0 [.int .i64 0, .int .i64 0, .int .i64 0, .int .i64 0, .int .i64 0, .int .i64 0, .int .i64 0, .int .i64 0, .int .i64 0, .int .u32 0, .int .u32 0]) := Lib.hid (rangeZ (H1.out.block 0 rfl))
    have HTH : Hid (W1.there g 0 11) := Lib.hid (there_of (H1.out.block 1 rfl))
    have GZ := Lib.hid (H1.out.setFull 1 rfl (xs := [.int .i64 0, .int .i64 0, .int .i64 0, .int .i64 0, .int .i64 0, .int .i64 0, .int .i64 0, .int .i64 0, .int .i64 0, .int .u32 0, .int .u32 0]) (b := g) (C := (hC 0 0 0 0 0 0 0 0 0 0 0)) (T := 84) rfl)
    go_wp2_with (first | (refine wpList_load_mid (by rfl) 84 (.tmp 5) rfl (g + 1) 0 rfl [.int .i64 0, .int .i64 0, .int .i64 0, .int .i64 0, .int .i64 0, .int .i64 0, .int .i64 0, .int .i64 0, .int .i64 0, .int .u32 0, .int .u32 0] _ HRG.out Tryz.underlying84 rfl (by kernel_rfl) ?_) | (refine wpList_store_mid (by rfl) 84 (.tmp 2) (.tmp 13) rfl g 0 (hC 0 0 0 0 0 0 0 0 0 0 0) (by rfl) (by rfl) HTH.out (by kernel_rfl) (hC_all _ _ _ _ _ _ _ _ _ _ _) ?_))
    exact bodyPost_ret (results_cell_tmp2_row Tryz.results65 _ _ g 84 _ (0, 0) _ rfl (GZ.out.block 1 rfl) Tryz.underlying84 rfl (by kernel_rfl)) rfl (q.out _ GZ.out)
  have hge : ¬ ((b.length : Int) < 20) := by omega
  have hge2 : (20 : Int) ≤ (b.length : Int) := by omega
  obtain ⟨ga, oa, rfl, hcell⟩ := hb.cells (by omega)
  obtain ⟨x0, y0, b0, v0, l0, k0⟩ := byteAt hcell (i := 0) (by omega)
  obtain ⟨x1, y1, b1, v1, l1, k1⟩ := byteAt hcell (i := 1) (by omega)
  obtain ⟨x2, y2, b2, v2, l2, k2⟩ := byteAt hcell (i := 2) (by omega)
  obtain ⟨x3, y3, b3, v3, l3, k3⟩ := byteAt hcell (i := 3) (by omega)
  obtain ⟨x4, y4, b4, v4, l4, k4⟩ := byteAt hcell (i := 4) (by omega)
  obtain ⟨x5, y5, b5, v5, l5, k5⟩ := byteAt hcell (i := 5) (by omega)
  obtain ⟨x6, y6, b6, v6, l6, k6⟩ := byteAt hcell (i := 6) (by omega)
  obtain ⟨x7, y7, b7, v7, l7, k7⟩ := byteAt hcell (i := 7) (by omega)
  obtain ⟨x8, y8, b8, v8, l8, k8⟩ := byteAt hcell (i := 8) (by omega)
  obtain ⟨x9, y9, b9, v9, l9, k9⟩ := byteAt hcell (i := 9) (by omega)
  obtain ⟨x10, y10, b10, v10, l10, k10⟩ := byteAt hcell (i := 10) (by omega)
  obtain ⟨x11, y11, b11, v11, l11, k11⟩ := byteAt hcell (i := 11) (by omega)
  have e0 : byN b 0 = y0 := by rw [byN_get b0, v0]
  have e1 : byN b 1 = y1 := by rw [byN_get b1, v1]
  have e2 : byN b 2 = y2 := by rw [byN_get b2, v2]
  have e3 : byN b 3 = y3 := by rw [byN_get b3, v3]
  have e4 : byN b 4 = y4 := by rw [byN_get b4, v4]
  have e5 : byN b 5 = y5 := by rw [byN_get b5, v5]
  have e6 : byN b 6 = y6 := by rw [byN_get b6, v6]
  have e7 : byN b 7 = y7 := by rw [byN_get b7, v7]
  have e8 : byN b 8 = y8 := by rw [byN_get b8, v8]
  have e9 : byN b 9 = y9 := by rw [byN_get b9, v9]
  have e10 : byN b 10 = y10 := by rw [byN_get b10, v10]
  have e11 : byN b 11 = y11 := by rw [byN_get b11, v11]
  have P2 : p16 b 2 = y2 * 256 + y3 := by unfold p16; rw [e2, e3]
  have P4 : p16 b 4 = y4 * 256 + y5 := by unfold p16; rw [e4, e5]
  have P6 : p16 b 6 = y6 * 256 + y7 := by unfold p16; rw [e6, e7]
  have P10 : p16 b 10 = y10 * 256 + y11 := by unfold p16; rw [e10, e11]
  have q0 := (bits_and_u8R y0 l0).1
  have q6 := (bits_and_u8R y6 l6).2
  have o2 := or_two l2 l3
  have o4 := or_two l4 l5
  have o6 : bits .or .i64 (((y6 % 32 : Nat) : Int) * 256) (y7 : Int) = (((y6 % 32) * 256 + y7 : Nat) : Int) := or_two (by omega) l7
  have o10 := or_two l10 l11
  have HEN : Hid (encH (readH b) = hC ((y0 % 16 : Nat) : Int) y1 ((y2 * 256 + y3 : Nat) : Int) ((y4 * 256 + y5 : Nat) : Int) ((y6 / 32 : Nat) : Int) (((y6 % 32) * 256 + y7 : Nat) : Int) y8 y9 ((y10 * 256 + y11 : Nat) : Int) (p32 b 12) (p32 b 16)) := Lib.hid (by
    unfold readH encH
    rw [e0, e1, e8, e9, P2, P4, P6, P10, show (y6 * 256 + y7) / 8192 = y6 / 32 by omega, show (y6 * 256 + y7) % 8192 = y6 % 32 * 256 + y7 by omega])
  have HP : Hid (parseD b = if y0 / 16 ≠ 4 then (zH, [], 2) else if y0 % 16 < 5 then (zH, [], 3) else if b.length < 4 * (y0 % 16) then (zH, [], 1) else if netN (b.take (4 * (y0 % 16))) ≠ 0 then (zH, [], 4)
      else if y2 * 256 + y3 < 4 * (y0 % 16) then (zH, [], 3) else if b.length < y2 * 256 + y3 then (zH, [], 5) else (readH b, (b.take (y2 * 256 + y3)).drop (4 * (y0 % 16)), 0)) := Lib.hid (by unfold parseD; rw [if_neg h20, e0, P2])
  have HB := Lib.hid hb
  have HM := Lib.hid hm
  have HKK := Lib.hid (And.intro k0 (And.intro k1 (And.intro k2 (And.intro k3 (And.intro k4 (And.intro k5 (And.intro k6 (And.intro k7 (And.intro k8 (And.intro k9 (And.intro k10 k11)))))))))))
  obtain ⟨n0, hn0⟩ : ∃ n0, n0 = y0 % 16 := ⟨_, rfl⟩
  obtain ⟨n2, hn2⟩ : ∃ n2, n2 = y2 * 256 + y3 := ⟨_, rfl⟩
  obtain ⟨n4, hn4⟩ : ∃ n4, n4 = y4 * 256 + y5 := ⟨_, rfl⟩
  obtain ⟨n6, hn6⟩ : ∃ n6, n6 = y6 % 32 * 256 + y7 := ⟨_, rfl⟩
  obtain ⟨n10, hn10⟩ : ∃ n10, n10 = y10 * 256 + y11 := ⟨_, rfl⟩
  rw [← hn0] at q0 HEN HP
  rw [← hn2] at o2 HEN HP
  rw [← hn4] at o4 HEN
  rw [← hn6] at o6 HEN
  rw [← hn10] at o10 HEN
  have HL : Hid (n0 < 16 ∧ n2 < 65536) := Lib.hid (by omega)
  have h4n : IntKind.i64.wrap (4 * (n0 : Int)) = 4 * (n0 : Int) := IntWalk.i64_in _ (by omega)
  have s2 : IntKind.i64.wrap ((y2 : Int) * 256) = (y2 : Int) * 256 := IntWalk.i64_in _ (by omega)
  have s4 : IntKind.i64.wrap ((y4 : Int) * 256) = (y4 : Int) * 256 := IntWalk.i64_in _ (by omega)
  have s6 : IntKind.i64.wrap (((y6 % 32 : Nat) : Int) * 256) = ((y6 % 32 : Nat) : Int) * 256 := IntWalk.i64_in _ (by omega)
  have s10 : IntKind.i64.wrap ((y10 : Int) * 256) = (y10 : Int) * 256 := IntWalk.i64_in _ (by omega)
  have ww1 : IntKind.i64.wrap (y1 : Int) = (y1 : Int) := IntWalk.i64_in _ (by omega)
  have ww2 : IntKind.i64.wrap (y2 : Int) = (y2 : Int) := IntWalk.i64_in _ (by omega)
  have ww3 : IntKind.i64.wrap (y3 : Int) = (y3 : Int) := IntWalk.i64_in _ (by omega)
  have ww4 : IntKind.i64.wrap (y4 : Int) = (y4 : Int) := IntWalk.i64_in _ (by omega)
  have ww5 : IntKind.i64.wrap (y5 : Int) = (y5 : Int) := IntWalk.i64_in _ (by omega)
  have ww7 : IntKind.i64.wrap (y7 : Int) = (y7 : Int) := IntWalk.i64_in _ (by omega)
  have ww8 : IntKind.i64.wrap (y8 : Int) = (y8 : Int) := IntWalk.i64_in _ (by omega)
  have ww9 : IntKind.i64.wrap (y9 : Int) = (y9 : Int) := IntWalk.i64_in _ (by omega)
  have ww10 : IntKind.i64.wrap (y10 : Int) = (y10 : Int) := IntWalk.i64_in _ (by omega)
  have ww11 : IntKind.i64.wrap (y11 : Int) = (y11 : Int) := IntWalk.i64_in _ (by omega)
  have wn0 : IntKind.i64.wrap (n0 : Int) = (n0 : Int) := IntWalk.i64_in _ (by omega)
  have wm6 : IntKind.i64.wrap ((y6 % 32 : Nat) : Int) = ((y6 % 32 : Nat) : Int) := IntWalk.i64_in _ (by omega)
  have w68 : IntKind.i64.wrap ((y6 : Int) / 32) = ((y6 / 32 : Nat) : Int) := by rw [show ((y6 : Int) / 32) = ((y6 / 32 : Nat) : Int) by omega]; exact IntWalk.i64_in _ (by omega)
  have LL := Lib.hid (And.intro l0 l6)
  clear P2 P4 P6 P10 hn2 hn4 hn6 hn10 hn0
  generalize y6 % 32 = m6 at *
  clear l0 l1 l2 l3 l4 l5 l6 l7 l8 l9 l10 l11
  clear h h1 hb hm h20 hcell k1 k2 k3 k4 k5 k6 k7 k8 k9 k10 k11 k0
  clear b0 b1 b2 b3 b4 b5 b6 b7 b8 b9 b10 b11 v0 v1 v2 v3 v4 v5 v6 v7 v8 v9 v10 v11 e0 e1 e2 e3 e4 e5 e6 e7 e8 e9 e10 e11
  go_enter Tryz.func65, Tryz.ntmps65
  go_upto_region 4 with fail
  generalize hWA : ((w.alloc (.cells (hC 0 0 0 0 0 0 0 0 0 0 0) 84)).alloc (.cells (hC 0 0 0 0 0 0 0 0 0 0 0) 84)) = WA at *
  clear hWA
  generalize w.heap.size = g at *
  have HD : Hid (In F0 w0 WA.drew (Cells (g + 1) (hC 0 0 0 0 0 0 0 0 0 0 0) 84 :: Cells g (hC 0 0 0 0 0 0 0 0 0 0 0) 84 :: R)) := Lib.hid (H1.out.drewN 1)
  have hS : WA.drew.cell? ⟨ga, oa, none⟩ = some (.int .u8 (y0 : Nat)) ∧ WA.drew.cell? ⟨ga, oa + 1, none⟩ = some (.int .u8 (y1 : Nat)) ∧ WA.drew.cell? ⟨ga, oa + 2, none⟩ = some (.int .u8 (y2 : Nat)) ∧ WA.drew.cell? ⟨ga, oa + 3, none⟩ = some (.int .u8 (y3 : Nat)) ∧ WA.drew.cell? ⟨ga, oa + 4, none⟩ = some (.int .u8 (y4 : Nat)) ∧ WA.drew.cell? ⟨ga, oa + 5, none⟩ = some (.int .u8 (y5 : Nat)) ∧ WA.drew.cell? ⟨ga, oa + 6, none⟩ = some (.int .u8 (y6 : Nat)) ∧ WA.drew.cell? ⟨ga, oa + 7, none⟩ = some (.int .u8 (y7 : Nat)) ∧ WA.drew.cell? ⟨ga, oa + 8, none⟩ = some (.int .u8 (y8 : Nat)) ∧ WA.drew.cell? ⟨ga, oa + 9, none⟩ = some (.int .u8 (y9 : Nat)) ∧ WA.drew.cell? ⟨ga, oa + 10, none⟩ = some (.int .u8 (y10 : Nat)) ∧ WA.drew.cell? ⟨ga, oa + 11, none⟩ = some (.int .u8 (y11 : Nat)) := ⟨HKK.out.1 _ HD.out.drop.drop, HKK.out.2.1 _ HD.out.drop.drop, HKK.out.2.2.1 _ HD.out.drop.drop, HKK.out.2.2.2.1 _ HD.out.drop.drop, HKK.out.2.2.2.2.1 _ HD.out.drop.drop, HKK.out.2.2.2.2.2.1 _ HD.out.drop.drop, HKK.out.2.2.2.2.2.2.1 _ HD.out.drop.drop, HKK.out.2.2.2.2.2.2.2.1 _ HD.out.drop.drop, HKK.out.2.2.2.2.2.2.2.2.1 _ HD.out.drop.drop, HKK.out.2.2.2.2.2.2.2.2.2.1 _ HD.out.drop.drop, HKK.out.2.2.2.2.2.2.2.2.2.2.1 _ HD.out.drop.drop, HKK.out.2.2.2.2.2.2.2.2.2.2.2 _ HD.out.drop.drop⟩
  have i0 : 0 < b.length := by omega
  have i1 : (1 : Int) < (b.length : Int) := by omega
  have i2 : (2 : Int) < (b.length : Int) := by omega
  have i3 : (3 : Int) < (b.length : Int) := by omega
  have i4 : (4 : Int) < (b.length : Int) := by omega
  have i5 : (5 : Int) < (b.length : Int) := by omega
  have i6 : (6 : Int) < (b.length : Int) := by omega
  have i7 : (7 : Int) < (b.length : Int) := by omega
  have i8 : (8 : Int) < (b.length : Int) := by omega
  have i9 : (9 : Int) < (b.length : Int) := by omega
  have i10 : (10 : Int) < (b.length : Int) := by omega
  have i11 : (11 : Int) < (b.length : Int) := by omega
  refine e_start (fun w' => w'.cell? ⟨ga, oa, none⟩ = some (.int .u8 (y0 : Nat)) ∧ w'.cell? ⟨ga, oa + 1, none⟩ = some (.int .u8 (y1 : Nat)) ∧ w'.cell? ⟨ga, oa + 2, none⟩ = some (.int .u8 (y2 : Nat)) ∧ w'.cell? ⟨ga, oa + 3, none⟩ = some (.int .u8 (y3 : Nat)) ∧ w'.cell? ⟨ga, oa + 4, none⟩ = some (.int .u8 (y4 : Nat)) ∧ w'.cell? ⟨ga, oa + 5, none⟩ = some (.int .u8 (y5 : Nat)) ∧ w'.cell? ⟨ga, oa + 6, none⟩ = some (.int .u8 (y6 : Nat)) ∧ w'.cell? ⟨ga, oa + 7, none⟩ = some (.int .u8 (y7 : Nat)) ∧ w'.cell? ⟨ga, oa + 8, none⟩ = some (.int .u8 (y8 : Nat)) ∧ w'.cell? ⟨ga, oa + 9, none⟩ = some (.int .u8 (y9 : Nat)) ∧ w'.cell? ⟨ga, oa + 10, none⟩ = some (.int .u8 (y10 : Nat)) ∧ w'.cell? ⟨ga, oa + 11, none⟩ = some (.int .u8 (y11 : Nat))) (by kernel_rfl) hS (fun hS => ?_)
  generalize WA.drew = VD at *
  refine e_take (i := 0) (v := ?_) rfl (by kernel_rfl) (fun _ _ _ h => h) (by rfl) ?_ hS ?_
  rotate_left
  · (intro w hSw; (try dsimp only at hSw); go_simp; try with_reducible rfl)
  try simp only [Act.put, List.setIfInBounds_toArray, List.set_cons_zero, List.set_cons_succ]
  refine e_take (i := 1) (v := ?_) rfl (by kernel_rfl) (fun _ _ _ h => h) (by rfl) ?_ hS ?_
  rotate_left
  · (intro w hSw; (try dsimp only at hSw); go_simp; try with_reducible rfl)
  try simp only [Act.put, List.setIfInBounds_toArray, List.set_cons_zero, List.set_cons_succ]
  refine e_take (i := 2) (v := ?_) rfl (by kernel_rfl) (fun _ _ _ h => h) (by rfl) ?_ hS ?_
  rotate_left
  · (intro w hSw; (try dsimp only at hSw); go_simp; try with_reducible rfl)
  try simp only [Act.put, List.setIfInBounds_toArray, List.set_cons_zero, List.set_cons_succ]
  refine e_take (i := 3) (v := ?_) rfl (by kernel_rfl) (fun _ _ _ h => h) (by rfl) ?_ hS ?_
  rotate_left
  · (intro w hSw; (try dsimp only at hSw); go_simp; try with_reducible rfl)
  try simp only [Act.put, List.setIfInBounds_toArray, List.set_cons_zero, List.set_cons_succ]
  refine e_take (i := 4) (v := ?_) rfl (by kernel_rfl) (fun _ _ _ h => h) (by rfl) ?_ hS ?_
  rotate_left
  · (intro w hSw; (try dsimp only at hSw); go_simp; try with_reducible rfl)
  try simp only [Act.put, List.setIfInBounds_toArray, List.set_cons_zero, List.set_cons_succ]
  refine e_take (i := 5) (v := ?_) rfl (by kernel_rfl) (fun _ _ _ h => h) (by rfl) ?_ hS ?_
  rotate_left
  · (intro w hSw; (try dsimp only at hSw); go_simp; try with_reducible rfl)
  try simp only [Act.put, List.setIfInBounds_toArray, List.set_cons_zero, List.set_cons_succ]
  refine e_take (i := 6) (v := ?_) rfl (by kernel_rfl) (fun _ _ _ h => h) (by rfl) ?_ hS ?_
  rotate_left
  · (intro w hSw; (try dsimp only at hSw); go_simp; try with_reducible rfl)
  try simp only [Act.put, List.setIfInBounds_toArray, List.set_cons_zero, List.set_cons_succ]
  refine e_take (i := 7) (v := ?_) rfl (by kernel_rfl) (fun _ _ _ h => h) (by rfl) ?_ hS ?_
  rotate_left
  · (intro w hSw; (try dsimp only at hSw); go_simp; try with_reducible rfl)
  try simp only [Act.put, List.setIfInBounds_toArray, List.set_cons_zero, List.set_cons_succ]
  refine e_take (i := 8) (v := ?_) rfl (by kernel_rfl) (fun _ _ _ h => h) (by rfl) ?_ hS ?_
  rotate_left
  · (intro w hSw; (try dsimp only at hSw); go_simp; try with_reducible rfl)
  try simp only [Act.put, List.setIfInBounds_toArray, List.set_cons_zero, List.set_cons_succ]
  refine e_take (i := 9) (v := ?_) rfl (by kernel_rfl) (fun _ _ _ h => h) (by rfl) ?_ hS ?_
  rotate_left
  · (intro w hSw; (try dsimp only at hSw); go_simp; try with_reducible rfl)
  try simp only [Act.put, List.setIfInBounds_toArray, List.set_cons_zero, List.set_cons_succ]
  refine e_take (i := 10) (v := ?_) rfl (by kernel_rfl) (fun _ _ _ h => h) (by rfl) ?_ hS ?_
  rotate_left
  · (intro w hSw; (try dsimp only at hSw); go_simp; try with_reducible rfl)
  try simp only [Act.put, List.setIfInBounds_toArray, List.set_cons_zero, List.set_cons_succ]
  refine e_take (i := 11) (v := ?_) rfl (by kernel_rfl) (fun _ _ _ h => h) (by rfl) ?_ hS ?_
  rotate_left
  · (intro w hSw; (try dsimp only at hSw); go_simp; try with_reducible rfl)
  try simp only [Act.put, List.setIfInBounds_toArray, List.set_cons_zero, List.set_cons_succ]
  refine e_take (i := 12) (v := ?_) rfl (by kernel_rfl) (fun _ _ _ h => h) (by rfl) ?_ hS ?_
  rotate_left
  · (intro w hSw; (try dsimp only at hSw); go_simp; try with_reducible rfl)
  try simp only [Act.put, List.setIfInBounds_toArray, List.set_cons_zero, List.set_cons_succ]
  refine e_take (i := 13) (v := ?_) rfl (by kernel_rfl) (fun _ _ _ h => h) (by rfl) ?_ hS ?_
  rotate_left
  · (intro w hSw; (try dsimp only at hSw); go_simp; try with_reducible rfl)
  try simp only [Act.put, List.setIfInBounds_toArray, List.set_cons_zero, List.set_cons_succ]
  refine e_take (i := 14) (v := ?_) rfl (by kernel_rfl) (fun _ _ _ h => h) (by rfl) ?_ hS ?_
  rotate_left
  · (intro w hSw; (try dsimp only at hSw); go_simp; try with_reducible rfl)
  try simp only [Act.put, List.setIfInBounds_toArray, List.set_cons_zero, List.set_cons_succ]
  refine e_take (i := 15) (v := ?_) rfl (by kernel_rfl) (fun _ _ _ h => h) (by rfl) ?_ hS ?_
  rotate_left
  · (intro w hSw; (try dsimp only at hSw); go_simp; try with_reducible rfl)
  try simp only [Act.put, List.setIfInBounds_toArray, List.set_cons_zero, List.set_cons_succ]
  refine e_take (i := 16) (v := ?_) rfl (by kernel_rfl) (fun _ _ _ h => h) (by rfl) ?_ hS ?_
  rotate_left
  · (intro w hSw; (try dsimp only at hSw); go_simp; try with_reducible rfl)
  try simp only [Act.put, List.setIfInBounds_toArray, List.set_cons_zero, List.set_cons_succ]
  refine e_take (i := 17) (v := ?_) rfl (by kernel_rfl) (fun _ _ _ h => h) (by rfl) ?_ hS ?_
  rotate_left
  · (intro w hSw; (try dsimp only at hSw); go_simp; try with_reducible rfl)
  try simp only [Act.put, List.setIfInBounds_toArray, List.set_cons_zero, List.set_cons_succ]
  refine e_take (i := 18) (v := ?_) rfl (by kernel_rfl) (fun _ _ _ h => h) (by rfl) ?_ hS ?_
  rotate_left
  · (intro w hSw; (try dsimp only at hSw); go_simp; try with_reducible rfl)
  try simp only [Act.put, List.setIfInBounds_toArray, List.set_cons_zero, List.set_cons_succ]
  refine e_take (i := 19) (v := ?_) rfl (by kernel_rfl) (fun _ _ _ h => h) (by rfl) ?_ hS ?_
  rotate_left
  · (intro w hSw; (try dsimp only at hSw); go_simp; try with_reducible rfl)
  try simp only [Act.put, List.setIfInBounds_toArray, List.set_cons_zero, List.set_cons_succ]
  refine e_take (i := 20) (v := ?_) rfl (by kernel_rfl) (fun _ _ _ h => h) (by rfl) ?_ hS ?_
  rotate_left
  · (intro w hSw; (try dsimp only at hSw); go_simp; try with_reducible rfl)
  try simp only [Act.put, List.setIfInBounds_toArray, List.set_cons_zero, List.set_cons_succ]
  refine e_take (i := 21) (v := ?_) rfl (by kernel_rfl) (fun _ _ _ h => h) (by rfl) ?_ hS ?_
  rotate_left
  · (intro w hSw; (try dsimp only at hSw); go_simp; try with_reducible rfl)
  try simp only [Act.put, List.setIfInBounds_toArray, List.set_cons_zero, List.set_cons_succ]
  refine e_take (i := 22) (v := ?_) rfl (by kernel_rfl) (fun _ _ _ h => h) (by rfl) ?_ hS ?_
  rotate_left
  · (intro w hSw; (try dsimp only at hSw); go_simp; try with_reducible rfl)
  try simp only [Act.put, List.setIfInBounds_toArray, List.set_cons_zero, List.set_cons_succ]
  refine e_take (i := 23) (v := ?_) rfl (by kernel_rfl) (fun _ _ _ h => h) (by rfl) ?_ hS ?_
  rotate_left
  · (intro w hSw; (try dsimp only at hSw); go_simp; try with_reducible rfl)
  try simp only [Act.put, List.setIfInBounds_toArray, List.set_cons_zero, List.set_cons_succ]
  refine e_take (i := 24) (v := ?_) rfl (by kernel_rfl) (fun _ _ _ h => h) (by rfl) ?_ hS ?_
  rotate_left
  · (intro w hSw; (try dsimp only at hSw); go_simp; try with_reducible rfl)
  try simp only [Act.put, List.setIfInBounds_toArray, List.set_cons_zero, List.set_cons_succ]
  refine e_take (i := 25) (v := ?_) rfl (by kernel_rfl) (fun _ _ _ h => h) (by rfl) ?_ hS ?_
  rotate_left
  · (intro w hSw; (try dsimp only at hSw); go_simp; try with_reducible rfl)
  try simp only [Act.put, List.setIfInBounds_toArray, List.set_cons_zero, List.set_cons_succ]
  refine e_take (i := 26) (v := ?_) rfl (by kernel_rfl) (fun _ _ _ h => h) (by rfl) ?_ hS ?_
  rotate_left
  · (intro w hSw; (try dsimp only at hSw); go_simp; try with_reducible rfl)
  try simp only [Act.put, List.setIfInBounds_toArray, List.set_cons_zero, List.set_cons_succ]
  refine e_take (i := 27) (v := ?_) rfl (by kernel_rfl) (fun _ _ _ h => h) (by rfl) ?_ hS ?_
  rotate_left
  · (intro w hSw; (try dsimp only at hSw); go_simp; try with_reducible rfl)
  try simp only [Act.put, List.setIfInBounds_toArray, List.set_cons_zero, List.set_cons_succ]
  refine e_take (i := 28) (v := ?_) rfl (by kernel_rfl) (fun _ _ _ h => h) (by rfl) ?_ hS ?_
  rotate_left
  · (intro w hSw; (try dsimp only at hSw); go_simp; try with_reducible rfl)
  try simp only [Act.put, List.setIfInBounds_toArray, List.set_cons_zero, List.set_cons_succ]
  refine e_take (i := 29) (v := ?_) rfl (by kernel_rfl) (fun _ _ _ h => h) (by rfl) ?_ hS ?_
  rotate_left
  · (intro w hSw; (try dsimp only at hSw); go_simp; try with_reducible rfl)
  try simp only [Act.put, List.setIfInBounds_toArray, List.set_cons_zero, List.set_cons_succ]
  refine e_take (i := 30) (v := ?_) rfl (by kernel_rfl) (fun _ _ _ h => h) (by rfl) ?_ hS ?_
  rotate_left
  · (intro w hSw; (try dsimp only at hSw); go_simp; try with_reducible rfl)
  try simp only [Act.put, List.setIfInBounds_toArray, List.set_cons_zero, List.set_cons_succ]
  refine e_take (i := 31) (v := ?_) rfl (by kernel_rfl) (fun _ _ _ h => h) (by rfl) ?_ hS ?_
  rotate_left
  · (intro w hSw; (try dsimp only at hSw); go_simp; try with_reducible rfl)
  try simp only [Act.put, List.setIfInBounds_toArray, List.set_cons_zero, List.set_cons_succ]
  refine e_take (i := 32) (v := ?_) rfl (by kernel_rfl) (fun _ _ _ h => h) (by rfl) ?_ hS ?_
  rotate_left
  · (intro w hSw; (try dsimp only at hSw); go_simp; try with_reducible rfl)
  try simp only [Act.put, List.setIfInBounds_toArray, List.set_cons_zero, List.set_cons_succ]
  refine e_take (i := 33) (v := ?_) rfl (by kernel_rfl) (fun _ _ _ h => h) (by rfl) ?_ hS ?_
  rotate_left
  · (intro w hSw; (try dsimp only at hSw); go_simp; try with_reducible rfl)
  try simp only [Act.put, List.setIfInBounds_toArray, List.set_cons_zero, List.set_cons_succ]
  refine e_take (i := 34) (v := ?_) rfl (by kernel_rfl) (fun _ _ _ h => h) (by rfl) ?_ hS ?_
  rotate_left
  · (intro w hSw; (try dsimp only at hSw); go_simp; try with_reducible rfl)
  try simp only [Act.put, List.setIfInBounds_toArray, List.set_cons_zero, List.set_cons_succ]
  refine e_take (i := 35) (v := ?_) rfl (by kernel_rfl) (fun _ _ _ h => h) (by rfl) ?_ hS ?_
  rotate_left
  · (intro w hSw; (try dsimp only at hSw); go_simp; try with_reducible rfl)
  try simp only [Act.put, List.setIfInBounds_toArray, List.set_cons_zero, List.set_cons_succ]
  refine e_take (i := 36) (v := ?_) rfl (by kernel_rfl) (fun _ _ _ h => h) (by rfl) ?_ hS ?_
  rotate_left
  · (intro w hSw; (try dsimp only at hSw); go_simp; try with_reducible rfl)
  try simp only [Act.put, List.setIfInBounds_toArray, List.set_cons_zero, List.set_cons_succ]
  refine e_take (i := 37) (v := ?_) rfl (by kernel_rfl) (fun _ _ _ h => h) (by rfl) ?_ hS ?_
  rotate_left
  · (intro w hSw; (try dsimp only at hSw); go_simp; try with_reducible rfl)
  try simp only [Act.put, List.setIfInBounds_toArray, List.set_cons_zero, List.set_cons_succ]
  refine e_take (i := 38) (v := ?_) rfl (by kernel_rfl) (fun _ _ _ h => h) (by rfl) ?_ hS ?_
  rotate_left
  · (intro w hSw; (try dsimp only at hSw); go_simp; try with_reducible rfl)
  try simp only [Act.put, List.setIfInBounds_toArray, List.set_cons_zero, List.set_cons_succ]
  refine e_take (i := 39) (v := ?_) rfl (by kernel_rfl) (fun _ _ _ h => h) (by rfl) ?_ hS ?_
  rotate_left
  · (intro w hSw; (try dsimp only at hSw); go_simp; try with_reducible rfl)
  try simp only [Act.put, List.setIfInBounds_toArray, List.set_cons_zero, List.set_cons_succ]
  refine e_take (i := 40) (v := ?_) rfl (by kernel_rfl) (fun _ _ _ h => h) (by rfl) ?_ hS ?_
  rotate_left
  · (intro w hSw; (try dsimp only at hSw); go_simp; try with_reducible rfl)
  try simp only [Act.put, List.setIfInBounds_toArray, List.set_cons_zero, List.set_cons_succ]
  refine e_take (i := 41) (v := ?_) rfl (by kernel_rfl) (fun _ _ _ h => h) (by rfl) ?_ hS ?_
  rotate_left
  · (intro w hSw; (try dsimp only at hSw); go_simp; try with_reducible rfl)
  try simp only [Act.put, List.setIfInBounds_toArray, List.set_cons_zero, List.set_cons_succ]
  refine e_take (i := 42) (v := ?_) rfl (by kernel_rfl) (fun _ _ _ h => h) (by rfl) ?_ hS ?_
  rotate_left
  · (intro w hSw; (try dsimp only at hSw); go_simp; try with_reducible rfl)
  try simp only [Act.put, List.setIfInBounds_toArray, List.set_cons_zero, List.set_cons_succ]
  refine e_take (i := 43) (v := ?_) rfl (by kernel_rfl) (fun _ _ _ h => h) (by rfl) ?_ hS ?_
  rotate_left
  · (intro w hSw; (try dsimp only at hSw); go_simp; try with_reducible rfl)
  try simp only [Act.put, List.setIfInBounds_toArray, List.set_cons_zero, List.set_cons_succ]
  refine e_take (i := 44) (v := ?_) rfl (by kernel_rfl) (fun _ _ _ h => h) (by rfl) ?_ hS ?_
  rotate_left
  · (intro w hSw; (try dsimp only at hSw); go_simp; try with_reducible rfl)
  try simp only [Act.put, List.setIfInBounds_toArray, List.set_cons_zero, List.set_cons_succ]
  refine e_take (i := 45) (v := ?_) rfl (by kernel_rfl) (fun _ _ _ h => h) (by rfl) ?_ hS ?_
  rotate_left
  · (intro w hSw; (try dsimp only at hSw); go_simp; try with_reducible rfl)
  try simp only [Act.put, List.setIfInBounds_toArray, List.set_cons_zero, List.set_cons_succ]
  refine e_take (i := 46) (v := ?_) rfl (by kernel_rfl) (fun _ _ _ h => h) (by rfl) ?_ hS ?_
  rotate_left
  · (intro w hSw; (try dsimp only at hSw); go_simp; try with_reducible rfl)
  try simp only [Act.put, List.setIfInBounds_toArray, List.set_cons_zero, List.set_cons_succ]
  refine e_take (i := 47) (v := ?_) rfl (by kernel_rfl) (fun _ _ _ h => h) (by rfl) ?_ hS ?_
  rotate_left
  · (intro w hSw; (try dsimp only at hSw); go_simp; try with_reducible rfl)
  try simp only [Act.put, List.setIfInBounds_toArray, List.set_cons_zero, List.set_cons_succ]
  refine e_take (i := 48) (v := ?_) rfl (by kernel_rfl) (fun _ _ _ h => h) (by rfl) ?_ hS ?_
  rotate_left
  · (intro w hSw; (try dsimp only at hSw); go_simp; try with_reducible rfl)
  try simp only [Act.put, List.setIfInBounds_toArray, List.set_cons_zero, List.set_cons_succ]
  refine e_take (i := 49) (v := ?_) rfl (by kernel_rfl) (fun _ _ _ h => h) (by rfl) ?_ hS ?_
  rotate_left
  · (intro w hSw; (try dsimp only at hSw); go_simp; try with_reducible rfl)
  try simp only [Act.put, List.setIfInBounds_toArray, List.set_cons_zero, List.set_cons_succ]
  refine e_take (i := 50) (v := ?_) rfl (by kernel_rfl) (fun _ _ _ h => h) (by rfl) ?_ hS ?_
  rotate_left
  · (intro w hSw; (try dsimp only at hSw); go_simp; try with_reducible rfl)
  try simp only [Act.put, List.setIfInBounds_toArray, List.set_cons_zero, List.set_cons_succ]
  refine e_take (i := 51) (v := ?_) rfl (by kernel_rfl) (fun _ _ _ h => h) (by rfl) ?_ hS ?_
  rotate_left
  · (intro w hSw; (try dsimp only at hSw); go_simp; try with_reducible rfl)
  try simp only [Act.put, List.setIfInBounds_toArray, List.set_cons_zero, List.set_cons_succ]
  refine e_take (i := 52) (v := ?_) rfl (by kernel_rfl) (fun _ _ _ h => h) (by rfl) ?_ hS ?_
  rotate_left
  · (intro w hSw; (try dsimp only at hSw); go_simp; try with_reducible rfl)
  try simp only [Act.put, List.setIfInBounds_toArray, List.set_cons_zero, List.set_cons_succ]
  refine e_take (i := 53) (v := ?_) rfl (by kernel_rfl) (fun _ _ _ h => h) (by rfl) ?_ hS ?_
  rotate_left
  · (intro w hSw; (try dsimp only at hSw); go_simp; try with_reducible rfl)
  try simp only [Act.put, List.setIfInBounds_toArray, List.set_cons_zero, List.set_cons_succ]
  refine e_take (i := 54) (v := ?_) rfl (by kernel_rfl) (fun _ _ _ h => h) (by rfl) ?_ hS ?_
  rotate_left
  · (intro w hSw; (try dsimp only at hSw); go_simp; try with_reducible rfl)
  try simp only [Act.put, List.setIfInBounds_toArray, List.set_cons_zero, List.set_cons_succ]
  refine e_take (i := 55) (v := ?_) rfl (by kernel_rfl) (fun _ _ _ h => h) (by rfl) ?_ hS ?_
  rotate_left
  · (intro w hSw; (try dsimp only at hSw); go_simp; try with_reducible rfl)
  try simp only [Act.put, List.setIfInBounds_toArray, List.set_cons_zero, List.set_cons_succ]
  refine e_take (i := 56) (v := ?_) rfl (by kernel_rfl) (fun _ _ _ h => h) (by rfl) ?_ hS ?_
  rotate_left
  · (intro w hSw; (try dsimp only at hSw); go_simp; try with_reducible rfl)
  try simp only [Act.put, List.setIfInBounds_toArray, List.set_cons_zero, List.set_cons_succ]
  refine e_take (i := 57) (v := ?_) rfl (by kernel_rfl) (fun _ _ _ h => h) (by rfl) ?_ hS ?_
  rotate_left
  · (intro w hSw; (try dsimp only at hSw); go_simp; try with_reducible rfl)
  try simp only [Act.put, List.setIfInBounds_toArray, List.set_cons_zero, List.set_cons_succ]
  refine e_take (i := 58) (v := ?_) rfl (by kernel_rfl) (fun _ _ _ h => h) (by rfl) ?_ hS ?_
  rotate_left
  · (intro w hSw; (try dsimp only at hSw); go_simp; try with_reducible rfl)
  try simp only [Act.put, List.setIfInBounds_toArray, List.set_cons_zero, List.set_cons_succ]
  refine e_take (i := 59) (v := ?_) rfl (by kernel_rfl) (fun _ _ _ h => h) (by rfl) ?_ hS ?_
  rotate_left
  · (intro w hSw; (try dsimp only at hSw); go_simp; try with_reducible rfl)
  try simp only [Act.put, List.setIfInBounds_toArray, List.set_cons_zero, List.set_cons_succ]
  refine e_take (i := 60) (v := ?_) rfl (by kernel_rfl) (fun _ _ _ h => h) (by rfl) ?_ hS ?_
  rotate_left
  · (intro w hSw; (try dsimp only at hSw); go_simp; try with_reducible rfl)
  try simp only [Act.put, List.setIfInBounds_toArray, List.set_cons_zero, List.set_cons_succ]
  refine e_take (i := 61) (v := ?_) rfl (by kernel_rfl) (fun _ _ _ h => h) (by rfl) ?_ hS ?_
  rotate_left
  · (intro w hSw; (try dsimp only at hSw); go_simp; try with_reducible rfl)
  try simp only [Act.put, List.setIfInBounds_toArray, List.set_cons_zero, List.set_cons_succ]
  refine e_take (i := 62) (v := ?_) rfl (by kernel_rfl) (fun _ _ _ h => h) (by rfl) ?_ hS ?_
  rotate_left
  · (intro w hSw; (try dsimp only at hSw); go_simp; try with_reducible rfl)
  try simp only [Act.put, List.setIfInBounds_toArray, List.set_cons_zero, List.set_cons_succ]
  refine e_take (i := 63) (v := ?_) rfl (by kernel_rfl) (fun _ _ _ h => h) (by rfl) ?_ hS ?_
  rotate_left
  · (intro w hSw; (try dsimp only at hSw); go_simp; try with_reducible rfl)
  try simp only [Act.put, List.setIfInBounds_toArray, List.set_cons_zero, List.set_cons_succ]
  refine e_pin (i := 64) rfl (by kernel_rfl) (fun K' hK => ?_)
  go_simp
  have hA := HD.out.cells (hC 0 0 0 0 0 0 0 0 0 0 0) 84
  generalize VD.heap.size = g2 at *
  have HA := Lib.hid hA
  clear hA hS HD
  generalize (VD.alloc (.cells (hC 0 0 0 0 0 0 0 0 0 0 0) 84)) = WB at *
  refine hK.out _ _ ⟨HKK.out.1 _ HA.out.drop.drop.drop, HKK.out.2.1 _ HA.out.drop.drop.drop, HKK.out.2.2.1 _ HA.out.drop.drop.drop, HKK.out.2.2.2.1 _ HA.out.drop.drop.drop, HKK.out.2.2.2.2.1 _ HA.out.drop.drop.drop, HKK.out.2.2.2.2.2.1 _ HA.out.drop.drop.drop, HKK.out.2.2.2.2.2.2.1 _ HA.out.drop.drop.drop, HKK.out.2.2.2.2.2.2.2.1 _ HA.out.drop.drop.drop, HKK.out.2.2.2.2.2.2.2.2.1 _ HA.out.drop.drop.drop, HKK.out.2.2.2.2.2.2.2.2.2.1 _ HA.out.drop.drop.drop, HKK.out.2.2.2.2.2.2.2.2.2.2.1 _ HA.out.drop.drop.drop, HKK.out.2.2.2.2.2.2.2.2.2.2.2 _ HA.out.drop.drop.drop⟩ (fun hS => ?_)
  clear hK K'
  try simp only [Act.put, List.setIfInBounds_toArray, List.set_cons_zero, List.set_cons_succ]
  refine e_last (i := 65) rfl (by kernel_rfl) (fun K' hK => ?_)
  have HT2 := there_of (HA.out.block 0 rfl)
  refine store_step (by rfl) 84 (.tmp 6) (.tmp 77) (by rfl) g2 0 (hC (n0 : Int) y1 n2 n4 ((y6 / 32 : Nat) : Int) n6 y8 y9 n10 0 0) (by rfl) (by rfl) HT2 (by kernel_rfl) (hC_all _ _ _ _ _ _ _ _ _ _ _) ?_
  refine hK.out _ _ ?_
  clear hK K' hS HT2
  have HC : Hid (In F0 w0 (WB.setCells g2 0 [.int .i64 (n0 : Int), .int .i64 y1, .int .i64 n2, .int .i64 n4, .int .i64 ((y6 / 32 : Nat) : Int), .int .i64 n6, .int .i64 y8, .int .i64 y9, .int .i64 n10, .int .u32 0, .int .u32 0]) (Cells g2 (hC (n0 : Int) y1 n2 n4 ((y6 / 32 : Nat) : Int) n6 y8 y9 n10 0 0) 84 :: Cells (g + 1) (hC 0 0 0 0 0 0 0 0 0 0 0) 84 :: Cells g (hC 0 0 0 0 0 0 0 0 0 0 0) 84 :: R)) := Lib.hid (HA.out.setFull 0 rfl (xs := [.int .i64 (n0 : Int), .int .i64 y1, .int .i64 n2, .int .i64 n4, .int .i64 ((y6 / 32 : Nat) : Int), .int .i64 n6, .int .i64 y8, .int .i64 y9, .int .i64 n10, .int .u32 0, .int .u32 0]) (b := g2) (C := (hC 0 0 0 0 0 0 0 0 0 0 0)) (T := 84) rfl)
  clear HA
  go_upto_region 5 with fail
  generalize (WB.setCells g2 0 [.int .i64 (n0 : Int), .int .i64 y1, .int .i64 n2, .int .i64 n4, .int .i64 ((y6 / 32 : Nat) : Int), .int .i64 n6, .int .i64 y8, .int .i64 y9, .int .i64 n10, .int .u32 0, .int .u32 0]) = WC at *
  have hcap := HB.out.cap
  have hroom := HB.out.room
  have hmid : ∀ w, (Instr.slice 35 (.slice (some ⟨ga, oa, none⟩) b.length c) (some (.int .i64 12)) (some (.int .i64 20)) none).run Tryz.prog w = .ok (.slice (some ⟨ga, oa + 12, none⟩) 8 (c - 12)) w := fun w => run_mid ga oa b.length c 12 20 (by omega) (by omega) (by omega) w
  have hr := HC.out.cells #[.slice (some ⟨ga, oa + 12, none⟩) 8 (c - 12), .int .i64 0] 163
  have hl8 : ((b.drop 12).take 8).length = 8 := by rw [List.length_take, List.length_drop]; omega
  have hl4 : ((b.drop 16).take 4).length = 4 := by rw [List.length_take, List.length_drop]; omega
  have KU1 : Hid (Calls Tryz.prog 101 #[.pointer (some ⟨WC.heap.size, 0, none⟩)] (WC.alloc (.cells #[.slice (some ⟨ga, oa + 12, none⟩) 8 (c - 12), .int .i64 0] 163)) fun e w' => e = .returned (.int .u32 (p32 b 12)) ∧ In F0 w0 w' (RrC WC.heap.size (some ⟨ga, oa + 16, none⟩) 4 (c - 16) :: Cells g2 (hC (n0 : Int) y1 n2 n4 ((y6 / 32 : Nat) : Int) n6 y8 y9 n10 0 0) 84 :: Cells (g + 1) (hC 0 0 0 0 0 0 0 0 0 0 0) 84 :: Cells g (hC 0 0 0 0 0 0 0 0 0 0 0) 84 :: R)) := Lib.hid (by
    have hsrc : Src (WC.alloc (.cells #[.slice (some ⟨ga, oa + 12, none⟩) 8 (c - 12), .int .i64 0] 163)) (some ⟨ga, oa + 12, none⟩) ((b.drop 12).take 8).length 1 (u8s ((b.drop 12).take 8)) := by
      rw [hl8]
      exact src_take (src_drop (HB.out.src _ hr.drop.drop.drop.drop) rfl (by omega)) (by rw [List.length_drop]) (by omega)
    have K := o_rru32 (c := c - 12) hsrc (by omega) (by omega) (by omega) (rb := WC.heap.size) (R := Cells g2 (hC (n0 : Int) y1 n2 n4 ((y6 / 32 : Nat) : Int) n6 y8 y9 n10 0 0) 84 :: Cells (g + 1) (hC 0 0 0 0 0 0 0 0 0 0 0) 84 :: Cells g (hC 0 0 0 0 0 0 0 0 0 0 0) 84 :: R) (F0 := F0) (w0 := w0) (by rw [hl8]; exact hr)
    refine K.mono ?_
    rintro e w' ⟨rfl, ho⟩
    have e1 : num (((b.drop 12).take 8).take 4) = p32 b 12 := by rw [List.take_take]; exact num_at4 (by omega)
    have e2 : sufA (some ⟨ga, oa + 12, none⟩) (c - 12) 4 1 = some ⟨ga, oa + 16, none⟩ := by unfold sufA; rw [if_neg (by omega)]; simp [add_at]
    rw [e2, hl8, show c - 12 - 4 = c - 16 by omega] at ho
    exact ⟨by rw [e1], ho⟩)
  have KU2 : Hid (∀ W, In F0 w0 W (RrC WC.heap.size (some ⟨ga, oa + 16, none⟩) 4 (c - 16) :: Cells g2 (hC (n0 : Int) y1 n2 n4 ((y6 / 32 : Nat) : Int) n6 y8 y9 n10 0 0) 84 :: Cells (g + 1) (hC 0 0 0 0 0 0 0 0 0 0 0) 84 :: Cells g (hC 0 0 0 0 0 0 0 0 0 0 0) 84 :: R) → Calls Tryz.prog 101 #[.pointer (some ⟨WC.heap.size, 0, none⟩)] W fun e w' => e = .returned (.int .u32 (p32 b 16)) ∧ In F0 w0 w' (Cells g2 (hC (n0 : Int) y1 n2 n4 ((y6 / 32 : Nat) : Int) n6 y8 y9 n10 0 0) 84 :: Cells (g + 1) (hC 0 0 0 0 0 0 0 0 0 0 0) 84 :: Cells g (hC 0 0 0 0 0 0 0 0 0 0 0) 84 :: R)) := Lib.hid (fun W hW => by
    have hsrc : Src W (some ⟨ga, oa + 16, none⟩) ((b.drop 16).take 4).length 1 (u8s ((b.drop 16).take 4)) := by
      rw [hl4]
      exact src_take (src_drop (HB.out.src _ hW.drop.drop.drop.drop) rfl (by omega)) (by rw [List.length_drop]) (by omega)
    have K := o_rru32 (c := c - 16) hsrc (by omega) (by omega) (by omega) (rb := WC.heap.size) (R := Cells g2 (hC (n0 : Int) y1 n2 n4 ((y6 / 32 : Nat) : Int) n6 y8 y9 n10 0 0) 84 :: Cells (g + 1) (hC 0 0 0 0 0 0 0 0 0 0 0) 84 :: Cells g (hC 0 0 0 0 0 0 0 0 0 0 0) 84 :: R) (F0 := F0) (w0 := w0) (by rw [hl4]; exact hW)
    refine K.mono ?_
    rintro e w' ⟨rfl, ho⟩
    have e1 : num (((b.drop 16).take 4).take 4) = p32 b 16 := by rw [List.take_take]; exact num_at4 (by omega)
    exact ⟨by rw [e1], ho.drop⟩)
  clear hr hl8 hl4 HC hcap hroom
  generalize p32 b 12 = n12 at *
  generalize p32 b 16 = n16 at *
  go_wp2_with fail
  generalize WC.heap.size = g3 at *
  refine KU1.out.mono ?_
  rintro e wu ⟨rfl, hu⟩
  have KU3 := Lib.hid (KU2.out _ hu)
  clear KU1 KU2 hu
  go_wp2_with fail
  refine KU3.out.mono ?_
  rintro e wv ⟨rfl, hv⟩
  have f9 : wv.frozen? ⟨g2, 9, none⟩ = false := free_of (hv.block 0 rfl)
  have j9 : wv.cell? ⟨g2, 9, none⟩ = some (.int .u32 0) := cell_of (hv.block 0 rfl) rfl
  have hv2 := hv.put 0 rfl 9 (.int .u32 (n12 : Int))
  have f10 : (wv.setCell ⟨g2, 9, none⟩ (.int .u32 (n12 : Int))).frozen? ⟨g2, 10, none⟩ = false := free_of (hv2.block 0 rfl)
  have j10 : (wv.setCell ⟨g2, 9, none⟩ (.int .u32 (n12 : Int))).cell? ⟨g2, 10, none⟩ = some (.int .u32 0) := cell_of (hv2.block 0 rfl) rfl
  have HV : Hid (In F0 w0 ((wv.setCell ⟨g2, 9, none⟩ (.int .u32 (n12 : Int))).setCell ⟨g2, 10, none⟩ (.int .u32 (n16 : Int))) (Cells g2 (hC (n0 : Int) y1 n2 n4 ((y6 / 32 : Nat) : Int) n6 y8 y9 n10 n12 n16) 84 :: Cells (g + 1) (hC 0 0 0 0 0 0 0 0 0 0 0) 84 :: Cells g (hC 0 0 0 0 0 0 0 0 0 0 0) 84 :: R)) := Lib.hid (by
    have := hv2.put 0 rfl 10 (.int .u32 (n16 : Int))
    exact this)
  clear hv hv2 KU3
  go_upto_region 7 with fail
  generalize ((wv.setCell ⟨g2, 9, none⟩ (.int .u32 (n12 : Int))).setCell ⟨g2, 10, none⟩ (.int .u32 (n16 : Int))) = W at *
  clear f9 j9 f10 j10 q0 q6 o2 o4 o6 o10 s2 s4 s6 s10 ww1 ww2 ww3 ww4 ww5 ww7 ww8 ww9 ww10 ww11 wn0 wm6 w68 i0 i1 i2 i3 i4 i5 i6 i7 i8 i9 i10 i11 hmid
  have i0 : 0 < b.length := by omega
  have d0 : W.cell? ⟨g2, 0, none⟩ = some (.int .i64 (n0 : Int)) := cell_of (HV.out.block 0 rfl) rfl
  have d2 : W.cell? ⟨g2, 2, none⟩ = some (.int .i64 (n2 : Int)) := cell_of (HV.out.block 0 rfl) rfl
  have db : W.cell? ⟨ga, oa, none⟩ = some (.int .u8 (y0 : Nat)) := HKK.out.1 _ HV.out.drop.drop.drop
  have HERR := Lib.hid (fun (r : Int) (e : parseD b = (zH, [], r)) W (hW : In F0 w0 W (Cells g2 (hC (n0 : Int) y1 n2 n4 ((y6 / 32 : Nat) : Int) n6 y8 y9 n10 n12 n16) 84 :: Cells (g + 1) (hC 0 0 0 0 0 0 0 0 0 0 0) 84 :: Cells g (hC 0 0 0 0 0 0 0 0 0 0 0) 84 :: R)) => ParsePost.err hW.drop.drop.drop e)
  by_cases c1 : y0 / 16 = 4
  case neg =>
    have q := Lib.hid (HERR.out 2 (by rw [HP.out, if_pos c1]))
    have c1' : ((y0 : Int) / 16 != 4) = true := by rw [bne_iff_ne]; omega
    clear c1
    clear HERR HP HB HKK HEN HM HL LL
    have HRG : Hid (W.rangeAt (g + 1) 0 [.int .i64 0, .int .i64 0, .int .i64 0, .int .i64 0, .int .i64 0, .int .i64 0, .int .i64 0, .int .i64 0, .int .i64 0, .int .u32 0, .int .u32 0]) := Lib.hid (rangeZ (HV.out.block 1 rfl))
    have HTH : Hid (W.there g 0 11) := Lib.hid (there_of (HV.out.block 2 rfl))
    have GZ := Lib.hid (HV.out.setFull 2 rfl (xs := [.int .i64 0, .int .i64 0, .int .i64 0, .int .i64 0, .int .i64 0, .int .i64 0, .int .i64 0, .int .i64 0, .int .i64 0, .int .u32 0, .int .u32 0]) (b := g) (C := (hC 0 0 0 0 0 0 0 0 0 0 0)) (T := 84) rfl)
    go_wp2_with (first | (refine wpList_load_mid (by rfl) 84 (.tmp 5) rfl (g + 1) 0 rfl [.int .i64 0, .int .i64 0, .int .i64 0, .int .i64 0, .int .i64 0, .int .i64 0, .int .i64 0, .int .i64 0, .int .i64 0, .int .u32 0, .int .u32 0] _ HRG.out Tryz.underlying84 rfl (by kernel_rfl) ?_) | (refine wpList_store_mid (by rfl) 84 (.tmp 2) (.tmp 97) rfl g 0 (hC 0 0 0 0 0 0 0 0 0 0 0) (by rfl) (by rfl) HTH.out (by kernel_rfl) (hC_all _ _ _ _ _ _ _ _ _ _ _) ?_))
    exact bodyPost_ret (results_cell_tmp2_row Tryz.results65 _ _ g 84 _ (0, 0) _ rfl (GZ.out.block 2 rfl) Tryz.underlying84 rfl (by kernel_rfl)) rfl (q.out _ GZ.out)
  have c1' : ((y0 : Int) / 16 != 4) = false := by rw [show ((y0 : Int) / 16) = 4 by omega]; rfl
  by_cases c2 : n0 < 5
  case pos =>
    have q := Lib.hid (HERR.out 3 (by rw [HP.out, if_neg (by omega), if_pos c2]))
    have c2' : (n0 : Int) < 5 := by omega
    clear c1 c2
    clear HERR HP HB HKK HEN HM HL LL
    have HRG : Hid (W.rangeAt (g + 1) 0 [.int .i64 0, .int .i64 0, .int .i64 0, .int .i64 0, .int .i64 0, .int .i64 0, .int .i64 0, .int .i64 0, .int .i64 0, .int .u32 0, .int .u32 0]) := Lib.hid (rangeZ (HV.out.block 1 rfl))
    have HTH : Hid (W.there g 0 11) := Lib.hid (there_of (HV.out.block 2 rfl))
    have GZ := Lib.hid (HV.out.setFull 2 rfl (xs := [.int .i64 0, .int .i64 0, .int .i64 0, .int .i64 0, .int .i64 0, .int .i64 0, .int .i64 0, .int .i64 0, .int .i64 0, .int .u32 0, .int .u32 0]) (b := g) (C := (hC 0 0 0 0 0 0 0 0 0 0 0)) (T := 84) rfl)
    go_wp2_with (first | (refine wpList_load_mid (by rfl) 84 (.tmp 5) rfl (g + 1) 0 rfl [.int .i64 0, .int .i64 0, .int .i64 0, .int .i64 0, .int .i64 0, .int .i64 0, .int .i64 0, .int .i64 0, .int .i64 0, .int .u32 0, .int .u32 0] _ HRG.out Tryz.underlying84 rfl (by kernel_rfl) ?_) | (refine wpList_store_mid (by rfl) 84 (.tmp 2) (.tmp 102) rfl g 0 (hC 0 0 0 0 0 0 0 0 0 0 0) (by rfl) (by rfl) HTH.out (by kernel_rfl) (hC_all _ _ _ _ _ _ _ _ _ _ _) ?_))
    exact bodyPost_ret (results_cell_tmp2_row Tryz.results65 _ _ g 84 _ (0, 0) _ rfl (GZ.out.block 2 rfl) Tryz.underlying84 rfl (by kernel_rfl)) rfl (q.out _ GZ.out)
  have c2' : ¬ ((n0 : Int) < 5) := by omega
  by_cases c3 : b.length < 4 * n0
  case pos =>
    have q := Lib.hid (HERR.out 1 (by rw [HP.out, if_neg (by omega), if_neg c2, if_pos c3]))
    have c3' : (b.length : Int) < 4 * (n0 : Int) := by omega
    clear c1 c2 c3
    clear HERR HP HB HKK HEN HM HL LL
    have HRG : Hid (W.rangeAt (g + 1) 0 [.int .i64 0, .int .i64 0, .int .i64 0, .int .i64 0, .int .i64 0, .int .i64 0, .int .i64 0, .int .i64 0, .int .i64 0, .int .u32 0, .int .u32 0]) := Lib.hid (rangeZ (HV.out.block 1 rfl))
    have HTH : Hid (W.there g 0 11) := Lib.hid (there_of (HV.out.block 2 rfl))
    have GZ := Lib.hid (HV.out.setFull 2 rfl (xs := [.int .i64 0, .int .i64 0, .int .i64 0, .int .i64 0, .int .i64 0, .int .i64 0, .int .i64 0, .int .i64 0, .int .i64 0, .int .u32 0, .int .u32 0]) (b := g) (C := (hC 0 0 0 0 0 0 0 0 0 0 0)) (T := 84) rfl)
    go_wp2_with (first | (refine wpList_load_mid (by rfl) 84 (.tmp 5) rfl (g + 1) 0 rfl [.int .i64 0, .int .i64 0, .int .i64 0, .int .i64 0, .int .i64 0, .int .i64 0, .int .i64 0, .int .i64 0, .int .i64 0, .int .u32 0, .int .u32 0] _ HRG.out Tryz.underlying84 rfl (by kernel_rfl) ?_) | (refine wpList_store_mid (by rfl) 84 (.tmp 2) (.tmp 108) rfl g 0 (hC 0 0 0 0 0 0 0 0 0 0 0) (by rfl) (by rfl) HTH.out (by kernel_rfl) (hC_all _ _ _ _ _ _ _ _ _ _ _) ?_))
    exact bodyPost_ret (results_cell_tmp2_row Tryz.results65 _ _ g 84 _ (0, 0) _ rfl (GZ.out.block 2 rfl) Tryz.underlying84 rfl (by kernel_rfl)) rfl (q.out _ GZ.out)
  have c3' : ¬ ((b.length : Int) < 4 * (n0 : Int)) := by omega
  have hcap := HB.out.cap
  have hpre : ∀ w, (Instr.slice 35 (.slice (some ⟨ga, oa, none⟩) b.length c) none (some (.int .i64 (4 * (n0 : Int)))) none).run Tryz.prog w = .ok (.slice (some ⟨ga, oa, none⟩) (4 * n0) c) w := fun w => by
    have := run_pre_at ga oa b.length c (4 * n0) (by omega) w
    rwa [show ((4 * n0 : Nat) : Int) = 4 * (n0 : Int) by omega] at this
  have KN : Hid (Calls Tryz.prog 72 #[.slice (some ⟨ga, oa, none⟩) (4 * n0) c] W fun e w' => e = .returned (.int .u16 (netN (b.take (4 * n0)))) ∧ w' = W) := Lib.hid (by
    have := r1_net (c := c) (bs := b.take (4 * n0)) (A := some ⟨ga, oa, none⟩) (w := W) (by
      have := src_take (HB.out.src W HV.out.drop.drop.drop) rfl (m := 4 * n0) (by omega)
      rwa [show (b.take (4 * n0)).length = 4 * n0 by rw [List.length_take]; omega]) (by rw [List.length_take]; have := HM.out; omega)
    rwa [show (b.take (4 * n0)).length = 4 * n0 by rw [List.length_take]; omega] at this)
  have l4 := netN_lt (b.take (4 * n0))
  generalize netN (b.take (4 * n0)) = nn at *
  clear hcap
  by_cases c4 : nn = 0
  case neg =>
    have q := Lib.hid (HERR.out 4 (by rw [HP.out, if_neg (by omega), if_neg c2, if_neg c3, if_pos c4]))
    have c4' : ((nn : Int) != 0) = true := by rw [bne_iff_ne]; omega
    clear c1 c2 c3 c4 l4
    clear HERR HP HB HKK HEN HM HL LL
    go_wp2_with fail
    refine KN.out.mono ?_
    rintro e w2 ⟨rfl, rfl⟩
    clear KN
    have HRG : Hid (w2.rangeAt (g + 1) 0 [.int .i64 0, .int .i64 0, .int .i64 0, .int .i64 0, .int .i64 0, .int .i64 0, .int .i64 0, .int .i64 0, .int .i64 0, .int .u32 0, .int .u32 0]) := Lib.hid (rangeZ (HV.out.block 1 rfl))
    have HTH : Hid (w2.there g 0 11) := Lib.hid (there_of (HV.out.block 2 rfl))
    have GZ := Lib.hid (HV.out.setFull 2 rfl (xs := [.int .i64 0, .int .i64 0, .int .i64 0, .int .i64 0, .int .i64 0, .int .i64 0, .int .i64 0, .int .i64 0, .int .i64 0, .int .u32 0, .int .u32 0]) (b := g) (C := (hC 0 0 0 0 0 0 0 0 0 0 0)) (T := 84) rfl)
    go_wp2_with (first | (refine wpList_load_mid (by rfl) 84 (.tmp 5) rfl (g + 1) 0 rfl [.int .i64 0, .int .i64 0, .int .i64 0, .int .i64 0, .int .i64 0, .int .i64 0, .int .i64 0, .int .i64 0, .int .i64 0, .int .u32 0, .int .u32 0] _ HRG.out Tryz.underlying84 rfl (by kernel_rfl) ?_) | (refine wpList_store_mid (by rfl) 84 (.tmp 2) (.tmp 115) rfl g 0 (hC 0 0 0 0 0 0 0 0 0 0 0) (by rfl) (by rfl) HTH.out (by kernel_rfl) (hC_all _ _ _ _ _ _ _ _ _ _ _) ?_))
    exact bodyPost_ret (results_cell_tmp2_row Tryz.results65 _ _ g 84 _ (0, 0) _ rfl (GZ.out.block 2 rfl) Tryz.underlying84 rfl (by kernel_rfl)) rfl (q.out _ GZ.out)
  have c4' : ((nn : Int) != 0) = false := by rw [c4]; rfl
  clear l4
  by_cases c5 : n2 < 4 * n0
  case pos =>
    have q := Lib.hid (HERR.out 3 (by rw [HP.out, if_neg (by omega), if_neg c2, if_neg c3, if_neg (by omega), if_pos c5]))
    have c5' : (n2 : Int) < 4 * (n0 : Int) := by omega
    clear c1 c2 c3 c4 c5
    clear HERR HP HB HKK HEN HM HL LL
    go_wp2_with fail
    refine KN.out.mono ?_
    rintro e w2 ⟨rfl, rfl⟩
    clear KN
    have HRG : Hid (w2.rangeAt (g + 1) 0 [.int .i64 0, .int .i64 0, .int .i64 0, .int .i64 0, .int .i64 0, .int .i64 0, .int .i64 0, .int .i64 0, .int .i64 0, .int .u32 0, .int .u32 0]) := Lib.hid (rangeZ (HV.out.block 1 rfl))
    have HTH : Hid (w2.there g 0 11) := Lib.hid (there_of (HV.out.block 2 rfl))
    have GZ := Lib.hid (HV.out.setFull 2 rfl (xs := [.int .i64 0, .int .i64 0, .int .i64 0, .int .i64 0, .int .i64 0, .int .i64 0, .int .i64 0, .int .i64 0, .int .i64 0, .int .u32 0, .int .u32 0]) (b := g) (C := (hC 0 0 0 0 0 0 0 0 0 0 0)) (T := 84) rfl)
    go_wp2_with (first | (refine wpList_load_mid (by rfl) 84 (.tmp 5) rfl (g + 1) 0 rfl [.int .i64 0, .int .i64 0, .int .i64 0, .int .i64 0, .int .i64 0, .int .i64 0, .int .i64 0, .int .i64 0, .int .i64 0, .int .u32 0, .int .u32 0] _ HRG.out Tryz.underlying84 rfl (by kernel_rfl) ?_) | (refine wpList_store_mid (by rfl) 84 (.tmp 2) (.tmp 121) rfl g 0 (hC 0 0 0 0 0 0 0 0 0 0 0) (by rfl) (by rfl) HTH.out (by kernel_rfl) (hC_all _ _ _ _ _ _ _ _ _ _ _) ?_))
    exact bodyPost_ret (results_cell_tmp2_row Tryz.results65 _ _ g 84 _ (0, 0) _ rfl (GZ.out.block 2 rfl) Tryz.underlying84 rfl (by kernel_rfl)) rfl (q.out _ GZ.out)
  have c5' : ¬ ((n2 : Int) < 4 * (n0 : Int)) := by omega
  by_cases c6 : b.length < n2
  case pos =>
    have q := Lib.hid (HERR.out 5 (by rw [HP.out, if_neg (by omega), if_neg c2, if_neg c3, if_neg (by omega), if_neg c5, if_pos c6]))
    have c6' : (b.length : Int) < (n2 : Int) := by omega
    clear c1 c2 c3 c4 c5 c6
    clear HERR HP HB HKK HEN HM HL LL
    go_wp2_with fail
    refine KN.out.mono ?_
    rintro e w2 ⟨rfl, rfl⟩
    clear KN
    have HRG : Hid (w2.rangeAt (g + 1) 0 [.int .i64 0, .int .i64 0, .int .i64 0, .int .i64 0, .int .i64 0, .int .i64 0, .int .i64 0, .int .i64 0, .int .i64 0, .int .u32 0, .int .u32 0]) := Lib.hid (rangeZ (HV.out.block 1 rfl))
    have HTH : Hid (w2.there g 0 11) := Lib.hid (there_of (HV.out.block 2 rfl))
    have GZ := Lib.hid (HV.out.setFull 2 rfl (xs := [.int .i64 0, .int .i64 0, .int .i64 0, .int .i64 0, .int .i64 0, .int .i64 0, .int .i64 0, .int .i64 0, .int .i64 0, .int .u32 0, .int .u32 0]) (b := g) (C := (hC 0 0 0 0 0 0 0 0 0 0 0)) (T := 84) rfl)
    go_wp2_with (first | (refine wpList_load_mid (by rfl) 84 (.tmp 5) rfl (g + 1) 0 rfl [.int .i64 0, .int .i64 0, .int .i64 0, .int .i64 0, .int .i64 0, .int .i64 0, .int .i64 0, .int .i64 0, .int .i64 0, .int .u32 0, .int .u32 0] _ HRG.out Tryz.underlying84 rfl (by kernel_rfl) ?_) | (refine wpList_store_mid (by rfl) 84 (.tmp 2) (.tmp 128) rfl g 0 (hC 0 0 0 0 0 0 0 0 0 0 0) (by rfl) (by rfl) HTH.out (by kernel_rfl) (hC_all _ _ _ _ _ _ _ _ _ _ _) ?_))
    exact bodyPost_ret (results_cell_tmp2_row Tryz.results65 _ _ g 84 _ (0, 0) _ rfl (GZ.out.block 2 rfl) Tryz.underlying84 rfl (by kernel_rfl)) rfl (q.out _ GZ.out)
  have c6' : ¬ ((b.length : Int) < (n2 : Int)) := by omega
  have HF : Hid (parseD b = (readH b, (b.take n2).drop (4 * n0), 0)) := Lib.hid (by rw [HP.out, if_neg (by omega), if_neg c2, if_neg c3, if_neg (by omega), if_neg c5, if_neg c6])
  have hlen : ((b.take n2).drop (4 * n0)).length = n2 - 4 * n0 := by rw [List.length_drop, List.length_take]; omega
  obtain ⟨g', o', c', hmid0, hsrc⟩ := HB.out.mid (i := 4 * n0) (j := n2) (by omega) (by omega)
  have hmid : ∀ w, (Instr.slice 35 (.slice (some ⟨ga, oa, none⟩) b.length c) (some (.int .i64 (4 * (n0 : Int)))) (some (.int .i64 (n2 : Int))) none).run Tryz.prog w = .ok (.slice (some ⟨g', o', none⟩) (n2 - 4 * n0) c') w := fun w => by
    have := hmid0 w
    rwa [show ((4 * n0 : Nat) : Int) = 4 * (n0 : Int) by omega] at this
  have HD : Hid (In F0 w0 W.drew (Cells g2 (hC (n0 : Int) y1 n2 n4 ((y6 / 32 : Nat) : Int) n6 y8 y9 n10 n12 n16) 84 :: Cells (g + 1) (hC 0 0 0 0 0 0 0 0 0 0 0) 84 :: Cells g (hC 0 0 0 0 0 0 0 0 0 0 0) 84 :: R)) := Lib.hid (HV.out.drewN 1)
  have HSR : Hid (Src W.drew (some ⟨g', o', none⟩) (n2 - 4 * n0) 1 (u8s ((b.take n2).drop (4 * n0)))) := Lib.hid (hsrc _ HD.out.drop.drop.drop)
  have HOK : Hid (∀ (W' : World) (v : Value), In F0 w0 W' (RowA 5 1 v (n2 - 4 * n0) (u8s ((b.take n2).drop (4 * n0))) :: R) → ParsePost b F0 w0 R (.returned (.tuple #[.agg (hC (n0 : Int) y1 n2 n4 ((y6 / 32 : Nat) : Int) n6 y8 y9 n10 n12 n16), v, .int .i64 0])) W') := Lib.hid (fun W' v hW' => ⟨v, by rw [HF.out, HEN.out], by rw [HF.out]; unfold ByR; rw [hlen]; exact hW'⟩)
  have hln : n2 - 4 * n0 ≤ 100000000 := by have := HM.out; omega
  have HN0 := Lib.hid (HD.out.rownil 5 1)
  have h2n : (4 * (n0 : Int)) ≤ (n2 : Int) := by omega
  clear HERR HP HB c1 c2 c3 HEN c4 c5 c6 HF hlen hmid0 hsrc HKK HM HL LL
  generalize (b.take n2).drop (4 * n0) = bd at *
  have hS : HcS g2 g n0 y1 n2 n4 ((y6 / 32 : Nat) : Int) n6 y8 y9 n10 n12 n16 W.drew := HcS.of (HD.out.block 0 rfl) (there_of (HD.out.block 2 rfl))
  go_wp2_with fail
  refine KN.out.mono ?_
  rintro e w2 ⟨rfl, hw2⟩
  subst hw2
  clear KN
  go_upto_region 20 with fail
  clear d2 d0 db
  refine e_start (fun w' => HcS g2 g n0 y1 n2 n4 ((y6 / 32 : Nat) : Int) n6 y8 y9 n10 n12 n16 w') (by kernel_rfl) hS (fun hS => ?_)
  generalize w2.drew = VD at *
  refine e_take (i := 0) (v := ?_) rfl (by kernel_rfl) (fun _ _ _ h => h) (by rfl) ?_ hS ?_
  rotate_left
  · (intro w hSw; (try dsimp only at hSw); unfold HcS at hSw; go_simp; try with_reducible rfl)
  try simp only [Act.put, List.setIfInBounds_toArray, List.set_cons_zero, List.set_cons_succ]
  refine e_take (i := 1) (v := ?_) rfl (by kernel_rfl) (fun _ _ _ h => h) (by rfl) ?_ hS ?_
  rotate_left
  · (intro w hSw; (try dsimp only at hSw); unfold HcS at hSw; go_simp; try with_reducible rfl)
  try simp only [Act.put, List.setIfInBounds_toArray, List.set_cons_zero, List.set_cons_succ]
  refine e_take (i := 2) (v := ?_) rfl (by kernel_rfl) (fun _ _ _ h => h) (by rfl) ?_ hS ?_
  rotate_left
  · (intro w hSw; (try dsimp only at hSw); unfold HcS at hSw; go_simp; try with_reducible rfl)
  try simp only [Act.put, List.setIfInBounds_toArray, List.set_cons_zero, List.set_cons_succ]
  refine e_take (i := 3) (v := ?_) rfl (by kernel_rfl) (fun _ _ _ h => h) (by rfl) ?_ hS ?_
  rotate_left
  · (intro w hSw; (try dsimp only at hSw); unfold HcS at hSw; go_simp; try with_reducible rfl)
  try simp only [Act.put, List.setIfInBounds_toArray, List.set_cons_zero, List.set_cons_succ]
  refine e_take (i := 4) (v := ?_) rfl (by kernel_rfl) (fun _ _ _ h => h) (by rfl) ?_ hS ?_
  rotate_left
  · (intro w hSw; (try dsimp only at hSw); unfold HcS at hSw; go_simp; try with_reducible rfl)
  try simp only [Act.put, List.setIfInBounds_toArray, List.set_cons_zero, List.set_cons_succ]
  refine e_take (i := 5) (v := ?_) rfl (by kernel_rfl) (fun _ _ _ h => h) (by rfl) ?_ hS ?_
  rotate_left
  · (intro w hSw; (try dsimp only at hSw); unfold HcS at hSw; go_simp; try with_reducible rfl)
  try simp only [Act.put, List.setIfInBounds_toArray, List.set_cons_zero, List.set_cons_succ]
  refine e_pin (i := 6) rfl (by kernel_rfl) (fun K' hK => ?_)
  refine app_step rfl HN0.out 0 rfl (.const (.slice none 0 0)) (.tmp 134) 35 (by rfl) Tryz.underlying35 infoByte (by decide) (by decide) (by rfl) (by rfl) HSR.out (u8s_one _) (by omega) ?_
  intro v3 w3 ho3 hg3
  have ho3 : In F0 w0 w3 (RowA 5 1 v3 (n2 - 4 * n0) (u8s bd) :: Cells g2 (hC (n0 : Int) y1 n2 n4 ((y6 / 32 : Nat) : Int) n6 y8 y9 n10 n12 n16) 84 :: Cells (g + 1) (hC 0 0 0 0 0 0 0 0 0 0 0) 84 :: Cells g (hC 0 0 0 0 0 0 0 0 0 0 0) 84 :: R) := by simpa using ho3
  have hS3 : HcS g2 g n0 y1 n2 n4 ((y6 / 32 : Nat) : Int) n6 y8 y9 n10 n12 n16 w3 := HcS.of (ho3.block 1 rfl) (there_of (ho3.block 3 rfl))
  have G4 := ho3.setFull 3 rfl (xs := [.int .i64 (n0 : Int), .int .i64 y1, .int .i64 n2, .int .i64 n4, .int .i64 ((y6 / 32 : Nat) : Int), .int .i64 n6, .int .i64 y8, .int .i64 y9, .int .i64 n10, .int .u32 n12, .int .u32 n16]) (b := g) (C := (hC 0 0 0 0 0 0 0 0 0 0 0)) (T := 84) rfl
  have HS4 : Hid (HcS g2 g n0 y1 n2 n4 ((y6 / 32 : Nat) : Int) n6 y8 y9 n10 n12 n16 (w3.setCells g 0 [.int .i64 (n0 : Int), .int .i64 y1, .int .i64 n2, .int .i64 n4, .int .i64 ((y6 / 32 : Nat) : Int), .int .i64 n6, .int .i64 y8, .int .i64 y9, .int .i64 n10, .int .u32 n12, .int .u32 n16])) := Lib.hid (HcS.of (G4.block 1 rfl) (there_of (G4.block 3 rfl)))
  have HS3 := Lib.hid hS3.2.2.2.2.2.2.2.2.2.2.2
  obtain ⟨F3, r3⟩ := ho3.get 0 rfl
  obtain ⟨a3, cap3, rfl, -, -, -⟩ := RowA.shape r3
  have GF := Lib.hid G4
  clear ho3 G4 hS r3 HN0 HSR HD hg3
  refine hK.out _ _ hS3 (fun hS => ?_)
  clear hK K' hS3
  try simp only [Act.put, List.setIfInBounds_toArray, List.set_cons_zero, List.set_cons_succ]
  refine e_pin (i := 7) rfl (by kernel_rfl) (fun K' hK => ?_)
  refine store_step (by rfl) 84 (.tmp 2) (.tmp 129) (by rfl) g 0 (hC (n0 : Int) y1 n2 n4 ((y6 / 32 : Nat) : Int) n6 y8 y9 n10 n12 n16) (by rfl) (by rfl) HS3.out (by kernel_rfl) (hC_all _ _ _ _ _ _ _ _ _ _ _) ?_
  clear hS
  refine hK.out _ _ HS4.out (fun hS => ?_)
  clear hK K' HS4
  try simp only [Act.put, List.setIfInBounds_toArray, List.set_cons_zero, List.set_cons_succ]
  refine e_pin (i := 8) rfl (by kernel_rfl) (fun K' hK => ?_)
  go_simp
  refine hK.out _ _ hS (fun hS => ?_)
  clear hK K'
  try simp only [Act.put, List.setIfInBounds_toArray, List.set_cons_zero, List.set_cons_succ]
  refine e_last (i := 9) rfl (by kernel_rfl) (fun K' hK => ?_)
  go_simp
  refine hK.out _ _ ?_
  clear hK K' hS
  go_wp2_with fail
  exact bodyPost_ret (results_cell_tmp2_row Tryz.results65 _ _ g 84 _ (0, 0) _ rfl (GF.out.block 3 rfl) Tryz.underlying84 rfl (by kernel_rfl)) rfl (HOK.out _ _ (GF.out.sel2 (R1 := [_, _, _, _]) (R2 := R) [0] (by decide) rfl))
end
end Go.Proofs.YtgapbecddgfkmaaGreat
