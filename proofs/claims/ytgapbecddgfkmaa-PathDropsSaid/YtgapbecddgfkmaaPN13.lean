/- Rows.PathNilSaid -/
import Derived.Test.YtgapbecddgfkmaaPN9
import Derived.Test.YtgapbecddgfkmaaPN10
import Derived.BigQuiet
import Derived.Deep.DeepCutAuto
import Derived.Deep.RegionHeld3
import Derived.Deep.QuietTactic
namespace Go.Proofs.Ytgapbecddgfkmaa
open Go.RowKit
set_option linter.unusedVariables false
set_option maxHeartbeats 64000000
set_option maxRecDepth 100000
theorem rd_take {b : List UInt8} {k n : Nat} (h : k + n ≤ b.length) : rdTake (b.drop k) 0 n = ((b.drop k).take n, b.drop (k + n), 0) := by
  rw [rdTake_ok (by rw [List.length_drop]; omega), List.drop_drop]
theorem num_at1 {b : List UInt8} {k : Nat} (h : k + 1 ≤ b.length) : num ((b.drop k).take 1) = byN b k := by
  obtain ⟨x, hx, e⟩ := get_of_lt (b := b) (i := k) (by omega)
  rw [seg_one hx, num_one, e]
theorem num_at2 {b : List UInt8} {k : Nat} (h : k + 2 ≤ b.length) : num ((b.drop k).take 2) = p16 b k := by
  obtain ⟨x, hx, e⟩ := get_of_lt (b := b) (i := k) (by omega)
  obtain ⟨y, hy, e2⟩ := get_of_lt (b := b) (i := k + 1) (by omega)
  rw [seg_two hx hy, num_two, p16, e, e2]
theorem num_at4 {b : List UInt8} {k : Nat} (h : k + 4 ≤ b.length) : num ((b.drop k).take 4) = p32 b k := by
  obtain ⟨x, hx, e⟩ := get_of_lt (b := b) (i := k) (by omega)
  obtain ⟨y, hy, e2⟩ := get_of_lt (b := b) (i := k + 1) (by omega)
  obtain ⟨z, hz, e3⟩ := get_of_lt (b := b) (i := k + 2) (by omega)
  obtain ⟨t, ht, e4⟩ := get_of_lt (b := b) (i := k + 3) (by omega)
  rw [seg_four hx hy hz ht, num_four, p32, p16, p16, e, e2, e3, show k + 2 + 1 = k + 3 by omega, e4]; omega
section
variable {F0 : List Nat} {w0 w : World} {R : List Asrt} {b : List UInt8} {br k : Nat}
theorem o_rd8 (h : In F0 w0 w R) (i : Nat) (hA : R[i]? = some (RdA br (b.drop k) 0)) (hk : k + 1 ≤ b.length) : Calls Try.prog 78 #[.pointer (some ⟨br, 0, none⟩)] w fun e w' => e = .returned (.int .i64 (byN b k)) ∧ In F0 w0 w' (R.set i (RdA br (b.drop (k + 1)) 0)) := by
  have := o_ru8 h i hA
  rw [rd_take hk] at this
  exact this.mono fun e w' ⟨h1, h2⟩ => ⟨by rw [h1, num_at1 hk], h2⟩
theorem o_rd16 (h : In F0 w0 w R) (i : Nat) (hA : R[i]? = some (RdA br (b.drop k) 0)) (hk : k + 2 ≤ b.length) : Calls Try.prog 55 #[.pointer (some ⟨br, 0, none⟩)] w fun e w' => e = .returned (.int .i64 (p16 b k)) ∧ In F0 w0 w' (R.set i (RdA br (b.drop (k + 2)) 0)) := by
  have := o_ru16 h i hA
  rw [rd_take hk] at this
  exact this.mono fun e w' ⟨h1, h2⟩ => ⟨by rw [h1, num_at2 hk], h2⟩
theorem o_rd32 (h : In F0 w0 w R) (i : Nat) (hA : R[i]? = some (RdA br (b.drop k) 0)) (hk : k + 4 ≤ b.length) : Calls Try.prog 79 #[.pointer (some ⟨br, 0, none⟩)] w fun e w' => e = .returned (.int .u32 (p32 b k)) ∧ In F0 w0 w' (R.set i (RdA br (b.drop (k + 4)) 0)) := by
  have := o_ru32 h i hA
  rw [rd_take hk] at this
  exact this.mono fun e w' ⟨h1, h2⟩ => ⟨by rw [h1, num_at4 hk], h2⟩
theorem bits_and_i64 (a m : Nat) (ha : a < 4294967296) (hm : m < 4294967296) : bits .and .i64 (a : Int) (m : Int) = ((a &&& m : Nat) : Int) := by
  have hx : a &&& m < 2 ^ 32 := Nat.and_lt_two_pow _ (by omega)
  have h1 : (BitVec.ofInt 64 (a : Int)).toNat = a := by
    rw [BitVec.ofInt_natCast, BitVec.toNat_ofNat]; exact Nat.mod_eq_of_lt (by omega)
  have h2 : (BitVec.ofInt 64 (m : Int)).toNat = m := by
    rw [BitVec.ofInt_natCast, BitVec.toNat_ofNat]; exact Nat.mod_eq_of_lt (by omega)
  show IntKind.i64.wrap ((BitVec.ofInt 64 (a : Int) &&& BitVec.ofInt 64 (m : Int)).toNat : Int) = _
  rw [BitVec.toNat_and, h1, h2]
  exact IntWalk.i64_in _ (by omega)
theorem bits_and_mask (a k : Nat) (ha : a < 4294967296) (hk : k ≤ 16) : bits .and .i64 (a : Int) ((2 ^ k - 1 : Nat) : Int) = ((a % 2 ^ k : Nat) : Int) := by
  have h2 : 2 ^ k ≤ 2 ^ 16 := Nat.pow_le_pow_right (by omega) hk
  rw [bits_and_i64 _ _ ha (by omega), Nat.and_two_pow_sub_one_eq_mod]
theorem and15 {a : Nat} (ha : a < 4294967296) : bits .and .i64 (a : Int) 15 = ((a % 16 : Nat) : Int) := bits_and_mask a 4 ha (by omega)
theorem and8191 {a : Nat} (ha : a < 4294967296) : bits .and .i64 (a : Int) 8191 = ((a % 8192 : Nat) : Int) := bits_and_mask a 13 ha (by omega)
abbrev hC (a0 a1 a2 a3 a4 a5 a6 a7 a8 a9 a10 : Int) : Array Value := #[.int .i64 a0, .int .i64 a1, .int .i64 a2, .int .i64 a3, .int .i64 a4, .int .i64 a5, .int .i64 a6, .int .i64 a7, .int .i64 a8, .int .u32 a9, .int .u32 a10]
theorem hC_set4 (a0 a1 a2 a3 a4 a5 a6 a7 a8 a9 a10 x : Int) : (hC a0 a1 a2 a3 a4 a5 a6 a7 a8 a9 a10).setIfInBounds 4 (.int .i64 x) = hC a0 a1 a2 a3 x a5 a6 a7 a8 a9 a10 := by simp [hC]
theorem hC_set5 (a0 a1 a2 a3 a4 a5 a6 a7 a8 a9 a10 x : Int) : (hC a0 a1 a2 a3 a4 a5 a6 a7 a8 a9 a10).setIfInBounds 5 (.int .i64 x) = hC a0 a1 a2 a3 a4 x a6 a7 a8 a9 a10 := by simp [hC]
theorem hC_set6 (a0 a1 a2 a3 a4 a5 a6 a7 a8 a9 a10 x : Int) : (hC a0 a1 a2 a3 a4 a5 a6 a7 a8 a9 a10).setIfInBounds 6 (.int .i64 x) = hC a0 a1 a2 a3 a4 a5 x a7 a8 a9 a10 := by simp [hC]
theorem hC_set7 (a0 a1 a2 a3 a4 a5 a6 a7 a8 a9 a10 x : Int) : (hC a0 a1 a2 a3 a4 a5 a6 a7 a8 a9 a10).setIfInBounds 7 (.int .i64 x) = hC a0 a1 a2 a3 a4 a5 a6 x a8 a9 a10 := by simp [hC]
theorem hC_set8 (a0 a1 a2 a3 a4 a5 a6 a7 a8 a9 a10 x : Int) : (hC a0 a1 a2 a3 a4 a5 a6 a7 a8 a9 a10).setIfInBounds 8 (.int .i64 x) = hC a0 a1 a2 a3 a4 a5 a6 a7 x a9 a10 := by simp [hC]
theorem hC_set9 (a0 a1 a2 a3 a4 a5 a6 a7 a8 a9 a10 x : Int) : (hC a0 a1 a2 a3 a4 a5 a6 a7 a8 a9 a10).setIfInBounds 9 (.int .u32 x) = hC a0 a1 a2 a3 a4 a5 a6 a7 a8 x a10 := by simp [hC]
theorem hC_set10 (a0 a1 a2 a3 a4 a5 a6 a7 a8 a9 a10 x : Int) : (hC a0 a1 a2 a3 a4 a5 a6 a7 a8 a9 a10).setIfInBounds 10 (.int .u32 x) = hC a0 a1 a2 a3 a4 a5 a6 a7 a8 a9 x := by simp [hC]
theorem o_ipread (h : In F0 w0 w R) {A : Option Addr} {c : Nat} (hb : Bytes F0 w0 R A c b) (hl : 20 ≤ b.length) (hm : b.length ≤ 100000000) :
    Calls Try.prog 61 #[.slice A b.length c] w fun e w' => e = .returned (.tuple #[.int .i64 ((byN b 0 / 16 : Nat) : Int), .agg (encH (readH b))]) ∧ In F0 w0 w' R := by
  have h1 := h.cells (hC 0 0 0 0 0 0 0 0 0 0 0) 59
  have K0 : Hid (Calls Try.prog 54 #[.slice A b.length c] (w.alloc (.cells (hC 0 0 0 0 0 0 0 0 0 0 0) 59)) fun e w' => ∃ br, e = .returned (.pointer (some ⟨br, 0, none⟩)) ∧ In F0 w0 w' (RdA br (b.drop 0) 0 :: Cells w.heap.size (hC 0 0 0 0 0 0 0 0 0 0 0) 59 :: R)) :=
    Lib.hid (o_rnew h1 hb.nil (hb.src _ h1.drop) hm)
  have HL := Lib.hid hl
  have x0 := byN_lt b 0
  have x1 := p16_lt b 6
  have e15 := and15 (a := byN b 0) (by omega)
  have e13 := and8191 (a := p16 b 6) (by omega)
  have HR : Hid (readH b = ⟨((byN b 0 % 16 : Nat) : Int), byN b 1, p16 b 2, p16 b 4, ((p16 b 6 / 8192 : Nat) : Int), ((p16 b 6 % 8192 : Nat) : Int), byN b 8, byN b 9, p16 b 10, p32 b 12, p32 b 16⟩) := Lib.hid rfl
  clear h hb h1 hl hm
  go_enter Try.func61, Try.ntmps61
  go_wp2_with fail
  generalize w.heap.size = g at *
  refine K0.out.mono ?_
  rintro e w1 ⟨br, rfl, ho⟩
  have K := Lib.hid (o_rd8 (k := 0) ho 0 rfl (by have := HL.out; omega))
  clear ho K0
  go_wp2_with fail
  refine K.out.mono ?_
  rintro e w2 ⟨rfl, ho0⟩
  have ho : In F0 w0 w2 (RdA br (b.drop 1) 0 :: Cells g (hC 0 0 0 0 0 0 0 0 0 0 0) 59 :: R) := ho0
  clear ho0
  have K2 := Lib.hid (o_rd8 (k := 1) ho 0 rfl (by have := HL.out; omega))
  clear ho K
  go_wp2_with fail
  refine K2.out.mono ?_
  rintro e w3 ⟨rfl, ho0⟩
  have ho : In F0 w0 w3 (RdA br (b.drop 2) 0 :: Cells g (hC 0 0 0 0 0 0 0 0 0 0 0) 59 :: R) := ho0
  clear ho0
  have K := Lib.hid (o_rd16 (k := 2) ho 0 rfl (by have := HL.out; omega))
  clear ho K2
  go_wp2_with fail
  refine K.out.mono ?_
  rintro e w4 ⟨rfl, ho0⟩
  have ho : In F0 w0 w4 (RdA br (b.drop 4) 0 :: Cells g (hC 0 0 0 0 0 0 0 0 0 0 0) 59 :: R) := ho0
  clear ho0
  have K2 := Lib.hid (o_rd16 (k := 4) ho 0 rfl (by have := HL.out; omega))
  clear ho K
  go_wp2_with fail
  refine K2.out.mono ?_
  rintro e w5 ⟨rfl, ho0⟩
  have ho : In F0 w0 w5 (RdA br (b.drop 6) 0 :: Cells g (hC 0 0 0 0 0 0 0 0 0 0 0) 59 :: R) := ho0
  clear ho0
  have ho2 := ho.cells (hC ((byN b 0 % 16 : Nat) : Int) (byN b 1) (p16 b 2) (p16 b 4) 0 0 0 0 0 0 0) 59
  clear ho K2
  have K := Lib.hid (o_rd16 (k := 6) ho2 1 rfl (by have := HL.out; omega))
  clear ho2
  go_wp2_with fail
  generalize w5.heap.size = g2 at *
  refine K.out.mono ?_
  rintro e w6 ⟨rfl, ho0⟩
  have ho : In F0 w0 w6 (Cells g2 (hC ((byN b 0 % 16 : Nat) : Int) (byN b 1) (p16 b 2) (p16 b 4) 0 0 0 0 0 0 0) 59 :: RdA br (b.drop 8) 0 :: Cells g (hC 0 0 0 0 0 0 0 0 0 0 0) 59 :: R) := ho0
  clear ho0 K
  have d4 : w6.frozen? ⟨g2, 4, none⟩ = false := free_of (ho.block 0 rfl)
  have d5 : w6.frozen? ⟨g2, 5, none⟩ = false := free_of (ho.block 0 rfl)
  have c4 : w6.cell? ⟨g2, 4, none⟩ = some (.int .i64 0) := cell_of (ho.block 0 rfl) rfl
  have c5 : w6.cell? ⟨g2, 5, none⟩ = some (.int .i64 0) := cell_of (ho.block 0 rfl) rfl
  have HO := Lib.hid (show In F0 w0 _ (Cells g2 (hC ((byN b 0 % 16 : Nat) : Int) (byN b 1) (p16 b 2) (p16 b 4) ((p16 b 6 / 8192 : Nat) : Int) ((p16 b 6 % 8192 : Nat) : Int) 0 0 0 0 0) 59 :: RdA br (b.drop 8) 0 :: Cells g (hC 0 0 0 0 0 0 0 0 0 0 0) 59 :: R) from by
    have h5 := (ho.put 0 rfl 4 (.int .i64 ((p16 b 6 / 8192 : Nat) : Int))).put 0 rfl 5 (.int .i64 ((p16 b 6 % 8192 : Nat) : Int))
    rw [hC_set4, hC_set5] at h5
    exact h5)
  clear ho
  go_upto_region 6 with fail
  have K := Lib.hid (o_rd8 (k := 8) HO.out 1 rfl (by have := HL.out; omega))
  clear HO d4 d5 c4 c5
  go_wp2_with fail
  refine K.out.mono ?_
  rintro e w7 ⟨rfl, ho0⟩
  have ho : In F0 w0 w7 (Cells g2 (hC ((byN b 0 % 16 : Nat) : Int) (byN b 1) (p16 b 2) (p16 b 4) ((p16 b 6 / 8192 : Nat) : Int) ((p16 b 6 % 8192 : Nat) : Int) 0 0 0 0 0) 59 :: RdA br (b.drop 9) 0 :: Cells g (hC 0 0 0 0 0 0 0 0 0 0 0) 59 :: R) := ho0
  clear ho0 K
  have K2 := Lib.hid (o_rd8 (k := 9) ho 1 rfl (by have := HL.out; omega))
  clear ho
  go_wp2_with fail
  refine K2.out.mono ?_
  rintro e w8 ⟨rfl, ho0⟩
  have ho : In F0 w0 w8 (Cells g2 (hC ((byN b 0 % 16 : Nat) : Int) (byN b 1) (p16 b 2) (p16 b 4) ((p16 b 6 / 8192 : Nat) : Int) ((p16 b 6 % 8192 : Nat) : Int) 0 0 0 0 0) 59 :: RdA br (b.drop 10) 0 :: Cells g (hC 0 0 0 0 0 0 0 0 0 0 0) 59 :: R) := ho0
  clear ho0 K2
  have K := Lib.hid (o_rd16 (k := 10) ho 1 rfl (by have := HL.out; omega))
  clear ho
  go_wp2_with fail
  refine K.out.mono ?_
  rintro e w9 ⟨rfl, ho0⟩
  have ho : In F0 w0 w9 (Cells g2 (hC ((byN b 0 % 16 : Nat) : Int) (byN b 1) (p16 b 2) (p16 b 4) ((p16 b 6 / 8192 : Nat) : Int) ((p16 b 6 % 8192 : Nat) : Int) 0 0 0 0 0) 59 :: RdA br (b.drop 12) 0 :: Cells g (hC 0 0 0 0 0 0 0 0 0 0 0) 59 :: R) := ho0
  clear ho0 K
  have d6 : w9.frozen? ⟨g2, 6, none⟩ = false := free_of (ho.block 0 rfl)
  have d7 : w9.frozen? ⟨g2, 7, none⟩ = false := free_of (ho.block 0 rfl)
  have d8 : w9.frozen? ⟨g2, 8, none⟩ = false := free_of (ho.block 0 rfl)
  have c6 : w9.cell? ⟨g2, 6, none⟩ = some (.int .i64 0) := cell_of (ho.block 0 rfl) rfl
  have c7 : w9.cell? ⟨g2, 7, none⟩ = some (.int .i64 0) := cell_of (ho.block 0 rfl) rfl
  have c8 : w9.cell? ⟨g2, 8, none⟩ = some (.int .i64 0) := cell_of (ho.block 0 rfl) rfl
  have HP := Lib.hid (show In F0 w0 _ (Cells g2 (hC ((byN b 0 % 16 : Nat) : Int) (byN b 1) (p16 b 2) (p16 b 4) ((p16 b 6 / 8192 : Nat) : Int) ((p16 b 6 % 8192 : Nat) : Int) (byN b 8) (byN b 9) (p16 b 10) 0 0) 59 :: RdA br (b.drop 12) 0 :: Cells g (hC 0 0 0 0 0 0 0 0 0 0 0) 59 :: R) from by
    have h5 := ((ho.put 0 rfl 6 (.int .i64 (byN b 8))).put 0 rfl 7 (.int .i64 (byN b 9))).put 0 rfl 8 (.int .i64 (p16 b 10))
    rw [hC_set6, hC_set7, hC_set8] at h5
    exact h5)
  clear ho
  go_upto_region 7 with fail
  have K := Lib.hid (o_rd32 (k := 12) HP.out 1 rfl (by have := HL.out; omega))
  clear HP d6 d7 d8 c6 c7 c8
  go_wp2_with fail
  refine K.out.mono ?_
  rintro e w10 ⟨rfl, ho0⟩
  have ho : In F0 w0 w10 (Cells g2 (hC ((byN b 0 % 16 : Nat) : Int) (byN b 1) (p16 b 2) (p16 b 4) ((p16 b 6 / 8192 : Nat) : Int) ((p16 b 6 % 8192 : Nat) : Int) (byN b 8) (byN b 9) (p16 b 10) 0 0) 59 :: RdA br (b.drop 16) 0 :: Cells g (hC 0 0 0 0 0 0 0 0 0 0 0) 59 :: R) := ho0
  clear ho0 K
  have K2 := Lib.hid (o_rd32 (k := 16) ho 1 rfl (by have := HL.out; omega))
  clear ho
  go_wp2_with fail
  refine K2.out.mono ?_
  rintro e w11 ⟨rfl, ho0⟩
  have ho : In F0 w0 w11 (Cells g2 (hC ((byN b 0 % 16 : Nat) : Int) (byN b 1) (p16 b 2) (p16 b 4) ((p16 b 6 / 8192 : Nat) : Int) ((p16 b 6 % 8192 : Nat) : Int) (byN b 8) (byN b 9) (p16 b 10) 0 0) 59 :: RdA br (b.drop 20) 0 :: Cells g (hC 0 0 0 0 0 0 0 0 0 0 0) 59 :: R) := ho0
  clear ho0 K2
  have d9 : w11.frozen? ⟨g2, 9, none⟩ = false := free_of (ho.block 0 rfl)
  have d10 : w11.frozen? ⟨g2, 10, none⟩ = false := free_of (ho.block 0 rfl)
  have c9 : w11.cell? ⟨g2, 9, none⟩ = some (.int .u32 0) := cell_of (ho.block 0 rfl) rfl
  have c10 : w11.cell? ⟨g2, 10, none⟩ = some (.int .u32 0) := cell_of (ho.block 0 rfl) rfl
  have HQ := Lib.hid (show In F0 w0 _ (Cells g2 (hC ((byN b 0 % 16 : Nat) : Int) (byN b 1) (p16 b 2) (p16 b 4) ((p16 b 6 / 8192 : Nat) : Int) ((p16 b 6 % 8192 : Nat) : Int) (byN b 8) (byN b 9) (p16 b 10) (p32 b 12) (p32 b 16)) 59 :: RdA br (b.drop 20) 0 :: Cells g (hC 0 0 0 0 0 0 0 0 0 0 0) 59 :: R) from by
    have h5 := (ho.put 0 rfl 9 (.int .u32 (p32 b 12))).put 0 rfl 10 (.int .u32 (p32 b 16))
    rw [hC_set9, hC_set10] at h5
    exact h5)
  clear ho
  go_upto_region 8 with fail
  generalize (w11.setCell ⟨g2, 9, none⟩ (.int .u32 (p32 b 12))).setCell ⟨g2, 10, none⟩ (.int .u32 (p32 b 16)) = W at *
  have Q2 := HQ.out.block 0 rfl
  have Q1 := HQ.out.block 2 rfl
  clear d9 d10 c9 c10
  have i0 : W.cell? ⟨g2, 0, none⟩ = some (.int .i64 ((byN b 0 % 16 : Nat) : Int)) := cell_of Q2 rfl
  have i1 : W.cell? ⟨g2, 1, none⟩ = some (.int .i64 (byN b 1)) := cell_of Q2 rfl
  have i2 : W.cell? ⟨g2, 2, none⟩ = some (.int .i64 (p16 b 2)) := cell_of Q2 rfl
  have i3 : W.cell? ⟨g2, 3, none⟩ = some (.int .i64 (p16 b 4)) := cell_of Q2 rfl
  have i4 : W.cell? ⟨g2, 4, none⟩ = some (.int .i64 ((p16 b 6 / 8192 : Nat) : Int)) := cell_of Q2 rfl
  have i5 : W.cell? ⟨g2, 5, none⟩ = some (.int .i64 ((p16 b 6 % 8192 : Nat) : Int)) := cell_of Q2 rfl
  have i6 : W.cell? ⟨g2, 6, none⟩ = some (.int .i64 (byN b 8)) := cell_of Q2 rfl
  have i7 : W.cell? ⟨g2, 7, none⟩ = some (.int .i64 (byN b 9)) := cell_of Q2 rfl
  have i8 : W.cell? ⟨g2, 8, none⟩ = some (.int .i64 (p16 b 10)) := cell_of Q2 rfl
  have i9 : W.cell? ⟨g2, 9, none⟩ = some (.int .u32 (p32 b 12)) := cell_of Q2 rfl
  have i10 : W.cell? ⟨g2, 10, none⟩ = some (.int .u32 (p32 b 16)) := cell_of Q2 rfl
  have f0 : W.frozen? ⟨g, 0, none⟩ = false := free_of Q1
  have f1 : W.frozen? ⟨g, 1, none⟩ = false := free_of Q1
  have f2 : W.frozen? ⟨g, 2, none⟩ = false := free_of Q1
  have f3 : W.frozen? ⟨g, 3, none⟩ = false := free_of Q1
  have f4 : W.frozen? ⟨g, 4, none⟩ = false := free_of Q1
  have f5 : W.frozen? ⟨g, 5, none⟩ = false := free_of Q1
  have f6 : W.frozen? ⟨g, 6, none⟩ = false := free_of Q1
  have f7 : W.frozen? ⟨g, 7, none⟩ = false := free_of Q1
  have f8 : W.frozen? ⟨g, 8, none⟩ = false := free_of Q1
  have f9 : W.frozen? ⟨g, 9, none⟩ = false := free_of Q1
  have f10 : W.frozen? ⟨g, 10, none⟩ = false := free_of Q1
  have z0 : W.cell? ⟨g, 0, none⟩ = some (.int .i64 0) := cell_of Q1 rfl
  have z1 : W.cell? ⟨g, 1, none⟩ = some (.int .i64 0) := cell_of Q1 rfl
  have z2 : W.cell? ⟨g, 2, none⟩ = some (.int .i64 0) := cell_of Q1 rfl
  have z3 : W.cell? ⟨g, 3, none⟩ = some (.int .i64 0) := cell_of Q1 rfl
  have z4 : W.cell? ⟨g, 4, none⟩ = some (.int .i64 0) := cell_of Q1 rfl
  have z5 : W.cell? ⟨g, 5, none⟩ = some (.int .i64 0) := cell_of Q1 rfl
  have z6 : W.cell? ⟨g, 6, none⟩ = some (.int .i64 0) := cell_of Q1 rfl
  have z7 : W.cell? ⟨g, 7, none⟩ = some (.int .i64 0) := cell_of Q1 rfl
  have z8 : W.cell? ⟨g, 8, none⟩ = some (.int .i64 0) := cell_of Q1 rfl
  have z9 : W.cell? ⟨g, 9, none⟩ = some (.int .u32 0) := cell_of Q1 rfl
  have z10 : W.cell? ⟨g, 10, none⟩ = some (.int .u32 0) := cell_of Q1 rfl
  clear Q1 Q2
  refine e_start (fun w' => w'.cell? ⟨g2, 0, none⟩ = some (.int .i64 ((byN b 0 % 16 : Nat) : Int)) ∧ w'.cell? ⟨g2, 1, none⟩ = some (.int .i64 (byN b 1)) ∧ w'.cell? ⟨g2, 2, none⟩ = some (.int .i64 (p16 b 2)) ∧ w'.cell? ⟨g2, 3, none⟩ = some (.int .i64 (p16 b 4)) ∧ w'.cell? ⟨g2, 4, none⟩ = some (.int .i64 ((p16 b 6 / 8192 : Nat) : Int)) ∧ w'.cell? ⟨g2, 5, none⟩ = some (.int .i64 ((p16 b 6 % 8192 : Nat) : Int)) ∧ w'.cell? ⟨g2, 6, none⟩ = some (.int .i64 (byN b 8)) ∧ w'.cell? ⟨g2, 7, none⟩ = some (.int .i64 (byN b 9)) ∧ w'.cell? ⟨g2, 8, none⟩ = some (.int .i64 (p16 b 10)) ∧ w'.cell? ⟨g2, 9, none⟩ = some (.int .u32 (p32 b 12)) ∧ w'.cell? ⟨g2, 10, none⟩ = some (.int .u32 (p32 b 16))) (by kernel_rfl) ⟨i0, i1, i2, i3, i4, i5, i6, i7, i8, i9, i10⟩ (fun hS => ?_)
  clear i0 i1 i2 i3 i4 i5 i6 i7 i8 i9 i10
  refine e_take (i := 0) (v := ?_) rfl (by kernel_rfl) (fun _ _ _ h => h) (by rfl) ?_ hS ?_
  rotate_left
  · (intro w hSw; (try dsimp only at hSw); go_simp; try with_reducible rfl)
  try simp only [Act.put, List.setIfInBounds_toArray, List.set_cons_zero, List.set_cons_succ]
  refine e_take (i := 1) (v := ?_) rfl (by kernel_rfl) (fun _ _ _ h => h) (by rfl) ?_ hS ?_
  rotate_left
  · (intro w hSw; (try dsimp only at hSw); go_simp; try with_reducible rfl)
  try simp only [Act.put, List.setIfInBounds_toArray, List.set_cons_zero, List.set_cons_succ]
  refine e_take (i := 2) (v := ?_) rfl (by kernel_rfl) (fun _ _ _ h => h) (by rfl) ?_ hS ?_
  rotate_left
  · (intro w hSw; (try dsimp only at hSw); go_simp; try with_reducible rfl)
  try simp only [Act.put, List.setIfInBounds_toArray, List.set_cons_zero, List.set_cons_succ]
  refine e_take (i := 3) (v := ?_) rfl (by kernel_rfl) (fun _ _ _ h => h) (by rfl) ?_ hS ?_
  rotate_left
  · (intro w hSw; (try dsimp only at hSw); go_simp; try with_reducible rfl)
  try simp only [Act.put, List.setIfInBounds_toArray, List.set_cons_zero, List.set_cons_succ]
  have G := Lib.hid ((HQ.out.setFull 2 rfl (xs := [.int .i64 ((byN b 0 % 16 : Nat) : Int), .int .i64 (byN b 1), .int .i64 (p16 b 2), .int .i64 (p16 b 4), .int .i64 ((p16 b 6 / 8192 : Nat) : Int), .int .i64 ((p16 b 6 % 8192 : Nat) : Int), .int .i64 (byN b 8), .int .i64 (byN b 9), .int .i64 (p16 b 10), .int .u32 (p32 b 12), .int .u32 (p32 b 16)]) (b := g) (C := hC 0 0 0 0 0 0 0 0 0 0 0) (T := 59) rfl).drewN 1)
  clear hS HQ
  refine e_last (i := 4) rfl (by kernel_rfl) (fun K' hK => ?_)
  go_simp
  refine hK.out _ _ ?_
  clear hK K'
  go_wp2_with fail
  exact bodyPost_ret (results_tmp_cell_row Try.results61 _ _ g 59 _ (0, 0) _ rfl (G.out.block 2 rfl) Try.underlying59 rfl (by kernel_rfl)) rfl ⟨by rw [HR.out]; rfl, (G.out.sel2 (R1 := [_, _, _]) (R2 := R) [] (by decide) rfl)⟩
end
section
variable {F0 : List Nat} {w0 w : World} {R : List Asrt} {b : List UInt8}
theorem hC_all (a0 a1 a2 a3 a4 a5 a6 a7 a8 a9 a10 : Int) : (hC a0 a1 a2 a3 a4 a5 a6 a7 a8 a9 a10).all (·.oneCell') = true := by simp [hC, Value.oneCell']
def ParsePost (b : List UInt8) (F0 : List Nat) (w0 : World) (R : List Asrt) (e : Ending) (w' : World) : Prop :=
  ∃ v, e = .returned (.tuple #[.agg (encH (parseD b).1), v, .int .i64 (parseD b).2.2]) ∧ In F0 w0 w' (ByR v (parseD b).2.1 :: R)
theorem ParsePost.err {r : Int} (h : In F0 w0 w R) (e : parseD b = (zH, [], r)) : ParsePost b F0 w0 R (.returned (.tuple #[.agg (hC 0 0 0 0 0 0 0 0 0 0 0), .slice none 0 0, .int .i64 r])) w :=
  ⟨.slice none 0 0, by rw [e]; rfl, by rw [e]; exact h.rownil _ _⟩
theorem src_mid {W : World} {g o c i j : Nat} (hs : Src W (some ⟨g, o, none⟩) b.length 1 (u8s b)) (hij : i ≤ j) (hj : j ≤ b.length) : Src W (some ⟨g, o + i, none⟩) (j - i) 1 (u8s ((b.take j).drop i)) := by
  have h1 := src_take hs rfl hj
  by_cases hlt : i < j
  · have := src_drop h1 (by rw [List.length_take]; omega) hlt
    exact this
  · have e : (b.take j).drop i = [] := List.drop_eq_nil_of_le (by rw [List.length_take]; omega)
    rw [e, show j - i = 0 by omega]
    exact Src.nil _ _ _
theorem Bytes.mid {g o c : Nat} (hb : Bytes F0 w0 R (some ⟨g, o, none⟩) c b) {i j : Nat} (hij : i ≤ j) (hj : j ≤ b.length) :
    ∃ g' o' c', (∀ w, (Instr.slice 22 (.slice (some ⟨g, o, none⟩) b.length c) (some (.int .i64 i)) (some (.int .i64 j)) none).run Try.prog w = .ok (.slice (some ⟨g', o', none⟩) (j - i) c') w) ∧ ∀ W, In F0 w0 W R → Src W (some ⟨g', o', none⟩) (j - i) 1 (u8s ((b.take j).drop i)) := by
  have hc := hb.cap
  by_cases hi : i < c
  · exact ⟨g, o + i, c - i, fun w => run_mid g o b.length c i j hi hij (by omega) w, fun W hW => src_mid (c := c) (hb.src W hW) hij hj⟩
  · refine ⟨g, o, 0, fun w => ?_, fun W hW => ?_⟩
    · have e1 : i = c := by omega
      have e2 : j = c := by omega
      rw [e1, e2, Nat.sub_self]; exact run_mid_end g o b.length c w
    · have e : (b.take j).drop i = [] := List.drop_eq_nil_of_le (by rw [List.length_take]; omega)
      rw [e, show j - i = 0 by omega]; exact Src.nil _ _ _
theorem Bytes.some {A : Option Addr} {c : Nat} (hb : Bytes F0 w0 R A c b) (h0 : 0 < b.length) : ∃ g o, A = Option.some ⟨g, o, none⟩ := by
  obtain ⟨g, o, e, _⟩ := hb.cells h0
  exact ⟨g, o, e⟩
theorem o_ipparse (h : In F0 w0 w R) {A : Option Addr} {c : Nat} (hb : Bytes F0 w0 R A c b) (hm : b.length ≤ 100000000) :
    Calls Try.prog 36 #[.slice A b.length c] w (ParsePost b F0 w0 R) := by
  have h1 := h.cells (hC 0 0 0 0 0 0 0 0 0 0 0) 59
  by_cases h20 : b.length < 20
  · have HE : parseD b = (zH, [], 1) := by unfold parseD; rw [if_pos h20]
    have q := Lib.hid (ParsePost.err h1.drop HE)
    have B := Lib.hid (h1.block 0 rfl)
    have h20' : (b.length : Int) < 20 := by omega
    clear h hb hm h20 HE h1
    go_enter Try.func36, Try.ntmps36
    go_wp2_with fail
    exact bodyPost_ret (results_cell_tmp2_row Try.results36 _ _ w.heap.size 59 _ (0, 0) _ rfl B.out Try.underlying59 rfl (by kernel_rfl)) rfl q.out
  have hge : ¬ ((b.length : Int) < 20) := by omega
  have hge2 : (20 : Int) ≤ (b.length : Int) := by omega
  have e20 : ∀ t : Hd × List UInt8 × Int, (if b.length < 20 then (zH, [], 1) else t) = t := fun t => if_neg h20
  have K : Hid (Calls Try.prog 61 #[.slice A b.length c] (w.alloc (.cells (hC 0 0 0 0 0 0 0 0 0 0 0) 59)) fun e w' => e = .returned (.tuple #[.int .i64 ((byN b 0 / 16 : Nat) : Int), .agg (hC ((byN b 0 % 16 : Nat) : Int) (byN b 1) (p16 b 2) (p16 b 4) ((p16 b 6 / 8192 : Nat) : Int) ((p16 b 6 % 8192 : Nat) : Int) (byN b 8) (byN b 9) (p16 b 10) (p32 b 12) (p32 b 16))]) ∧ In F0 w0 w' (Cells w.heap.size (hC 0 0 0 0 0 0 0 0 0 0 0) 59 :: R)) :=
    Lib.hid (o_ipread h1 ⟨fun W hW => hb.src W hW.drop, hb.nil, hb.ad, hb.cap, hb.room⟩ (by omega) hm)
  obtain ⟨ga, oa, rfl⟩ := hb.some (by omega)
  have HP : Hid (parseD b = if byN b 0 / 16 ≠ 4 then (zH, [], 2) else if byN b 0 % 16 < 5 then (zH, [], 3) else if b.length < 4 * (byN b 0 % 16) then (zH, [], 1) else if netN (b.take (4 * (byN b 0 % 16))) ≠ 0 then (zH, [], 4)
      else if p16 b 2 < 4 * (byN b 0 % 16) then (zH, [], 3) else if b.length < p16 b 2 then (zH, [], 5) else (readH b, (b.take (p16 b 2)).drop (4 * (byN b 0 % 16)), 0)) := Lib.hid (by unfold parseD; exact if_neg h20)
  have HE : Hid (encH (readH b) = hC ((byN b 0 % 16 : Nat) : Int) (byN b 1) (p16 b 2) (p16 b 4) ((p16 b 6 / 8192 : Nat) : Int) ((p16 b 6 % 8192 : Nat) : Int) (byN b 8) (byN b 9) (p16 b 10) (p32 b 12) (p32 b 16)) := Lib.hid rfl
  have l0 : byN b 0 % 16 < 16 := Nat.mod_lt _ (by decide)
  have l2 := p16_lt b 2
  generalize byN b 0 / 16 = nv at *
  generalize byN b 0 % 16 = n0 at *
  generalize byN b 1 = n1 at *
  generalize p16 b 2 = n2 at *
  generalize p16 b 4 = n4 at *
  generalize p16 b 6 / 8192 = n5 at *
  generalize p16 b 6 % 8192 = n6 at *
  generalize byN b 8 = n8 at *
  generalize byN b 9 = n9 at *
  generalize p16 b 10 = n10 at *
  generalize p32 b 12 = n12 at *
  generalize p32 b 16 = n16 at *
  have HB := Lib.hid hb
  have HM := Lib.hid hm
  have HL0 := Lib.hid (And.intro l0 l2)
  have hs4 : IntKind.i64.wrap (4 * (n0 : Int)) = 4 * (n0 : Int) := IntWalk.i64_in _ (by omega)
  clear h h1 hb hm h20 e20 l0 l2
  go_enter Try.func36, Try.ntmps36
  go_wp2_with fail
  generalize w.heap.size = g at *
  refine K.out.mono ?_
  rintro e w1 ⟨rfl, ho⟩
  have ho2 := ho.cells (hC (n0 : Int) n1 n2 n4 n5 n6 n8 n9 n10 n12 n16) 59
  clear ho K
  go_upto_region 4 with fail
  generalize w1.heap.size = g2 at *
  generalize (w1.alloc (.cells (hC (n0 : Int) n1 n2 n4 n5 n6 n8 n9 n10 n12 n16) 59)) = W at *
  have HO := Lib.hid ho2
  have Q2 := ho2.block 0 rfl
  have Q1 := ho2.block 1 rfl
  clear ho2
  have i0 : W.cell? ⟨g2, 0, none⟩ = some (.int .i64 (n0 : Nat)) := cell_of Q2 rfl
  have i1 : W.cell? ⟨g2, 1, none⟩ = some (.int .i64 (n1 : Nat)) := cell_of Q2 rfl
  have i2 : W.cell? ⟨g2, 2, none⟩ = some (.int .i64 (n2 : Nat)) := cell_of Q2 rfl
  have i3 : W.cell? ⟨g2, 3, none⟩ = some (.int .i64 (n4 : Nat)) := cell_of Q2 rfl
  have i4 : W.cell? ⟨g2, 4, none⟩ = some (.int .i64 (n5 : Nat)) := cell_of Q2 rfl
  have i5 : W.cell? ⟨g2, 5, none⟩ = some (.int .i64 (n6 : Nat)) := cell_of Q2 rfl
  have i6 : W.cell? ⟨g2, 6, none⟩ = some (.int .i64 (n8 : Nat)) := cell_of Q2 rfl
  have i7 : W.cell? ⟨g2, 7, none⟩ = some (.int .i64 (n9 : Nat)) := cell_of Q2 rfl
  have i8 : W.cell? ⟨g2, 8, none⟩ = some (.int .i64 (n10 : Nat)) := cell_of Q2 rfl
  have i9 : W.cell? ⟨g2, 9, none⟩ = some (.int .u32 (n12 : Nat)) := cell_of Q2 rfl
  have i10 : W.cell? ⟨g2, 10, none⟩ = some (.int .u32 (n16 : Nat)) := cell_of Q2 rfl
  have z0 : W.cell? ⟨g, 0, none⟩ = some (.int .i64 0) := cell_of Q1 rfl
  have z1 : W.cell? ⟨g, 1, none⟩ = some (.int .i64 0) := cell_of Q1 rfl
  have z2 : W.cell? ⟨g, 2, none⟩ = some (.int .i64 0) := cell_of Q1 rfl
  have z3 : W.cell? ⟨g, 3, none⟩ = some (.int .i64 0) := cell_of Q1 rfl
  have z4 : W.cell? ⟨g, 4, none⟩ = some (.int .i64 0) := cell_of Q1 rfl
  have z5 : W.cell? ⟨g, 5, none⟩ = some (.int .i64 0) := cell_of Q1 rfl
  have z6 : W.cell? ⟨g, 6, none⟩ = some (.int .i64 0) := cell_of Q1 rfl
  have z7 : W.cell? ⟨g, 7, none⟩ = some (.int .i64 0) := cell_of Q1 rfl
  have z8 : W.cell? ⟨g, 8, none⟩ = some (.int .i64 0) := cell_of Q1 rfl
  have z9 : W.cell? ⟨g, 9, none⟩ = some (.int .u32 0) := cell_of Q1 rfl
  have z10 : W.cell? ⟨g, 10, none⟩ = some (.int .u32 0) := cell_of Q1 rfl
  have f0 : W.frozen? ⟨g, 0, none⟩ = false := free_of Q1
  have f1 : W.frozen? ⟨g, 1, none⟩ = false := free_of Q1
  have f2 : W.frozen? ⟨g, 2, none⟩ = false := free_of Q1
  have f3 : W.frozen? ⟨g, 3, none⟩ = false := free_of Q1
  have f4 : W.frozen? ⟨g, 4, none⟩ = false := free_of Q1
  have f5 : W.frozen? ⟨g, 5, none⟩ = false := free_of Q1
  have f6 : W.frozen? ⟨g, 6, none⟩ = false := free_of Q1
  have f7 : W.frozen? ⟨g, 7, none⟩ = false := free_of Q1
  have f8 : W.frozen? ⟨g, 8, none⟩ = false := free_of Q1
  have f9 : W.frozen? ⟨g, 9, none⟩ = false := free_of Q1
  have f10 : W.frozen? ⟨g, 10, none⟩ = false := free_of Q1
  have GZ := Lib.hid (HO.out.setFull 1 rfl (xs := [.int .i64 0, .int .i64 0, .int .i64 0, .int .i64 0, .int .i64 0, .int .i64 0, .int .i64 0, .int .i64 0, .int .i64 0, .int .u32 0, .int .u32 0]) (b := g) (C := hC 0 0 0 0 0 0 0 0 0 0 0) (T := 59) rfl)
  clear Q1 Q2
  have HERR := Lib.hid (fun (r : Int) (e : parseD b = (zH, [], r)) => ParsePost.err (GZ.out.drop.drop) e)
  by_cases c1 : nv = 4
  case neg =>
    have q := Lib.hid (HERR.out 2 (by rw [HP.out, if_pos c1]))
    have c1' : ((nv : Int) != 4) = true := by rw [bne_iff_ne]; omega
    clear HERR HP HB c1 HE
    go_wp2_with fail
    exact bodyPost_ret (results_cell_tmp2_row Try.results36 _ _ g 59 _ (0, 0) _ rfl (GZ.out.block 1 rfl) Try.underlying59 rfl (by kernel_rfl)) rfl q.out
  have c1' : ((nv : Int) != 4) = false := by rw [c1]; rfl
  by_cases c2 : n0 < 5
  · have q := Lib.hid (HERR.out 3 (by rw [HP.out, if_neg (by omega), if_pos c2]))
    have c2' : (n0 : Int) < 5 := by omega
    clear HERR HP HB c1 c2 HE
    go_wp2_with fail
    exact bodyPost_ret (results_cell_tmp2_row Try.results36 _ _ g 59 _ (0, 0) _ rfl (GZ.out.block 1 rfl) Try.underlying59 rfl (by kernel_rfl)) rfl q.out
  have c2' : ¬ ((n0 : Int) < 5) := by omega
  by_cases c3 : b.length < 4 * n0
  · have q := Lib.hid (HERR.out 1 (by rw [HP.out, if_neg (by omega), if_neg c2, if_pos c3]))
    have c3' : (b.length : Int) < 4 * (n0 : Int) := by omega
    clear HERR HP HB c1 c2 c3 HE
    go_wp2_with fail
    exact bodyPost_ret (results_cell_tmp2_row Try.results36 _ _ g 59 _ (0, 0) _ rfl (GZ.out.block 1 rfl) Try.underlying59 rfl (by kernel_rfl)) rfl q.out
  have c3' : ¬ ((b.length : Int) < 4 * (n0 : Int)) := by omega
  have hcap := HB.out.cap
  have hpre : ∀ w, (Instr.slice 22 (.slice (some ⟨ga, oa, none⟩) b.length c) none (some (.int .i64 (4 * (n0 : Int)))) none).run Try.prog w = .ok (.slice (some ⟨ga, oa, none⟩) (4 * n0) c) w := fun w => by
    have := run_pre_at ga oa b.length c (4 * n0) (by omega) w
    rwa [show ((4 * n0 : Nat) : Int) = 4 * (n0 : Int) by omega] at this
  have KN : Hid (Calls Try.prog 62 #[.slice (some ⟨ga, oa, none⟩) (4 * n0) c] W fun e w' => e = .returned (.int .u16 (netN (b.take (4 * n0)))) ∧ w' = W) := Lib.hid (by
    have := su_net (c := c) (bs := b.take (4 * n0)) (A := some ⟨ga, oa, none⟩) (w := W) (by
      have := src_take (HB.out.src W HO.out.drop.drop) rfl (m := 4 * n0) (by omega)
      rwa [show (b.take (4 * n0)).length = 4 * n0 by rw [List.length_take]; omega]) (by rw [List.length_take]; have := HM.out; omega)
    rwa [show (b.take (4 * n0)).length = 4 * n0 by rw [List.length_take]; omega] at this)
  have l4 := netN_lt (b.take (4 * n0))
  generalize netN (b.take (4 * n0)) = nn at *
  clear hcap
  by_cases c4 : nn = 0
  case neg =>
    have q := Lib.hid (HERR.out 4 (by rw [HP.out, if_neg (by omega), if_neg c2, if_neg c3, if_pos c4]))
    have c4' : ((nn : Int) != 0) = true := by rw [bne_iff_ne]; omega
    clear HERR HP HB c1 c2 c3 HE c4
    go_wp2_with fail
    refine KN.out.mono ?_
    rintro e w2 ⟨rfl, rfl⟩
    clear KN
    go_wp2_with fail
    exact bodyPost_ret (results_cell_tmp2_row Try.results36 _ _ g 59 _ (0, 0) _ rfl (GZ.out.block 1 rfl) Try.underlying59 rfl (by kernel_rfl)) rfl q.out
  have c4' : ((nn : Int) != 0) = false := by rw [c4]; rfl
  by_cases c5 : n2 < 4 * n0
  · have q := Lib.hid (HERR.out 3 (by rw [HP.out, if_neg (by omega), if_neg c2, if_neg c3, if_neg (by omega), if_pos c5]))
    have c5' : (n2 : Int) < 4 * (n0 : Int) := by omega
    clear HERR HP HB c1 c2 c3 HE c4 c5
    go_wp2_with fail
    refine KN.out.mono ?_
    rintro e w2 ⟨rfl, rfl⟩
    clear KN
    go_wp2_with fail
    exact bodyPost_ret (results_cell_tmp2_row Try.results36 _ _ g 59 _ (0, 0) _ rfl (GZ.out.block 1 rfl) Try.underlying59 rfl (by kernel_rfl)) rfl q.out
  have c5' : ¬ ((n2 : Int) < 4 * (n0 : Int)) := by omega
  by_cases c6 : b.length < n2
  · have q := Lib.hid (HERR.out 5 (by rw [HP.out, if_neg (by omega), if_neg c2, if_neg c3, if_neg (by omega), if_neg c5, if_pos c6]))
    have c6' : (b.length : Int) < (n2 : Int) := by omega
    clear HERR HP HB c1 c2 c3 HE c4 c5 c6
    go_wp2_with fail
    refine KN.out.mono ?_
    rintro e w2 ⟨rfl, rfl⟩
    clear KN
    go_wp2_with fail
    exact bodyPost_ret (results_cell_tmp2_row Try.results36 _ _ g 59 _ (0, 0) _ rfl (GZ.out.block 1 rfl) Try.underlying59 rfl (by kernel_rfl)) rfl q.out
  have c6' : ¬ ((b.length : Int) < (n2 : Int)) := by omega
  have HF : Hid (parseD b = (readH b, (b.take n2).drop (4 * n0), 0)) := Lib.hid (by rw [HP.out, if_neg (by omega), if_neg c2, if_neg c3, if_neg (by omega), if_neg c5, if_neg c6])
  have hlen : ((b.take n2).drop (4 * n0)).length = n2 - 4 * n0 := by rw [List.length_drop, List.length_take]; omega
  obtain ⟨g', o', c', hmid0, hsrc⟩ := HB.out.mid (i := 4 * n0) (j := n2) (by omega) (by omega)
  have hmid : ∀ w, (Instr.slice 22 (.slice (some ⟨ga, oa, none⟩) b.length c) (some (.int .i64 (4 * (n0 : Int)))) (some (.int .i64 (n2 : Int))) none).run Try.prog w = .ok (.slice (some ⟨g', o', none⟩) (n2 - 4 * n0) c') w := fun w => by
    have := hmid0 w
    rwa [show ((4 * n0 : Nat) : Int) = 4 * (n0 : Int) by omega] at this
  have KC : Hid (∀ W', In F0 w0 W' (Cells g2 (hC (n0 : Int) n1 n2 n4 n5 n6 n8 n9 n10 n12 n16) 59 :: Cells g (hC 0 0 0 0 0 0 0 0 0 0 0) 59 :: R) → Calls Try.prog 63 #[.slice (some ⟨g', o', none⟩) (n2 - 4 * n0) c'] W' fun e w' => ∃ v, e = .returned v ∧ In F0 w0 w' (ByR v ((b.take n2).drop (4 * n0)) :: Cells g2 (hC (n0 : Int) n1 n2 n4 n5 n6 n8 n9 n10 n12 n16) 59 :: Cells g (hC 0 0 0 0 0 0 0 0 0 0 0) 59 :: R)) := Lib.hid (fun W' hW' => by
    have := o_clone (c := c') hW' (A := some ⟨g', o', none⟩) (bs := (b.take n2).drop (4 * n0)) (by intro h; cases h) (by rw [hlen]; exact hsrc W' hW'.drop.drop) (by rw [hlen]; have := HM.out; omega)
    rw [hlen] at this
    exact this.mono fun e w' ⟨v, he, ho⟩ => ⟨v, he, by unfold ByR; rw [hlen]; exact ho⟩)
  have HOK : Hid (∀ (W' : World) (v : Value), In F0 w0 W' (ByR v ((b.take n2).drop (4 * n0)) :: R) → ParsePost b F0 w0 R (.returned (.tuple #[.agg (hC (n0 : Int) n1 n2 n4 n5 n6 n8 n9 n10 n12 n16), v, .int .i64 0])) W') := Lib.hid (fun W' v hW' => ⟨v, by rw [HF.out, HE.out], by rw [HF.out]; exact hW'⟩)
  have HD := Lib.hid (HO.out.drewN 1)
  have hu := Try.underlying59
  have hi11 : (Try.prog.info? 59).map (·.size) = some 11 := by kernel_rfl
  have h2n : (4 * (n0 : Int)) ≤ (n2 : Int) := by omega
  clear HERR HP HB c1 c2 c3 HE c4 c5 c6 HF hlen hmid0 hsrc
  generalize (b.take n2).drop (4 * n0) = bd at *
  clear z0 z1 z2 z3 z4 z5 z6 z7 z8 z9 z10 f0 f1 f2 f3 f4 f5 f6 f7 f8 f9 f10
  have hS : W.drew.cell? ⟨g2, 0, none⟩ = some (.int .i64 (n0 : Nat)) ∧ W.drew.cell? ⟨g2, 1, none⟩ = some (.int .i64 (n1 : Nat)) ∧ W.drew.cell? ⟨g2, 2, none⟩ = some (.int .i64 (n2 : Nat)) ∧ W.drew.cell? ⟨g2, 3, none⟩ = some (.int .i64 (n4 : Nat)) ∧ W.drew.cell? ⟨g2, 4, none⟩ = some (.int .i64 (n5 : Nat)) ∧ W.drew.cell? ⟨g2, 5, none⟩ = some (.int .i64 (n6 : Nat)) ∧ W.drew.cell? ⟨g2, 6, none⟩ = some (.int .i64 (n8 : Nat)) ∧ W.drew.cell? ⟨g2, 7, none⟩ = some (.int .i64 (n9 : Nat)) ∧ W.drew.cell? ⟨g2, 8, none⟩ = some (.int .i64 (n10 : Nat)) ∧ W.drew.cell? ⟨g2, 9, none⟩ = some (.int .u32 (n12 : Nat)) ∧ W.drew.cell? ⟨g2, 10, none⟩ = some (.int .u32 (n16 : Nat)) ∧ W.drew.there g 0 11 := ⟨cell_of (HD.out.block 0 rfl) rfl, cell_of (HD.out.block 0 rfl) rfl, cell_of (HD.out.block 0 rfl) rfl, cell_of (HD.out.block 0 rfl) rfl, cell_of (HD.out.block 0 rfl) rfl, cell_of (HD.out.block 0 rfl) rfl, cell_of (HD.out.block 0 rfl) rfl, cell_of (HD.out.block 0 rfl) rfl, cell_of (HD.out.block 0 rfl) rfl, cell_of (HD.out.block 0 rfl) rfl, cell_of (HD.out.block 0 rfl) rfl, there_of (HD.out.block 1 rfl)⟩
  go_wp2_with fail
  refine KN.out.mono ?_
  rintro e w2 ⟨rfl, rfl⟩
  clear KN i0 i1 i3 i4 i5 i6 i7 i8 i9 i10
  go_wp2_with fail
  refine e_start (fun w' => w'.cell? ⟨g2, 0, none⟩ = some (.int .i64 (n0 : Nat)) ∧ w'.cell? ⟨g2, 1, none⟩ = some (.int .i64 (n1 : Nat)) ∧ w'.cell? ⟨g2, 2, none⟩ = some (.int .i64 (n2 : Nat)) ∧ w'.cell? ⟨g2, 3, none⟩ = some (.int .i64 (n4 : Nat)) ∧ w'.cell? ⟨g2, 4, none⟩ = some (.int .i64 (n5 : Nat)) ∧ w'.cell? ⟨g2, 5, none⟩ = some (.int .i64 (n6 : Nat)) ∧ w'.cell? ⟨g2, 6, none⟩ = some (.int .i64 (n8 : Nat)) ∧ w'.cell? ⟨g2, 7, none⟩ = some (.int .i64 (n9 : Nat)) ∧ w'.cell? ⟨g2, 8, none⟩ = some (.int .i64 (n10 : Nat)) ∧ w'.cell? ⟨g2, 9, none⟩ = some (.int .u32 (n12 : Nat)) ∧ w'.cell? ⟨g2, 10, none⟩ = some (.int .u32 (n16 : Nat)) ∧ w'.there g 0 11) (by kernel_rfl) hS (fun hS => ?_)
  refine e_take (i := 0) (v := ?_) rfl (by kernel_rfl) (fun _ _ _ h => h) (by rfl) ?_ hS ?_
  rotate_left
  · (intro w hSw; (try dsimp only at hSw); go_simp; try with_reducible rfl)
  try simp only [Act.put, List.setIfInBounds_toArray, List.set_cons_zero, List.set_cons_succ]
  refine e_take (i := 1) (v := ?_) rfl (by kernel_rfl) (fun _ _ _ h => h) (by rfl) ?_ hS ?_
  rotate_left
  · (intro w hSw; (try dsimp only at hSw); go_simp; try with_reducible rfl)
  try simp only [Act.put, List.setIfInBounds_toArray, List.set_cons_zero, List.set_cons_succ]
  refine e_take (i := 2) (v := ?_) rfl (by kernel_rfl) (fun _ _ _ h => h) (by rfl) ?_ hS ?_
  rotate_left
  · (intro w hSw; (try dsimp only at hSw); go_simp; try with_reducible rfl)
  try simp only [Act.put, List.setIfInBounds_toArray, List.set_cons_zero, List.set_cons_succ]
  refine e_take (i := 3) (v := ?_) rfl (by kernel_rfl) (fun _ _ _ h => h) (by rfl) ?_ hS ?_
  rotate_left
  · (intro w hSw; (try dsimp only at hSw); go_simp; try with_reducible rfl)
  try simp only [Act.put, List.setIfInBounds_toArray, List.set_cons_zero, List.set_cons_succ]
  refine e_take (i := 4) (v := ?_) rfl (by kernel_rfl) (fun _ _ _ h => h) (by rfl) ?_ hS ?_
  rotate_left
  · (intro w hSw; (try dsimp only at hSw); go_simp; try with_reducible rfl)
  try simp only [Act.put, List.setIfInBounds_toArray, List.set_cons_zero, List.set_cons_succ]
  refine e_take (i := 5) (v := ?_) rfl (by kernel_rfl) (fun _ _ _ h => h) (by rfl) ?_ hS ?_
  rotate_left
  · (intro w hSw; (try dsimp only at hSw); go_simp; try with_reducible rfl)
  try simp only [Act.put, List.setIfInBounds_toArray, List.set_cons_zero, List.set_cons_succ]
  refine e_pin (i := 6) rfl (by kernel_rfl) (fun K' hK => ?_)
  go_simp
  go_at_call 63
  refine (KC.out _ HD.out).mono ?_
  rintro e w3 ⟨v3, rfl, ho3⟩
  have hS3 : w3.cell? ⟨g2, 0, none⟩ = some (.int .i64 (n0 : Nat)) ∧ w3.cell? ⟨g2, 1, none⟩ = some (.int .i64 (n1 : Nat)) ∧ w3.cell? ⟨g2, 2, none⟩ = some (.int .i64 (n2 : Nat)) ∧ w3.cell? ⟨g2, 3, none⟩ = some (.int .i64 (n4 : Nat)) ∧ w3.cell? ⟨g2, 4, none⟩ = some (.int .i64 (n5 : Nat)) ∧ w3.cell? ⟨g2, 5, none⟩ = some (.int .i64 (n6 : Nat)) ∧ w3.cell? ⟨g2, 6, none⟩ = some (.int .i64 (n8 : Nat)) ∧ w3.cell? ⟨g2, 7, none⟩ = some (.int .i64 (n9 : Nat)) ∧ w3.cell? ⟨g2, 8, none⟩ = some (.int .i64 (n10 : Nat)) ∧ w3.cell? ⟨g2, 9, none⟩ = some (.int .u32 (n12 : Nat)) ∧ w3.cell? ⟨g2, 10, none⟩ = some (.int .u32 (n16 : Nat)) ∧ w3.there g 0 11 := ⟨cell_of (ho3.block 1 rfl) rfl, cell_of (ho3.block 1 rfl) rfl, cell_of (ho3.block 1 rfl) rfl, cell_of (ho3.block 1 rfl) rfl, cell_of (ho3.block 1 rfl) rfl, cell_of (ho3.block 1 rfl) rfl, cell_of (ho3.block 1 rfl) rfl, cell_of (ho3.block 1 rfl) rfl, cell_of (ho3.block 1 rfl) rfl, cell_of (ho3.block 1 rfl) rfl, cell_of (ho3.block 1 rfl) rfl, there_of (ho3.block 2 rfl)⟩
  have G4 := ho3.setFull 2 rfl (xs := [.int .i64 (n0 : Nat), .int .i64 (n1 : Nat), .int .i64 (n2 : Nat), .int .i64 (n4 : Nat), .int .i64 (n5 : Nat), .int .i64 (n6 : Nat), .int .i64 (n8 : Nat), .int .i64 (n9 : Nat), .int .i64 (n10 : Nat), .int .u32 (n12 : Nat), .int .u32 (n16 : Nat)]) (b := g) (C := hC 0 0 0 0 0 0 0 0 0 0 0) (T := 59) rfl
  have HS4 : Hid ((w3.setCells g 0 [.int .i64 (n0 : Nat), .int .i64 (n1 : Nat), .int .i64 (n2 : Nat), .int .i64 (n4 : Nat), .int .i64 (n5 : Nat), .int .i64 (n6 : Nat), .int .i64 (n8 : Nat), .int .i64 (n9 : Nat), .int .i64 (n10 : Nat), .int .u32 (n12 : Nat), .int .u32 (n16 : Nat)]).cell? ⟨g2, 0, none⟩ = some (.int .i64 (n0 : Nat)) ∧ (w3.setCells g 0 [.int .i64 (n0 : Nat), .int .i64 (n1 : Nat), .int .i64 (n2 : Nat), .int .i64 (n4 : Nat), .int .i64 (n5 : Nat), .int .i64 (n6 : Nat), .int .i64 (n8 : Nat), .int .i64 (n9 : Nat), .int .i64 (n10 : Nat), .int .u32 (n12 : Nat), .int .u32 (n16 : Nat)]).cell? ⟨g2, 1, none⟩ = some (.int .i64 (n1 : Nat)) ∧ (w3.setCells g 0 [.int .i64 (n0 : Nat), .int .i64 (n1 : Nat), .int .i64 (n2 : Nat), .int .i64 (n4 : Nat), .int .i64 (n5 : Nat), .int .i64 (n6 : Nat), .int .i64 (n8 : Nat), .int .i64 (n9 : Nat), .int .i64 (n10 : Nat), .int .u32 (n12 : Nat), .int .u32 (n16 : Nat)]).cell? ⟨g2, 2, none⟩ = some (.int .i64 (n2 : Nat)) ∧ (w3.setCells g 0 [.int .i64 (n0 : Nat), .int .i64 (n1 : Nat), .int .i64 (n2 : Nat), .int .i64 (n4 : Nat), .int .i64 (n5 : Nat), .int .i64 (n6 : Nat), .int .i64 (n8 : Nat), .int .i64 (n9 : Nat), .int .i64 (n10 : Nat), .int .u32 (n12 : Nat), .int .u32 (n16 : Nat)]).cell? ⟨g2, 3, none⟩ = some (.int .i64 (n4 : Nat)) ∧ (w3.setCells g 0 [.int .i64 (n0 : Nat), .int .i64 (n1 : Nat), .int .i64 (n2 : Nat), .int .i64 (n4 : Nat), .int .i64 (n5 : Nat), .int .i64 (n6 : Nat), .int .i64 (n8 : Nat), .int .i64 (n9 : Nat), .int .i64 (n10 : Nat), .int .u32 (n12 : Nat), .int .u32 (n16 : Nat)]).cell? ⟨g2, 4, none⟩ = some (.int .i64 (n5 : Nat)) ∧ (w3.setCells g 0 [.int .i64 (n0 : Nat), .int .i64 (n1 : Nat), .int .i64 (n2 : Nat), .int .i64 (n4 : Nat), .int .i64 (n5 : Nat), .int .i64 (n6 : Nat), .int .i64 (n8 : Nat), .int .i64 (n9 : Nat), .int .i64 (n10 : Nat), .int .u32 (n12 : Nat), .int .u32 (n16 : Nat)]).cell? ⟨g2, 5, none⟩ = some (.int .i64 (n6 : Nat)) ∧ (w3.setCells g 0 [.int .i64 (n0 : Nat), .int .i64 (n1 : Nat), .int .i64 (n2 : Nat), .int .i64 (n4 : Nat), .int .i64 (n5 : Nat), .int .i64 (n6 : Nat), .int .i64 (n8 : Nat), .int .i64 (n9 : Nat), .int .i64 (n10 : Nat), .int .u32 (n12 : Nat), .int .u32 (n16 : Nat)]).cell? ⟨g2, 6, none⟩ = some (.int .i64 (n8 : Nat)) ∧ (w3.setCells g 0 [.int .i64 (n0 : Nat), .int .i64 (n1 : Nat), .int .i64 (n2 : Nat), .int .i64 (n4 : Nat), .int .i64 (n5 : Nat), .int .i64 (n6 : Nat), .int .i64 (n8 : Nat), .int .i64 (n9 : Nat), .int .i64 (n10 : Nat), .int .u32 (n12 : Nat), .int .u32 (n16 : Nat)]).cell? ⟨g2, 7, none⟩ = some (.int .i64 (n9 : Nat)) ∧ (w3.setCells g 0 [.int .i64 (n0 : Nat), .int .i64 (n1 : Nat), .int .i64 (n2 : Nat), .int .i64 (n4 : Nat), .int .i64 (n5 : Nat), .int .i64 (n6 : Nat), .int .i64 (n8 : Nat), .int .i64 (n9 : Nat), .int .i64 (n10 : Nat), .int .u32 (n12 : Nat), .int .u32 (n16 : Nat)]).cell? ⟨g2, 8, none⟩ = some (.int .i64 (n10 : Nat)) ∧ (w3.setCells g 0 [.int .i64 (n0 : Nat), .int .i64 (n1 : Nat), .int .i64 (n2 : Nat), .int .i64 (n4 : Nat), .int .i64 (n5 : Nat), .int .i64 (n6 : Nat), .int .i64 (n8 : Nat), .int .i64 (n9 : Nat), .int .i64 (n10 : Nat), .int .u32 (n12 : Nat), .int .u32 (n16 : Nat)]).cell? ⟨g2, 9, none⟩ = some (.int .u32 (n12 : Nat)) ∧ (w3.setCells g 0 [.int .i64 (n0 : Nat), .int .i64 (n1 : Nat), .int .i64 (n2 : Nat), .int .i64 (n4 : Nat), .int .i64 (n5 : Nat), .int .i64 (n6 : Nat), .int .i64 (n8 : Nat), .int .i64 (n9 : Nat), .int .i64 (n10 : Nat), .int .u32 (n12 : Nat), .int .u32 (n16 : Nat)]).cell? ⟨g2, 10, none⟩ = some (.int .u32 (n16 : Nat)) ∧ (w3.setCells g 0 [.int .i64 (n0 : Nat), .int .i64 (n1 : Nat), .int .i64 (n2 : Nat), .int .i64 (n4 : Nat), .int .i64 (n5 : Nat), .int .i64 (n6 : Nat), .int .i64 (n8 : Nat), .int .i64 (n9 : Nat), .int .i64 (n10 : Nat), .int .u32 (n12 : Nat), .int .u32 (n16 : Nat)]).there g 0 11) := Lib.hid ⟨cell_of (G4.block 1 rfl) rfl, cell_of (G4.block 1 rfl) rfl, cell_of (G4.block 1 rfl) rfl, cell_of (G4.block 1 rfl) rfl, cell_of (G4.block 1 rfl) rfl, cell_of (G4.block 1 rfl) rfl, cell_of (G4.block 1 rfl) rfl, cell_of (G4.block 1 rfl) rfl, cell_of (G4.block 1 rfl) rfl, cell_of (G4.block 1 rfl) rfl, cell_of (G4.block 1 rfl) rfl, there_of (G4.block 2 rfl)⟩
  obtain ⟨F3, r3⟩ := ho3.get 0 rfl
  obtain ⟨a3, cap3, rfl, -, -, -⟩ := RowA.shape r3
  have GF := Lib.hid G4
  clear ho3 G4 hS r3
  refine hK.out _ _ hS3 (fun hS => ?_)
  clear hK K' hS3
  try simp only [Act.put, List.setIfInBounds_toArray, List.set_cons_zero, List.set_cons_succ]
  refine e_pin (i := 7) rfl (by kernel_rfl) (fun K' hK => ?_)
  refine store_step (by rfl) 59 (.tmp 2) (.tmp 21) (by rfl) g 0 (hC (n0 : Int) n1 n2 n4 n5 n6 n8 n9 n10 n12 n16) (by rfl) (by rfl) hS.2.2.2.2.2.2.2.2.2.2.2 (by kernel_rfl) (hC_all _ _ _ _ _ _ _ _ _ _ _) ?_
  clear hS
  refine hK.out _ _ HS4.out (fun hS => ?_)
  clear hK K' HS4
  try simp only [Act.put]
  refine e_pin (i := 8) rfl (by kernel_rfl) (fun K' hK => ?_)
  go_simp
  refine hK.out _ _ hS (fun hS => ?_)
  clear hK K'
  try simp only [Act.put, List.setIfInBounds_toArray, List.set_cons_zero, List.set_cons_succ]
  refine e_last (i := 9) rfl (by kernel_rfl) (fun K' hK => ?_)
  go_simp
  refine hK.out _ _ ?_
  clear hK K' hS
  go_wp2_with fail
  exact bodyPost_ret (results_cell_tmp2_row Try.results36 _ _ g 59 _ (0, 0) _ rfl (GF.out.block 2 rfl) Try.underlying59 rfl (by kernel_rfl)) rfl (HOK.out _ _ (GF.out.sel2 (R1 := [_, _, _]) (R2 := R) [0] (by decide) rfl))
end
end Go.Proofs.Ytgapbecddgfkmaa
