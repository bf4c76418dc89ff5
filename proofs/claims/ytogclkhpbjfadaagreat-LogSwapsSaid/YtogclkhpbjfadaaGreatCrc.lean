/- The sum of bytes, CRC-32C, by its text. -/
import Derived.Test.YtogclkhpbjfadaaGreatFrPlain
namespace Go.Proofs.YtogclkhpbjfadaaGreat
open Go.RowKit
set_option linter.unusedVariables false
set_option maxRecDepth 100000

def CrcRel (bs : List UInt8) (c k : Value) : Prop := ∃ i : Nat, i ≤ bs.length ∧ k = .int .i64 i ∧ c = .int .u32 (crcFrom 0xffffffff (bs.take i))
def BitRel (c0 : Nat) (c k : Value) : Prop := ∃ j : Nat, j ≤ 8 ∧ k = .int .i64 j ∧ c = .int .u32 (crcBits j c0)
theorem src_cell {w : World} {A : Option Addr} {n k : Nat} {xs : List Value} (h : Src w A n k xs) (h0 : 0 < n) : ∃ ad, A = some ad ∧ ∀ j u, xs[j]? = some u → w.cell? (ad.add j) = some u := h.at' h0
theorem bits_xor_u32 (a b : Nat) (ha : a < 4294967296) (hb : b < 4294967296) : bits .xor .u32 (a : Int) (b : Int) = ((a ^^^ b : Nat) : Int) := by
  have hx : a ^^^ b < 2 ^ 32 := Nat.xor_lt_two_pow (by omega) (by omega)
  have h1 : (BitVec.ofInt 32 (a : Int)).toNat = a := by
    rw [BitVec.ofInt_natCast, BitVec.toNat_ofNat]; exact Nat.mod_eq_of_lt (by omega)
  have h2 : (BitVec.ofInt 32 (b : Int)).toNat = b := by
    rw [BitVec.ofInt_natCast, BitVec.toNat_ofNat]; exact Nat.mod_eq_of_lt (by omega)
  show IntKind.u32.wrap ((BitVec.ofInt 32 (a : Int) ^^^ BitVec.ofInt 32 (b : Int)).toNat : Int) = _
  rw [BitVec.toNat_xor, h1, h2]
  rw [show ∀ n, IntKind.u32.wrap n = n % 4294967296 from fun n => by simp [IntKind.wrap, IntKind.bits, IntKind.signed]]
  omega
theorem bits_and_u32 (a b : Nat) (ha : a < 4294967296) (hb : b < 4294967296) : bits .and .u32 (a : Int) (b : Int) = ((a &&& b : Nat) : Int) := by
  have hx : a &&& b < 2 ^ 32 := Nat.and_lt_two_pow _ (by omega)
  have h1 : (BitVec.ofInt 32 (a : Int)).toNat = a := by
    rw [BitVec.ofInt_natCast, BitVec.toNat_ofNat]; exact Nat.mod_eq_of_lt (by omega)
  have h2 : (BitVec.ofInt 32 (b : Int)).toNat = b := by
    rw [BitVec.ofInt_natCast, BitVec.toNat_ofNat]; exact Nat.mod_eq_of_lt (by omega)
  show IntKind.u32.wrap ((BitVec.ofInt 32 (a : Int) &&& BitVec.ofInt 32 (b : Int)).toNat : Int) = _
  rw [BitVec.toNat_and, h1, h2]
  rw [show ∀ n, IntKind.u32.wrap n = n % 4294967296 from fun n => by simp [IntKind.wrap, IntKind.bits, IntKind.signed]]
  omega
theorem xor_byte {c : Nat} (hc : c < 4294967296) (x : UInt8) : bits .xor .u32 (c : Int) ((x.toNat : Int) % 4294967296) = ((c ^^^ x.toNat : Nat) : Int) := by
  have := x.toNat_lt
  rw [show ((x.toNat : Int) % 4294967296) = (x.toNat : Int) by omega]
  exact bits_xor_u32 _ _ hc (by omega)
theorem and_one {c : Nat} (hc : c < 4294967296) : bits .and .u32 (c : Int) 1 = ((c % 2 : Nat) : Int) := by
  have := bits_and_u32 c 1 hc (by omega)
  rw [Nat.and_one_is_mod] at this
  exact this
theorem xor_poly {c : Nat} (hc : c < 4294967296) : bits .xor .u32 ((c : Int) / 2) 2197175160 = ((c / 2 ^^^ 0x82f63b78 : Nat) : Int) := by
  have := bits_xor_u32 (c / 2) 0x82f63b78 (by omega) (by omega)
  rwa [show (((c / 2 : Nat) : Nat) : Int) = (c : Int) / 2 by omega] at this
set_option maxHeartbeats 4000000 in
theorem crc_call {w : World} {A : Option Addr} {bs : List UInt8} {c : Nat} (h : Src w A bs.length 1 (u8s bs)) (hl : bs.length ≤ 100000000) :
    Calls Tryz.prog 157 #[.slice A bs.length c] w fun e w' => e = .returned (.int .u32 (crc bs)) ∧ w' = w := by
  have H := Lib.hid h
  clear h
  go_enter Tryz.func157, Tryz.ntmps157
  go_wp2_with fail
  go_loop [3, 9] (CrcRel bs) (fun _ k => bs.length - (intOf k).toNat)
  case atStart => exact ⟨0, Nat.zero_le _, rfl, rfl⟩
  case round =>
    obtain ⟨i, hi, rfl, rfl⟩ := hrel
    have hc32 := crcFrom_lt (bs.take i) (c := 0xffffffff) (by omega)
    by_cases hlt : i < bs.length
    · obtain ⟨x, hx⟩ : ∃ x, bs[i]? = some x := ⟨bs[i], List.getElem?_eq_getElem hlt⟩
      obtain ⟨ad, rfl, hc⟩ := H.out.at' (by omega)
      have c0 := hc i (.int .u8 x.toNat) (by simp [u8s, hx])
      have hlt' : (i : Int) < (bs.length : Int) := by omega
      have HX : Hid (crcFrom 0xffffffff (bs.take (i + 1)) = crcBits 8 (crcFrom 0xffffffff (bs.take i) ^^^ x.toNat)) := Lib.hid (by
        rw [List.take_add_one, hx]; exact crcFrom_snoc _ _ _)
      have hq := bits_xor_u32 _ x.toNat hc32 (by have := x.toNat_lt; omega)
      have hb : crcFrom 0xffffffff (bs.take i) ^^^ x.toNat < 4294967296 := xor_lt32 hc32 (by have := x.toNat_lt; omega)
      have hxl := x.toNat_lt
      clear hx hc
      generalize crcFrom 0xffffffff (bs.take i) = c0' at *
      generalize (x.toNat) = xn at *
      go_wp2_with fail
      go_loop [3, 17] (BitRel (c0' ^^^ xn)) (fun _ k => 8 - (intOf k).toNat)
      case atStart => exact ⟨0, by omega, rfl, by simp [crcBits]⟩
      case round =>
        obtain ⟨j, hj, rfl, rfl⟩ := hrel
        have hcb := crcBits_lt j hb
        have HS := Lib.hid (crcBits_succ j (c0' ^^^ xn))
        clear hq
        by_cases hjl : j < 8
        · have q1 := and_one hcb
          have q2 := xor_poly hcb
          generalize crcBits j (c0' ^^^ xn) = cj at *
          have hjl' : (j : Int) < 8 := by omega
          by_cases h2 : cj % 2 = 1
          · have HB : Hid (crcBit cj = (cj / 2) ^^^ 0x82f63b78) := Lib.hid (by rw [crcBit, if_pos h2])
            have q3 : (((cj % 2 : Nat) : Int) == 1) = true := by rw [h2]; rfl
            clear h2
            go_wp2_with fail
            go_round
            case rel => exact ⟨j + 1, by omega, by go_num, by rw [HS.out, HB.out]⟩
            case measure => simp [intOf]; omega
          · have HB : Hid (crcBit cj = cj / 2) := Lib.hid (by rw [crcBit, if_neg h2])
            have q3 : (((cj % 2 : Nat) : Int) == 1) = false := by rw [beq_eq_false_iff_ne]; omega
            clear h2
            go_wp2_with fail
            go_round
            case rel => exact ⟨j + 1, by omega, by go_num, by rw [HS.out, HB.out]; simp⟩
            case measure => simp [intOf]; omega
        · obtain rfl : j = 8 := by omega
          go_wp2_with fail
          go_round
          case rel => exact ⟨i + 1, by omega, by go_num, by rw [HX.out]⟩
          case measure => simp [intOf]; omega
    · have hil : i = bs.length := by omega
      subst hil
      have hq := bits_xor_u32 4294967295 (crcFrom 0xffffffff (bs.take bs.length)) (by omega) hc32
      have HE : Hid (crc bs = crcFrom 0xffffffff (bs.take bs.length) ^^^ 4294967295) := Lib.hid (by rw [List.take_length]; rfl)
      have hb := crcFrom_lt (bs.take bs.length) (c := 0xffffffff) (by omega)
      generalize crcFrom 0xffffffff (bs.take bs.length) = cc at *
      go_wp2_with fail
      go_ret
      refine ⟨?_, rfl⟩
      rw [HE.out]
      show Ending.returned (.int .u32 (bits .xor .u32 IntKind.u32.max (cc : Int))) = _
      rw [show IntKind.u32.max = ((4294967295 : Nat) : Int) by rfl, hq, Nat.xor_comm]
end Go.Proofs.YtogclkhpbjfadaaGreat
