/- Rows.PathPlaysSaid -/
import Derived.Test.YtgapbecddgfkmaaGreatPY16
import Derived.Test.YtgapbecddgfkmaaGreatPY19
import Derived.Test.YtgapbecddgfkmaaGreatPY20
namespace Go.Proofs.YtgapbecddgfkmaaGreat
open Go.RowKit
set_option linter.unusedVariables false
set_option maxHeartbeats 64000000
set_option maxRecDepth 100000
theorem r1_fix {a b c : Nat} (ha : a < 65536) (hb : b < 65536) (hc : c < 65536) (w : World) : Calls Tryz.prog 90 #[.int .u16 a, .int .u16 b, .int .u16 c] w fun e w' => e = .returned (.int .u16 (fixN a b c)) ∧ w' = w := by
  have K := Lib.hid (r1_fold (s := (65535 - a) + (65535 - b) + c) (by omega) w)
  have HE : Hid (fixN a b c = 65535 - foldN ((65535 - a) + (65535 - b) + c)) := Lib.hid rfl
  have q1 := not16 (n := a) (by omega)
  have q2 := not16 (n := b) (by omega)
  have l1 : 65535 - a < 65536 := by omega
  have l2 : 65535 - b < 65536 := by omega
  generalize 65535 - a = na at *
  generalize 65535 - b = nb at *
  have HQ : Hid (((na : Int) + (nb : Int) + (c : Int)) % 4294967296 = ((na + nb + c : Nat) : Int)) := Lib.hid (by omega)
  go_enter Tryz.func90, Tryz.ntmps90
  go_wp2_with fail
  rw [HQ.out]
  refine K.out.mono ?_
  rintro e w1 ⟨rfl, rfl⟩
  clear K
  go_wp2_with fail
  go_ret
  exact ⟨by rw [HE.out]; rfl, rfl⟩
theorem andnot1 : ∀ n : Nat, n < 8 → bits .andNot .i64 (n : Int) 1 = ((n / 2 * 2 : Nat) : Int) := by decide
theorem byN_take {b : List UInt8} {n i : Nat} (h : i < n) : byN (b.take n) i = byN b i := by
  unfold byN; rw [List.getD_eq_getElem?_getD, List.getD_eq_getElem?_getD, List.getElem?_take_of_lt h]
theorem p16_take {b : List UInt8} {n i : Nat} (h : i + 1 < n) : p16 (b.take n) i = p16 b i := by
  unfold p16; rw [byN_take (by omega), byN_take (by omega)]
section
variable {F0 : List Nat} {w0 w : World} {R : List Asrt} {b : List UInt8}
theorem o_r20wrap (h : In F0 w0 w R) {A : Option Addr} {c : Nat} (hb : Bytes F0 w0 R A c b) (hm : b.length ≤ 100000000) {self dst : Int} (mtu : Int) (s0 : 0 ≤ self) (s1 : self < 4294967296) (t0 : 0 ≤ dst) (t1 : dst < 4294967296) :
    Calls Tryz.prog 55 #[.slice A b.length c, .int .u32 self, .int .u32 dst, .int .i64 mtu] w (WrapPost b self dst mtu F0 w0 R) := by
  have K0 := o_r20parse h hb hm
  have HW : wrapD b self dst mtu = wrapOf b self dst mtu (parseD b) := rfl
  have HOK := parse_ok (b := b)
  have HLN := parse_len2 (b := b)
  unfold ParsePost at K0
  have HB := Lib.hid hb
  have HM := Lib.hid hm
  have HS := Lib.hid (And.intro (And.intro s0 s1) (And.intro t0 t1))
  generalize parseD b = pd at *
  obtain ⟨hd, rest, why⟩ := pd
  have K := Lib.hid K0
  clear h hb hm K0 s0 s1 t0 t1
  by_cases hw : why = 0
  case neg =>
    obtain ⟨a0, a1, a2, a3, a4, a5, a6, a7, a8, a9, a10⟩ := hd
    have ee : encH ⟨a0, a1, a2, a3, a4, a5, a6, a7, a8, a9, a10⟩ = hC a0 a1 a2 a3 a4 a5 a6 a7 a8 a9 a10 := rfl
    simp only [ee] at K
    have HE := Lib.hid (fun W (hW : In F0 w0 W R) => WrapPost.err (b := b) (self := self) (dst := dst) (mtu := mtu) (r := why) hW (by rw [HW]; unfold wrapOf; exact if_pos hw))
    have hw' : (why != 0) = true := by rw [bne_iff_ne]; exact hw
    clear HW HOK HLN hw ee
    go_enter Tryz.func55, Tryz.ntmps55
    go_wp2_with fail
    refine K.out.mono ?_
    rintro e w1 ⟨v, rfl, ho⟩
    have G := Lib.hid (HE.out _ ((ho.alloc (.cells (hC a0 a1 a2 a3 a4 a5 a6 a7 a8 a9 a10) 84)).drop))
    clear ho K HE
    go_wp2_with fail
    go_ret2
    exact G.out
  have hd1 := HOK hw
  obtain ⟨l20, lb⟩ := HLN hw
  subst hw hd1
  have HW2 : Hid (wrapD b self dst mtu = if ((byN b 8 : Nat) : Int) ≤ 1 then ([], 7) else if min mtu 2000 < ((p16 b 2 : Nat) : Int) + 20 then ([], 11) else
      (buildD ⟨0, byN b 1, ((p16 b 2 : Nat) : Int) + 20, p16 b 4, ((p16 b 6 / 8192 : Nat) : Int) / 2 * 2, 0, 64, 4, 0, self, dst⟩ ++ olderD (b.take (p16 b 2)), 0)) :=
    Lib.hid (by rw [HW]; unfold wrapOf; exact if_neg (show ¬ ((0 : Int) ≠ 0) by decide))
  have HE : encH (readH b) = hC ((byN b 0 % 16 : Nat) : Int) (byN b 1) (p16 b 2) (p16 b 4) ((p16 b 6 / 8192 : Nat) : Int) ((p16 b 6 % 8192 : Nat) : Int) (byN b 8) (byN b 9) (p16 b 10) (p32 b 12) (p32 b 16) := rfl
  simp only [HE] at K
  have l2 := p16_lt b 2
  have lf : p16 b 6 / 8192 < 8 := by have := p16_lt b 6; omega
  have q6 := andnot1 _ lf
  have HF : Hid (((p16 b 6 / 8192 / 2 * 2 : Nat) : Int) = ((p16 b 6 / 8192 : Nat) : Int) / 2 * 2) := Lib.hid (by omega)
  clear HW HOK HLN HE
  have HP8 : Hid (p16 b 8 = byN b 8 * 256 + byN b 9) := Lib.hid rfl
  have lx8 := byN_lt b 8
  have lx9 := byN_lt b 9
  have lx10 := p16_lt b 10
  have HB8 : Hid (∀ n, 20 ≤ n → byN (b.take n) 8 = byN b 8 ∧ byN (b.take n) 9 = byN b 9 ∧ p16 (b.take n) 10 = p16 b 10 ∧ p16 (b.take n) 8 = byN b 8 * 256 + byN b 9) := Lib.hid (fun n hn => ⟨byN_take (by omega), byN_take (by omega), p16_take (by omega), p16_take (by omega)⟩)
  generalize byN b 0 % 16 = n0 at *
  generalize byN b 1 = n1 at *
  generalize p16 b 2 = n2 at *
  generalize p16 b 4 = n4 at *
  generalize p16 b 6 / 8192 = nf at *
  generalize p16 b 6 % 8192 = n7 at *
  generalize byN b 8 = n8 at *
  generalize byN b 9 = n9 at *
  generalize p16 b 10 = n10 at *
  generalize p32 b 12 = n12 at *
  generalize p32 b 16 = n16 at *
  have w0' : ((0 : Int) != 0) = false := rfl
  have qa : IntKind.i64.wrap ((n2 : Int) + 20) = (n2 : Int) + 20 := IntWalk.i64_in _ (by omega)
  have HLF : Hid (nf / 2 * 2 < 8) := Lib.hid (by omega)
  have HLN := Lib.hid (And.intro l20 (And.intro lb l2))
  generalize nf / 2 * 2 = mf at *
  have HLX := Lib.hid (And.intro lx8 (And.intro lx9 lx10))
  clear l20 lb l2 lf lx8 lx9 lx10
  go_enter Tryz.func55, Tryz.ntmps55
  go_wp2_with fail
  refine K.out.mono ?_
  rintro e w1 ⟨v, rfl, ho⟩
  clear K
  have ho2 := (ho.cells (hC n0 n1 n2 n4 nf n7 n8 n9 n10 n12 n16) 84)
  clear ho
  go_upto_region 2 with fail
  generalize w1.heap.size = g at *
  generalize (w1.alloc (.cells (hC n0 n1 n2 n4 nf n7 n8 n9 n10 n12 n16) 84)) = W at *
  have i1 : W.cell? ⟨g, 1, none⟩ = some (.int .i64 (n1 : Nat)) := cell_of (ho2.block 0 rfl) rfl
  have i2 : W.cell? ⟨g, 2, none⟩ = some (.int .i64 (n2 : Nat)) := cell_of (ho2.block 0 rfl) rfl
  have i3 : W.cell? ⟨g, 3, none⟩ = some (.int .i64 (n4 : Nat)) := cell_of (ho2.block 0 rfl) rfl
  have i4 : W.cell? ⟨g, 4, none⟩ = some (.int .i64 (nf : Nat)) := cell_of (ho2.block 0 rfl) rfl
  have i7 : W.cell? ⟨g, 7, none⟩ = some (.int .i64 (n9 : Nat)) := cell_of (ho2.block 0 rfl) rfl
  have i8' : W.cell? ⟨g, 8, none⟩ = some (.int .i64 (n10 : Nat)) := cell_of (ho2.block 0 rfl) rfl
  have i6 : W.cell? ⟨g, 6, none⟩ = some (.int .i64 (n8 : Nat)) := cell_of (ho2.block 0 rfl) rfl
  have HO := Lib.hid ho2
  clear ho2
  by_cases h8 : n8 ≤ 1
  · have G := Lib.hid (WrapPost.err (b := b) (self := self) (dst := dst) (mtu := mtu) (r := 7) HO.out.drop.drop (by rw [HW2.out, if_pos (by omega)]))
    have h8' : (n8 : Int) ≤ 1 := by omega
    clear HW2 HO HB HF HLF HLN h8 q6
    go_wp2_with fail
    go_ret2
    exact G.out
  have h8' : ¬ ((n8 : Int) ≤ 1) := by omega
  have h8'' : decide ((n8 : Int) ≤ 1) = false := decide_eq_false h8'
  have err11 : min mtu 2000 < (n2 : Int) + 20 → Hid (WrapPost b self dst mtu F0 w0 R (.returned (.tuple #[.slice none 0 0, .int .i64 11])) W) := fun hm11 => Lib.hid (WrapPost.err (b := b) (self := self) (dst := dst) (mtu := mtu) (r := 11) HO.out.drop.drop (by rw [HW2.out, if_neg (by omega), if_pos hm11]))
  by_cases hm1 : mtu < (n2 : Int) + 20
  · have G := err11 (by omega)
    have qm1 : decide (mtu < (n2 : Int) + 20) = true := decide_eq_true hm1
    clear HW2 HO HB HF HLF HLN h8 q6 err11 hm1
    go_wp2_with fail
    go_ret2
    exact G.out
  have qm1 : decide (mtu < (n2 : Int) + 20) = false := decide_eq_false hm1
  by_cases hm2 : 2000 < (n2 : Int) + 20
  · have G := err11 (by omega)
    have qm2 : decide ((2000 : Int) < (n2 : Int) + 20) = true := decide_eq_true hm2
    clear HW2 HO HB HF HLF HLN h8 q6 err11 hm1 hm2
    go_wp2_with fail
    go_ret2
    exact G.out
  have qm2 : decide ((2000 : Int) < (n2 : Int) + 20) = false := decide_eq_false hm2
  obtain ⟨l20, lb, l2⟩ := HLN.out
  obtain ⟨ga, oa, rfl⟩ := HB.out.some (by omega)
  have HF2 : Hid (wrapD b self dst mtu = (buildD ⟨0, n1, (n2 : Int) + 20, n4, mf, 0, 64, 4, 0, self, dst⟩ ++ olderD (b.take n2), 0)) := Lib.hid (by rw [HW2.out, if_neg (by omega), if_neg (by omega), HF.out])
  have KB := Lib.hid (o_r20build (a0 := 0) (a1 := n1) (a2 := (n2 : Int) + 20) (a3 := n4) (a6 := 64) (a7 := 4) (a8 := 0) HO.out HLF.out HS.out.1.1 HS.out.1.2 HS.out.2.1 HS.out.2.2)
  have hpre : ∀ w, (Instr.slice 35 (.slice (some ⟨ga, oa, none⟩) b.length c) none (some (.int .i64 (n2 : Nat))) none).run Tryz.prog w = .ok (.slice (some ⟨ga, oa, none⟩) n2 c) w := fun w => run_pre_at ga oa b.length c n2 (by have := HB.out.cap; omega) w
  obtain ⟨bt, hbt⟩ : ∃ bt, bt = b.take n2 := ⟨_, rfl⟩
  have htk : bt.length = n2 := by rw [hbt, List.length_take]; omega
  have hb2 : Bytes F0 w0 R (some ⟨ga, oa, none⟩) c bt := by rw [hbt]; exact HB.out.pre (n := n2) lb
  have hb8 := HB8.out n2 l20
  rw [← hbt] at hb8 HF2
  have HBT := Lib.hid (And.intro hb8 htk)
  have HO8 : Hid (olderD bt = ((bt.set 8 (UInt8.ofNat (n8 + 255))).set 10 (UInt8.ofNat (fixN n10 (n8 * 256 + n9) ((n8 - 1) * 256 + n9) / 256))).set 11 (UInt8.ofNat (fixN n10 (n8 * 256 + n9) ((n8 - 1) * 256 + n9)))) := Lib.hid (by
    unfold olderD
    dsimp only
    have hx := HLX.out
    have e1 : p16 (bt.set 8 (UInt8.ofNat (byN bt 8 + 255))) 8 = (n8 - 1) * 256 + n9 := by
      show byN _ 8 * 256 + byN _ 9 = _
      rw [byN_set_ne _ _ (by omega : (9 : Nat) ≠ 8), hb8.2.1, hb8.1]
      have : byN (bt.set 8 (UInt8.ofNat (n8 + 255))) 8 = n8 - 1 := by
        unfold byN
        rw [List.getD_eq_getElem?_getD, List.getElem?_set_self (by omega)]
        show (UInt8.ofNat (n8 + 255)).toNat = _
        simp; omega
      rw [this]
    rw [e1, hb8.1, hb8.2.2.1, hb8.2.2.2])
  have HB2 := Lib.hid hb2
  have HLM : Hid (20 ≤ n2 ∧ n2 ≤ 1980) := Lib.hid ⟨l20, by omega⟩
  clear HW2 HB HF HLF HLN h8 l20 lb l2 htk hb2 hb8 hbt err11 hm1 hm2 HB8
  go_wp2_with fail
  refine KB.out.mono ?_
  rintro e w2 ⟨vb, rfl, ho⟩
  obtain ⟨pa, pc, rfl⟩ := ByR.shape ho
  have d2 : w2.cell? ⟨g, 2, none⟩ = some (.int .i64 (n2 : Nat)) := cell_of (ho.block 1 rfl) rfl
  have H2 := Lib.hid (ho.rownil 5 1)
  have hsr := HB2.out.src _ (show In F0 w0 w2 R from ho.drop.drop.drop)
  rw [HBT.out.2] at hsr
  have SR := Lib.hid hsr
  clear ho KB HO i1 i2 i3 i4 i6 i7 i8' q6 hsr
  clear qm1 qm2 qa
  go_wp2_with (at_builtin; refine app_list rfl H2.out 0 rfl (.const (.slice none 0 0)) (.tmp 56) 35 (by rfl) Tryz.underlying35 infoByte (by decide) (by decide) (by rfl) (by rfl) SR.out (u8s_one _) (by have := HLM.out; omega) ?_)
  intro v3 w3 ho hg
  obtain ⟨hd, hhd⟩ : ∃ hd, hd = buildD ⟨0, n1, (n2 : Int) + 20, n4, mf, 0, 64, 4, 0, self, dst⟩ := ⟨_, rfl⟩
  rw [← hhd] at ho HF2
  rw [← hhd]
  have hlhd : hd.length = 20 := by rw [hhd, buildD_length]
  have h3 : In F0 w0 w3 (ByR v3 bt :: ByR (.slice pa hd.length pc) hd :: Cells g (hC n0 n1 n2 n4 nf n7 n8 n9 n10 n12 n16) 84 :: ByR v rest :: R) := by
    show In F0 w0 w3 (RowA 5 1 v3 bt.length (u8s bt) :: _)
    rw [HBT.out.2]; exact ho
  obtain ⟨a, cp, rfl⟩ := ByR.shape h3
  have hl20 : 20 ≤ bt.length ∧ bt.length ≤ 1980 := by have := HBT.out.2; have := HLM.out; omega
  obtain ⟨gi, rfl⟩ : ∃ g, a = some ⟨g, 0, none⟩ := by
    obtain ⟨F, r⟩ := h3.get 0 rfl
    obtain ⟨a', c', e, _, _, hat⟩ := RowA.shape r
    cases e
    obtain ⟨g, e2, _⟩ := hat 0 _ (u8s_get (by omega))
    exact ⟨g, e2⟩
  obtain ⟨c8, f8⟩ := row_byte h3 0 rfl (k := 8) (by omega)
  rw [HBT.out.1.1] at c8
  obtain ⟨m8, hm8⟩ : ∃ m8 : Nat, n8 = m8 + 1 := ⟨n8 - 1, by omega⟩
  have hx := HLX.out
  have hv8 : ((m8 : Nat) : Int) = (((UInt8.ofNat (n8 + 255)).toNat : Nat) : Int) := by simp; omega
  have HO3 := Lib.hid (row_setb h3 0 rfl (k := 8) (by omega) (UInt8.ofNat (n8 + 255)) hv8)
  have qs8 : IntKind.u8.wrap ((n8 : Int) - 1) = (m8 : Int) := by
    rw [show ∀ n, IntKind.u8.wrap n = n % 256 from fun n => by simp [IntKind.wrap, IntKind.bits, IntKind.signed]]; omega
  have HM8 := Lib.hid (And.intro hm8 (And.intro hl20 hlhd))
  rw [show n8 - 1 = m8 by omega] at HO8
  have i8 : (8 : Int) < (bt.length : Int) := by omega
  clear ho h3 hg H2 SR hv8 hm8 hl20 hlhd hhd hx d2 h8' h8''
  go_upto_region 11 with fail
  generalize (w3.setCell ⟨gi, 8, none⟩ (.int .u8 (m8 : Nat))) = w4 at *
  have hb : (w4.heap[g]? = some (.cells (hC n0 n1 n2 n4 nf n7 n8 n9 n10 n12 n16) 84 (0, 0))) := HO3.out.block 2 rfl
  have j6 : w4.cell? ⟨g, 6, none⟩ = some (.int .i64 (n8 : Nat)) := cell_of hb rfl
  have j7 : w4.cell? ⟨g, 7, none⟩ = some (.int .i64 (n9 : Nat)) := cell_of hb rfl
  have j8 : w4.cell? ⟨g, 8, none⟩ = some (.int .i64 (n10 : Nat)) := cell_of hb rfl
  have hx := HLX.out
  have hm8 := HM8.out.1
  have k1 : IntKind.u16.wrap (n10 : Int) = (n10 : Int) := u16_small (by omega)
  have k2 : IntKind.u16.wrap (n8 : Int) = (n8 : Int) := u16_small (by omega)
  have k3 : IntKind.u16.wrap (n9 : Int) = (n9 : Int) := u16_small (by omega)
  have k4 : IntKind.i64.wrap ((n8 : Int) - 1) = (m8 : Int) := by rw [IntWalk.i64_in _ (by omega)]; omega
  have k5 : IntKind.u16.wrap (m8 : Int) = (m8 : Int) := u16_small (by omega)
  have k6 : IntKind.u16.wrap ((n8 : Int) * 256) = (n8 : Int) * 256 := by
    rw [show ∀ n, IntKind.u16.wrap n = n % 65536 from fun n => by simp [IntKind.wrap, IntKind.bits, IntKind.signed]]; omega
  have k7 : IntKind.u16.wrap ((m8 : Int) * 256) = (m8 : Int) * 256 := by
    rw [show ∀ n, IntKind.u16.wrap n = n % 65536 from fun n => by simp [IntKind.wrap, IntKind.bits, IntKind.signed]]; omega
  have k8 := or_pair16 (x := n8) (y := n9) (by omega) (by omega)
  have k9 := or_pair16 (x := m8) (y := n9) (by omega) (by omega)
  have KF := Lib.hid (r1_fix (a := n10) (b := n8 * 256 + n9) (c := m8 * 256 + n9) (by omega) (by omega) (by omega) w4)
  have hf := fixN_lt n10 (n8 * 256 + n9) (m8 * 256 + n9)
  generalize hff : fixN n10 (n8 * 256 + n9) (m8 * 256 + n9) = ff at *
  clear hb hff hx hm8 c8 f8
  generalize n8 * 256 + n9 = z1 at *
  generalize m8 * 256 + n9 = z2 at *
  go_wp2_with fail
  refine KF.out.mono ?_
  rintro e w6 ⟨rfl, rfl⟩
  clear KF j6 j7 j8 k1 k2 k3 k4 k5 k6 k7 k8 k9 qs8
  obtain ⟨-, ⟨l1, l2⟩, l3⟩ := HM8.out
  obtain ⟨c10, f10⟩ := row_byte HO3.out 0 rfl (k := 10) (by rw [List.length_set]; omega)
  have hv1 : (ff : Int) / 256 = (((UInt8.ofNat (ff / 256)).toNat : Nat) : Int) := by simp; omega
  have hv2 : (ff : Int) % 256 = (((UInt8.ofNat ff).toNat : Nat) : Int) := by simp
  have h6 := row_setb HO3.out 0 rfl (k := 10) (by rw [List.length_set]; omega) (UInt8.ofNat (ff / 256)) hv1
  obtain ⟨c11, f11⟩ := row_byte HO3.out 0 rfl (k := 11) (by rw [List.length_set]; omega)
  have h7 := row_setb h6 0 rfl (k := 11) (by rw [List.length_set, List.length_set]; omega) (UInt8.ofNat ff) hv2
  have H7 : Hid (In F0 w0 ((w6.setCell ⟨gi, 10, none⟩ (.int .u8 ((ff : Int) / 256))).setCell ⟨gi, 11, none⟩ (.int .u8 ((ff : Int) % 256))) (ByR (.slice (some ⟨gi, 0, none⟩) bt.length cp) (olderD bt) :: ByR (.slice pa hd.length pc) hd :: Cells g (hC n0 n1 n2 n4 nf n7 n8 n9 n10 n12 n16) 84 :: ByR v rest :: R)) := Lib.hid (by rw [HO8.out]; exact h7)
  have i10 : (10 : Int) < (bt.length : Int) := by omega
  have i11 : (11 : Int) < (bt.length : Int) := by omega
  have hlo : (olderD bt).length = bt.length := by unfold olderD; simp only [List.length_set]
  have hss := ByR.src H7.out 0 rfl
  rw [hlo] at hss
  have SS := Lib.hid hss
  have HLL := Lib.hid (And.intro (And.intro l1 l2) l3)
  have HLO := Lib.hid hlo
  clear h6 h7 HO3 hv1 hv2 l1 l2 l3 hlo hss HO8 i8
  go_wp2_with (at_builtin; refine app_list rfl H7.out 1 rfl (.tmp 93) (.tmp 94) 35 (by rfl) Tryz.underlying35 infoByte (by decide) (by decide) (by rfl) (by rfl) SS.out (u8s_one _) (by have := HLL.out; omega) ?_)
  intro v4 w7 ho4 hg
  have G4 : Hid (In F0 w0 w7 (ByR v4 (hd ++ olderD bt) :: R)) := Lib.hid (by_app (x := hd) (y := olderD bt) (by rw [HLO.out]; exact ho4.sel2 (R1 := [_, _, _, _]) (R2 := R) [1] (by decide) rfl))
  clear ho4 hg SS H7
  go_wp2_with fail
  go_ret2
  exact ⟨_, by rw [HF2.out]; rfl, by rw [HF2.out]; exact G4.out⟩
end
end Go.Proofs.YtgapbecddgfkmaaGreat
