/- Rows.PathPlaysSaid -/
import Derived.Test.YtgapbecddgfkmaaGreatPY15
import Derived.Test.YtgapbecddgfkmaaGreatPY11
import Derived.Test.YtgapbecddgfkmaaGreatPY3
import Derived.Laws.StructEq
namespace Go.Proofs.YtgapbecddgfkmaaGreat
open Go.RowKit
set_option linter.unusedVariables false
set_option maxHeartbeats 64000000
set_option maxRecDepth 100000
theorem or_pair16 {x y : Nat} (hx : x < 256) (hy : y < 256) : bits .or .u16 ((x : Int) * 256) (y : Int) = ((x * 256 + y : Nat) : Int) := by
  have ho : (x * 256) ||| y < 2 ^ 16 := Nat.or_lt_two_pow (by omega) (by omega)
  have h1 : (BitVec.ofInt 16 ((x * 256 : Nat) : Int)).toNat = x * 256 := by
    rw [BitVec.ofInt_natCast, BitVec.toNat_ofNat]; exact Nat.mod_eq_of_lt (by omega)
  have h2 : (BitVec.ofInt 16 (y : Int)).toNat = y := by
    rw [BitVec.ofInt_natCast, BitVec.toNat_ofNat]; exact Nat.mod_eq_of_lt (by omega)
  rw [show ((x : Int) * 256) = ((x * 256 : Nat) : Int) by omega]
  show IntKind.u16.wrap ((BitVec.ofInt 16 ((x * 256 : Nat) : Int) ||| BitVec.ofInt 16 (y : Int)).toNat : Int) = _
  rw [BitVec.toNat_or, h1, h2]
  rw [show ∀ n, IntKind.u16.wrap n = n % 65536 from fun n => by simp [IntKind.wrap, IntKind.bits, IntKind.signed]]
  have e : (x * 256) ||| y = x * 256 + y := by
    rw [show x * 256 = x * 2 ^ 8 by omega]; exact or_add x y 8 (by omega)
  rw [e]; omega
theorem en_pair {w : World} {A : Option Addr} {bs : List UInt8} {c i : Nat} (h : Src w A bs.length 1 (u8s bs)) (hi : i + 1 < bs.length) (hi2 : i < 1000) :
    Calls Tryz.prog 119 #[.slice A bs.length c, .int .i64 i] w fun e w' => e = .returned (.int .u16 (p16 bs i)) ∧ ∃ k, w' = w.drewN k := by
  obtain ⟨g, o, rfl, hc⟩ := h.plain (by omega) (by decide)
  have c0 := hc i _ (u8s_get (by omega))
  have c1 := hc (i + 1) _ (u8s_get (by omega))
  have hx := byN_lt bs i
  have hy := byN_lt bs (i + 1)
  have HE : Hid (p16 bs i = byN bs i * 256 + byN bs (i + 1)) := Lib.hid rfl
  generalize byN bs i = x at *
  generalize byN bs (i + 1) = y at *
  have q1 : IntKind.u16.wrap ((x : Int) * 256) = (x : Int) * 256 := by
    rw [show ∀ n, IntKind.u16.wrap n = n % 65536 from fun n => by simp [IntKind.wrap, IntKind.bits, IntKind.signed]]; omega
  have q2 := or_pair16 hx hy
  have i0 : (i : Int) < (bs.length : Int) := by omega
  have i1 : (i : Int) + 1 < (bs.length : Int) := by omega
  have i2 : IntKind.i64.wrap ((i : Int) + 1) = (i : Int) + 1 := IntWalk.i64_in _ (by omega)
  have i3 : ((i : Int) + 1).toNat = i + 1 := by omega
  have q3 : IntKind.u16.wrap (x : Int) = (x : Int) := u16_small (by omega)
  have q4 : IntKind.u16.wrap (y : Int) = (y : Int) := u16_small (by omega)
  clear h hc
  go_enter Tryz.func119, Tryz.ntmps119
  go_wp2_with fail
  go_quiet (fail)
  go_wp2_with fail
  go_ret
  exact ⟨by rw [HE.out]; rfl, _, rfl⟩
section
variable {F0 : List Nat} {w0 w : World} {R : List Asrt}
theorem row_byte {g n cap k : Nat} {bs : List UInt8} (h : In F0 w0 w R) (i : Nat) (hA : R[i]? = some (ByR (.slice (some ⟨g, 0, none⟩) n cap) bs)) (hk : k < bs.length) : w.cell? ⟨g, k, none⟩ = some (.int .u8 (byN bs k)) ∧ w.frozen? ⟨g, k, none⟩ = false := by
  obtain ⟨F, r⟩ := h.get i hA
  obtain ⟨ad, e, hc⟩ := (ByR.src h i hA).at' (by omega)
  cases e
  have := hc k _ (u8s_get hk)
  rw [add_at, Nat.zero_add] at this
  refine ⟨this, ?_⟩
  have ht := (RowA.there r (o := k) (m := 1) (by rw [u8s_length]; omega)) 0 (by omega)
  exact ht.2
theorem u8s_set (bs : List UInt8) (k : Nat) (x : UInt8) : u8s (bs.set k x) = (u8s bs).set k (.int .u8 x.toNat) := by simp [u8s, List.map_set]
theorem putAt_one {xs : List Value} {k : Nat} (v : Value) (hk : k < xs.length) : putAt xs k [v] = xs.set k v := by
  unfold putAt
  rw [List.set_eq_take_append_cons_drop, if_pos hk]; simp
theorem row_setb {g n cap k : Nat} {bs : List UInt8} (h : In F0 w0 w R) (i : Nat) (hA : R[i]? = some (ByR (.slice (some ⟨g, 0, none⟩) n cap) bs)) (hk : k < bs.length) (x : UInt8) {v : Int} (hv : v = (x.toNat : Int)) :
    In F0 w0 (w.setCell ⟨g, k, none⟩ (.int .u8 v)) (R.set i (ByR (.slice (some ⟨g, 0, none⟩) n cap) (bs.set k x))) := by
  have h1 := row_put h i hA (o := k) (us := [.int .u8 v]) (by rw [u8s_length]; simp; omega)
  rw [putAt_one _ (by rw [u8s_length]; omega), hv, ← u8s_set] at h1
  unfold ByR
  rw [List.length_set, hv]
  exact h1
theorem byN_set_ne (bs : List UInt8) {k j : Nat} (x : UInt8) (h : j ≠ k) : byN (bs.set k x) j = byN bs j := by
  unfold byN; rw [List.getD_eq_getElem?_getD, List.getD_eq_getElem?_getD, List.getElem?_set_ne (Ne.symm h)]
theorem o_enolder (h : In F0 w0 w R) {A : Option Addr} {c : Nat} {b : List UInt8} (hb : Bytes F0 w0 R A c b) (hl : 20 ≤ b.length) (hm : b.length ≤ 100000000) :
    Calls Tryz.prog 81 #[.slice A b.length c] w fun e w' => ∃ v, e = .returned v ∧ In F0 w0 w' (ByR v (olderD b) :: R) := by
  have K0 := Lib.hid (o_clone (c := c) h hb.nil (hb.src w h) hm)
  have HO : Hid (olderD b = ((b.set 8 (UInt8.ofNat (byN b 8 + 255))).set 10 (UInt8.ofNat (fixN (p16 b 10) (p16 b 8) (p16 (b.set 8 (UInt8.ofNat (byN b 8 + 255))) 8) / 256))).set 11 (UInt8.ofNat (fixN (p16 b 10) (p16 b 8) (p16 (b.set 8 (UInt8.ofNat (byN b 8 + 255))) 8)))) := Lib.hid rfl
  have x8 := byN_lt b 8
  have HP : Hid (p16 (b.set 8 (UInt8.ofNat (byN b 8 + 255))) 10 = p16 b 10) := Lib.hid (by unfold p16; rw [byN_set_ne _ _ (by omega), byN_set_ne _ _ (by omega)])
  have HV : Hid ((((byN b 8 : Nat) : Int) - 1) % 256 = (((UInt8.ofNat (byN b 8 + 255)).toNat : Nat) : Int)) := Lib.hid (by simp; omega)
  have HL := Lib.hid (And.intro hl hm)
  have i8 : (8 : Int) < (b.length : Int) := by omega
  have i10 : (10 : Int) < (b.length : Int) := by omega
  have i11 : (11 : Int) < (b.length : Int) := by omega
  have lb := HL.out
  clear h hb hl hm
  go_enter Tryz.func81, Tryz.ntmps81
  go_wp2_with fail
  refine K0.out.mono ?_
  rintro e w1 ⟨v, rfl, ho⟩
  obtain ⟨a, cp, rfl⟩ := ByR.shape ho
  obtain ⟨g, rfl⟩ : ∃ g, a = some ⟨g, 0, none⟩ := by
    obtain ⟨F, r⟩ := ho.get 0 rfl
    obtain ⟨a', c', e, _, _, hat⟩ := RowA.shape r
    cases e
    obtain ⟨g, e2, _⟩ := hat 0 _ (u8s_get (by omega))
    exact ⟨g, e2⟩
  have KP := Lib.hid (en_pair (c := cp) (i := 8) (ByR.src ho 0 rfl) (by omega) (by omega))
  have HO1 := Lib.hid ho
  clear ho K0
  go_wp2_with fail
  refine KP.out.mono ?_
  rintro e w2 ⟨rfl, k, rfl⟩
  have HO2 := Lib.hid (HO1.out.drewN k)
  clear HO1 KP
  generalize w1.drewN k = w2 at *
  obtain ⟨c8, f8⟩ := row_byte HO2.out 0 rfl (k := 8) (by omega)
  have HO3 := Lib.hid (row_setb HO2.out 0 rfl (k := 8) (by omega) (UInt8.ofNat (byN b 8 + 255)) HV.out)
  have hlc : (b.set 8 (UInt8.ofNat (byN b 8 + 255))).length = b.length := List.length_set
  obtain ⟨bc, hbc⟩ : ∃ bc, bc = b.set 8 (UInt8.ofNat (byN b 8 + 255)) := ⟨_, rfl⟩
  rw [← hbc] at HO HP HO3 hlc
  have KP1 : Hid (∀ W, In F0 w0 W (ByR (.slice (some ⟨g, 0, none⟩) b.length cp) bc :: R) → ∀ i, i + 1 < b.length → i < 1000 → Calls Tryz.prog 119 #[.slice (some ⟨g, 0, none⟩) b.length cp, .int .i64 i] W fun e w' => e = .returned (.int .u16 (p16 bc i)) ∧ ∃ k, w' = W.drewN k) := Lib.hid (fun W hW i h1 h2 => by
    have := en_pair (c := cp) (i := i) (ByR.src hW 0 rfl) (by rw [hlc]; exact h1) h2
    rwa [hlc] at this)
  have KA := Lib.hid (KP1.out _ HO3.out 10 (by omega) (by omega))
  have HLC := Lib.hid hlc
  clear hlc HO2 hbc
  go_wp2_with fail
  refine KA.out.mono ?_
  rintro e w3 ⟨rfl, k2, rfl⟩
  have HO4 := Lib.hid (HO3.out.drewN k2)
  have KB := Lib.hid (KP1.out _ HO4.out 8 (by omega) (by omega))
  clear KA HO3 c8 f8 KP1 HV
  go_wp2_with fail
  refine KB.out.mono ?_
  rintro e w4 ⟨rfl, k3, rfl⟩
  have HO5 := Lib.hid (HO4.out.drewN k3)
  clear KB HO4
  generalize (World.drewN (World.drewN _ _) _) = w5 at *
  have KF := Lib.hid (su_fix (p16_lt bc 10) (p16_lt b 8) (p16_lt bc 8) w5)
  have hf := fixN_lt (p16 bc 10) (p16 b 8) (p16 bc 8)
  rw [← HP.out] at HO
  generalize hff : fixN (p16 bc 10) (p16 b 8) (p16 bc 8) = ff at *
  clear hff
  go_wp2_with fail
  refine KF.out.mono ?_
  rintro e w6 ⟨rfl, rfl⟩
  clear KF
  have hl5 := HLC.out
  obtain ⟨c10, f10⟩ := row_byte HO5.out 0 rfl (k := 10) (by omega)
  have hv1 : (ff : Int) / 256 = (((UInt8.ofNat (ff / 256)).toNat : Nat) : Int) := by simp; omega
  have hv2 : (ff : Int) % 256 = (((UInt8.ofNat ff).toNat : Nat) : Int) := by simp
  have h6 := row_setb HO5.out 0 rfl (k := 10) (by omega) (UInt8.ofNat (ff / 256)) hv1
  obtain ⟨c11, f11⟩ := row_byte HO5.out 0 rfl (k := 11) (by omega)
  have h7 := row_setb h6 0 rfl (k := 11) (by rw [List.length_set]; omega) (UInt8.ofNat ff) hv2
  have H7 := Lib.hid h7
  clear h6 h7 HO5 hv1 hv2 hl5
  go_wp2_with fail
  go_ret
  exact ⟨_, rfl, by rw [HO.out]; exact H7.out⟩
end
section
variable {F0 : List Nat} {w0 w : World} {R : List Asrt}
theorem headL_app (h : Hd) {c : Nat} (hc : c < 65536) (ho : h.off = 0) : ((((((((([] ++ be (u64 69) 1) ++ be (u64 h.tos) 1) ++ be (u64 h.len) 2) ++ be (u64 h.id) 2) ++ be (u64 (h.flags * 8192)) 2) ++ be (u64 h.ttl) 1) ++ be (u64 h.proto) 1) ++ be (u64 (c : Int)) 2) ++ be (u64 h.src) 4) ++ be (u64 h.dst) 4 = headL h c := by
  have e1 : be (u64 69) 1 = [69] := rfl
  have e2 : u64 (c : Int) = c := by unfold u64; omega
  unfold headL
  rw [e1, e2, ho, Int.add_zero]; rfl
theorem o_ipbuild1 (h : In F0 w0 w R) (i : Nat) {gb : Nat} {a0 a1 a2 a3 a6 a7 a8 a9 a10 : Int} {fl c : Nat} (hA : R[i]? = some (Cells gb (hC a0 a1 a2 a3 fl 0 a6 a7 a8 a9 a10) 84)) (hf : fl < 8) (hc : c < 65536) (s0 : 0 ≤ a9) (s1 : a9 < 4294967296) (d0 : 0 ≤ a10) (d1 : a10 < 4294967296) :
    Calls Tryz.prog 116 #[.int .u16 c, .pointer (some ⟨gb, 0, none⟩)] w fun e w' => ∃ v, e = .returned v ∧ In F0 w0 w' (ByR v (headL ⟨a0, a1, a2, a3, fl, 0, a6, a7, a8, a9, a10⟩ c) :: R) := by
  have h1 := w_new (h.cells #[.slice none 0 0] 167)
  have HC : Hid (∀ W X, In F0 w0 W (X :: R) → ∀ (k : Nat) v, (hC a0 a1 a2 a3 fl 0 a6 a7 a8 a9 a10)[k]? = some v → W.cell? ⟨gb, k, none⟩ = some v) := Lib.hid (fun W X hW k v hv => cell_of (hW.block (i + 1) (by simpa using hA)) hv)
  have q1 : IntKind.i64.wrap ((fl : Int) * 8192) = (fl : Int) * 8192 := IntWalk.i64_in _ (by omega)
  have q2 : bits .or .i64 ((fl : Int) * 8192) 0 = (fl : Int) * 8192 := by
    have := bits_or_i64 (fl * 8192) 0 (by omega) (by omega)
    rw [Nat.or_zero, show (((fl * 8192 : Nat)) : Int) = (fl : Int) * 8192 by omega] at this
    exact this
  have q3 : bits .and .i64 0 8191 = 0 := by decide
  have qc : wrap64 (c : Int) = (c : Int) := by unfold wrap64; omega
  have HL := Lib.hid (headL_app ⟨a0, a1, a2, a3, fl, 0, a6, a7, a8, a9, a10⟩ hc rfl)
  have HB := Lib.hid (And.intro hf (And.intro hc (And.intro (And.intro s0 s1) (And.intro d0 d1))))
  have K0 : Hid (Calls Tryz.prog 117 #[.pointer (some ⟨w.heap.size, 0, none⟩), .int .i64 69] (w.alloc (.cells #[.slice none 0 0] 167)) fun e w' => e = .returned (.tuple #[]) ∧ In F0 w0 w' (WA w.heap.size ([] ++ be (u64 69) 1) :: R)) := Lib.hid (o_wu8 h1 0 rfl (by simp) 69)
  clear h h1 hA hf hc s0 s1 d0 d1
  go_enter Tryz.func116, Tryz.ntmps116
  go_wp2_with fail
  generalize w.heap.size = g at *
  refine K0.out.mono ?_
  rintro e w1 ⟨rfl, ho⟩
  clear K0
  have K1 := Lib.hid (o_wu8 ho 0 rfl (by simp [be, beTo_length]) a1)
  have c1 : w1.cell? ⟨gb, 1, none⟩ = some (.int .i64 a1) := HC.out _ _ ho 1 _ rfl
  clear ho
  go_wp2_with fail
  refine K1.out.mono ?_
  rintro e w2 ⟨rfl, ho0⟩
  have ho : In F0 w0 w2 (WA g (([] ++ be (u64 69) 1) ++ be (u64 a1) 1) :: R) := ho0
  clear ho0 K1 c1
  have K2 := Lib.hid (o_wu16 ho 0 rfl (by simp [be, beTo_length]) a2)
  have c2 : w2.cell? ⟨gb, 2, none⟩ = some (.int .i64 a2) := HC.out _ _ ho 2 _ rfl
  clear ho
  go_wp2_with fail
  refine K2.out.mono ?_
  rintro e w3 ⟨rfl, ho0⟩
  have ho : In F0 w0 w3 (WA g ((([] ++ be (u64 69) 1) ++ be (u64 a1) 1) ++ be (u64 a2) 2) :: R) := ho0
  clear ho0 K2 c2
  have K1 := Lib.hid (o_wu16 ho 0 rfl (by simp [be, beTo_length]) a3)
  have c3 : w3.cell? ⟨gb, 3, none⟩ = some (.int .i64 a3) := HC.out _ _ ho 3 _ rfl
  clear ho
  go_wp2_with fail
  refine K1.out.mono ?_
  rintro e w4 ⟨rfl, ho0⟩
  have ho : In F0 w0 w4 (WA g (((([] ++ be (u64 69) 1) ++ be (u64 a1) 1) ++ be (u64 a2) 2) ++ be (u64 a3) 2) :: R) := ho0
  clear ho0 K1 c3
  have K2 := Lib.hid (o_wu16 ho 0 rfl (by simp [be, beTo_length]) ((fl : Int) * 8192))
  have c4 : w4.cell? ⟨gb, 4, none⟩ = some (.int .i64 fl) := HC.out _ _ ho 4 _ rfl
  have c5 : w4.cell? ⟨gb, 5, none⟩ = some (.int .i64 0) := HC.out _ _ ho 5 _ rfl
  clear ho
  go_wp2_with fail
  refine K2.out.mono ?_
  rintro e w5 ⟨rfl, ho0⟩
  have ho : In F0 w0 w5 (WA g ((((([] ++ be (u64 69) 1) ++ be (u64 a1) 1) ++ be (u64 a2) 2) ++ be (u64 a3) 2) ++ be (u64 ((fl : Int) * 8192)) 2) :: R) := ho0
  clear ho0 K2 c4 c5
  have K1 := Lib.hid (o_wu8 ho 0 rfl (by simp [be, beTo_length]) a6)
  have c6 : w5.cell? ⟨gb, 6, none⟩ = some (.int .i64 a6) := HC.out _ _ ho 6 _ rfl
  clear ho
  go_wp2_with fail
  refine K1.out.mono ?_
  rintro e w6 ⟨rfl, ho0⟩
  have ho : In F0 w0 w6 (WA g (((((([] ++ be (u64 69) 1) ++ be (u64 a1) 1) ++ be (u64 a2) 2) ++ be (u64 a3) 2) ++ be (u64 ((fl : Int) * 8192)) 2) ++ be (u64 a6) 1) :: R) := ho0
  clear ho0 K1 c6
  have K2 := Lib.hid (o_wu8 ho 0 rfl (by simp [be, beTo_length]) a7)
  have c7 : w6.cell? ⟨gb, 7, none⟩ = some (.int .i64 a7) := HC.out _ _ ho 7 _ rfl
  clear ho
  go_wp2_with fail
  refine K2.out.mono ?_
  rintro e w7 ⟨rfl, ho0⟩
  have ho : In F0 w0 w7 (WA g ((((((([] ++ be (u64 69) 1) ++ be (u64 a1) 1) ++ be (u64 a2) 2) ++ be (u64 a3) 2) ++ be (u64 ((fl : Int) * 8192)) 2) ++ be (u64 a6) 1) ++ be (u64 a7) 1) :: R) := ho0
  clear ho0 K2 c7
  have K1 := Lib.hid (o_wu16 ho 0 rfl (by simp [be, beTo_length]) (c : Int))
  clear ho
  go_wp2_with fail
  refine K1.out.mono ?_
  rintro e w8 ⟨rfl, ho0⟩
  have ho : In F0 w0 w8 (WA g (((((((([] ++ be (u64 69) 1) ++ be (u64 a1) 1) ++ be (u64 a2) 2) ++ be (u64 a3) 2) ++ be (u64 ((fl : Int) * 8192)) 2) ++ be (u64 a6) 1) ++ be (u64 a7) 1) ++ be (u64 (c : Int)) 2) :: R) := ho0
  clear ho0 K1
  have K2 := Lib.hid (o_wu32 ho 0 rfl (by simp [be, beTo_length]) HB.out.2.2.1.1 HB.out.2.2.1.2)
  have c9 : w8.cell? ⟨gb, 9, none⟩ = some (.int .u32 a9) := HC.out _ _ ho 9 _ rfl
  clear ho
  go_wp2_with fail
  refine K2.out.mono ?_
  rintro e w9 ⟨rfl, ho0⟩
  have ho : In F0 w0 w9 (WA g ((((((((([] ++ be (u64 69) 1) ++ be (u64 a1) 1) ++ be (u64 a2) 2) ++ be (u64 a3) 2) ++ be (u64 ((fl : Int) * 8192)) 2) ++ be (u64 a6) 1) ++ be (u64 a7) 1) ++ be (u64 (c : Int)) 2) ++ be (u64 a9) 4) :: R) := ho0
  clear ho0 K2 c9
  have K1 := Lib.hid (o_wu32 ho 0 rfl (by simp [be, beTo_length]) HB.out.2.2.2.1 HB.out.2.2.2.2)
  have c10 : w9.cell? ⟨gb, 10, none⟩ = some (.int .u32 a10) := HC.out _ _ ho 10 _ rfl
  clear ho
  go_wp2_with fail
  refine K1.out.mono ?_
  rintro e w10 ⟨rfl, ho0⟩
  have ho : In F0 w0 w10 (WA g (((((((((([] ++ be (u64 69) 1) ++ be (u64 a1) 1) ++ be (u64 a2) 2) ++ be (u64 a3) 2) ++ be (u64 ((fl : Int) * 8192)) 2) ++ be (u64 a6) 1) ++ be (u64 a7) 1) ++ be (u64 (c : Int)) 2) ++ be (u64 a9) 4) ++ be (u64 a10) 4) :: R) := ho0
  clear ho0 K1 c10
  rw [HL.out] at ho
  have KB := Lib.hid (o_wbytes ho 0 rfl (by rw [headL_length]; omega))
  clear ho
  go_wp2_with fail
  refine KB.out.mono ?_
  rintro e w11 ⟨v, rfl, ho⟩
  have G := Lib.hid (ho.sel2 (R1 := [_, _]) (R2 := R) [0] (by decide) rfl)
  clear ho KB
  go_wp2_with fail
  go_ret
  exact ⟨_, rfl, G.out⟩
theorem o_ipbuild (h : In F0 w0 w R) {a0 a1 a2 a3 a6 a7 a8 a9 a10 : Int} {fl : Nat} (hf : fl < 8) (s0 : 0 ≤ a9) (s1 : a9 < 4294967296) (d0 : 0 ≤ a10) (d1 : a10 < 4294967296) :
    Calls Tryz.prog 80 #[.agg (hC a0 a1 a2 a3 fl 0 a6 a7 a8 a9 a10)] w fun e w' => ∃ v, e = .returned v ∧ In F0 w0 w' (ByR v (buildD ⟨a0, a1, a2, a3, fl, 0, a6, a7, a8, a9, a10⟩) :: R) := by
  have h1 := h.cells (hC a0 a1 a2 a3 fl 0 a6 a7 a8 a9 a10) 84
  have KB : Hid (∀ W X, In F0 w0 W (X ++ Cells w.heap.size (hC a0 a1 a2 a3 fl 0 a6 a7 a8 a9 a10) 84 :: R) → ∀ c, c < 65536 → Calls Tryz.prog 116 #[.int .u16 (c : Nat), .pointer (some ⟨w.heap.size, 0, none⟩)] W fun e w' => ∃ v, e = .returned v ∧ In F0 w0 w' (ByR v (headL ⟨a0, a1, a2, a3, fl, 0, a6, a7, a8, a9, a10⟩ c) :: (X ++ Cells w.heap.size (hC a0 a1 a2 a3 fl 0 a6 a7 a8 a9 a10) 84 :: R))) :=
    Lib.hid (fun W X hW c hc => o_ipbuild1 hW X.length (by simp) hf hc s0 s1 d0 d1)
  have HD : Hid (buildD ⟨a0, a1, a2, a3, fl, 0, a6, a7, a8, a9, a10⟩ = headL ⟨a0, a1, a2, a3, fl, 0, a6, a7, a8, a9, a10⟩ (netN (headL ⟨a0, a1, a2, a3, fl, 0, a6, a7, a8, a9, a10⟩ 0))) := Lib.hid rfl
  have K1 := Lib.hid (KB.out _ [] h1 0 (by omega))
  clear h h1 hf s0 s1 d0 d1
  go_enter Tryz.func80, Tryz.ntmps80
  go_wp2_with fail
  generalize w.heap.size = g at *
  refine K1.out.mono ?_
  rintro e w1 ⟨v, rfl, ho⟩
  obtain ⟨va, vc, rfl⟩ := ByR.shape ho
  have KN := Lib.hid (su_net (c := vc) (ByR.src ho 0 rfl) (by rw [headL_length]; omega))
  have K2 := Lib.hid (KB.out _ [_] ho (netN (headL ⟨a0, a1, a2, a3, fl, 0, a6, a7, a8, a9, a10⟩ 0)) (netN_lt _))
  clear ho K1 KB
  go_wp2_with fail
  refine KN.out.mono ?_
  rintro e w2 ⟨rfl, rfl⟩
  clear KN
  go_wp2_with fail
  refine K2.out.mono ?_
  rintro e w3 ⟨v3, rfl, ho⟩
  have G := Lib.hid (ho.sel2 (R1 := [_, _, _]) (R2 := R) [0] (by decide) rfl)
  clear ho K2
  go_wp2_with fail
  go_ret
  exact ⟨_, rfl, by rw [HD.out]; exact G.out⟩
end
section
variable {F0 : List Nat} {w0 w : World} {R : List Asrt} {b : List UInt8}
theorem parse_len2 (h : (parseD b).2.2 = 0) : 20 ≤ p16 b 2 ∧ p16 b 2 ≤ b.length := by
  unfold parseD at h
  repeat' split at h
  all_goals first | (cases h; done) | (simp only at h; omega) | (constructor <;> omega)
theorem and6 : ∀ n : Nat, n < 8 → bits .and .i64 (n : Int) 6 = ((n / 2 * 2 : Nat) : Int) := by decide
theorem Bytes.pre {g o c n : Nat} (hb : Bytes F0 w0 R (Option.some ⟨g, o, none⟩) c b) (hn : n ≤ b.length) : Bytes F0 w0 R (Option.some ⟨g, o, none⟩) c (b.take n) :=
  ⟨fun W hW => by
    have := src_take (hb.src W hW) rfl hn
    rwa [show (b.take n).length = n by rw [List.length_take]; omega], fun h => (by cases h), Or.inr (Or.inr ⟨g, o, rfl⟩), by have := hb.cap; rw [List.length_take]; omega, hb.room⟩
def WrapPost (b : List UInt8) (self dst mtu : Int) (F0 : List Nat) (w0 : World) (R : List Asrt) (e : Ending) (w' : World) : Prop :=
  ∃ v, e = .returned (.tuple #[v, .int .i64 (wrapD b self dst mtu).2]) ∧ In F0 w0 w' (ByR v (wrapD b self dst mtu).1 :: R)
theorem WrapPost.err {self dst mtu r : Int} (h : In F0 w0 w R) (e : wrapD b self dst mtu = ([], r)) : WrapPost b self dst mtu F0 w0 R (.returned (.tuple #[.slice none 0 0, .int .i64 r])) w :=
  ⟨.slice none 0 0, by rw [e], by rw [e]; exact h.rownil _ _⟩
theorem o_enwrap (h : In F0 w0 w R) {A : Option Addr} {c : Nat} (hb : Bytes F0 w0 R A c b) (hm : b.length ≤ 100000000) {self dst : Int} (mtu : Int) (s0 : 0 ≤ self) (s1 : self < 4294967296) (t0 : 0 ≤ dst) (t1 : dst < 4294967296) :
    Calls Tryz.prog 42 #[.slice A b.length c, .int .u32 self, .int .u32 dst, .int .i64 mtu] w (WrapPost b self dst mtu F0 w0 R) := by
  have K0 := o_ipparse h hb hm
  have HW : wrapD b self dst mtu = wrapOf b self dst mtu (parseD b) := rfl
  have HOK := parse_ok (b := b)
  have HLN := parse_len2 (b := b)
  unfold ParsePost at K0
  have HB := Lib.hid hb
  have HM := Lib.hid hm
  have HS := Lib.hid (And.intro (And.intro s0 s1) (And.intro t0 t1))
  generalize parseD b = pd at *
  obtain ⟨hd, rest, why⟩ := pd
  have K := Lib.hid K0
  clear h hb hm K0 s0 s1 t0 t1
  by_cases hw : why = 0
  case neg =>
    obtain ⟨a0, a1, a2, a3, a4, a5, a6, a7, a8, a9, a10⟩ := hd
    have ee : encH ⟨a0, a1, a2, a3, a4, a5, a6, a7, a8, a9, a10⟩ = hC a0 a1 a2 a3 a4 a5 a6 a7 a8 a9 a10 := rfl
    simp only [ee] at K
    have HE := Lib.hid (fun W (hW : In F0 w0 W R) => WrapPost.err (b := b) (self := self) (dst := dst) (mtu := mtu) (r := why) hW (by rw [HW]; unfold wrapOf; exact if_pos hw))
    have hw' : (why != 0) = true := by rw [bne_iff_ne]; exact hw
    clear HW HOK HLN hw ee
    go_enter Tryz.func42, Tryz.ntmps42
    go_wp2_with fail
    refine K.out.mono ?_
    rintro e w1 ⟨v, rfl, ho⟩
    have G := Lib.hid (HE.out _ ((ho.alloc (.cells (hC a0 a1 a2 a3 a4 a5 a6 a7 a8 a9 a10) 84)).drop))
    clear ho K HE
    go_wp2_with fail
    go_ret2
    exact G.out
  have hd1 := HOK hw
  obtain ⟨l20, lb⟩ := HLN hw
  subst hw hd1
  have HW2 : Hid (wrapD b self dst mtu = if ((byN b 8 : Nat) : Int) ≤ 1 then ([], 7) else if min mtu 2000 < ((p16 b 2 : Nat) : Int) + 20 then ([], 11) else
      (buildD ⟨0, byN b 1, ((p16 b 2 : Nat) : Int) + 20, p16 b 4, ((p16 b 6 / 8192 : Nat) : Int) / 2 * 2, 0, 64, 4, 0, self, dst⟩ ++ olderD (b.take (p16 b 2)), 0)) :=
    Lib.hid (by rw [HW]; unfold wrapOf; exact if_neg (show ¬ ((0 : Int) ≠ 0) by decide))
  have HE : encH (readH b) = hC ((byN b 0 % 16 : Nat) : Int) (byN b 1) (p16 b 2) (p16 b 4) ((p16 b 6 / 8192 : Nat) : Int) ((p16 b 6 % 8192 : Nat) : Int) (byN b 8) (byN b 9) (p16 b 10) (p32 b 12) (p32 b 16) := rfl
  simp only [HE] at K
  have l2 := p16_lt b 2
  have lf : p16 b 6 / 8192 < 8 := by have := p16_lt b 6; omega
  have q6 := and6 _ lf
  have HF : Hid (((p16 b 6 / 8192 / 2 * 2 : Nat) : Int) = ((p16 b 6 / 8192 : Nat) : Int) / 2 * 2) := Lib.hid (by omega)
  clear HW HOK HLN HE
  generalize byN b 0 % 16 = n0 at *
  generalize byN b 1 = n1 at *
  generalize p16 b 2 = n2 at *
  generalize p16 b 4 = n4 at *
  generalize p16 b 6 / 8192 = nf at *
  generalize p16 b 6 % 8192 = n7 at *
  generalize byN b 8 = n8 at *
  generalize byN b 9 = n9 at *
  generalize p16 b 10 = n10 at *
  generalize p32 b 12 = n12 at *
  generalize p32 b 16 = n16 at *
  have w0' : ((0 : Int) != 0) = false := rfl
  have qa : IntKind.i64.wrap ((n2 : Int) + 20) = (n2 : Int) + 20 := IntWalk.i64_in _ (by omega)
  have HLF : Hid (nf / 2 * 2 < 8) := Lib.hid (by omega)
  have HLN := Lib.hid (And.intro l20 (And.intro lb l2))
  generalize nf / 2 * 2 = mf at *
  clear l20 lb l2 lf
  go_enter Tryz.func42, Tryz.ntmps42
  go_wp2_with fail
  refine K.out.mono ?_
  rintro e w1 ⟨v, rfl, ho⟩
  clear K
  have ho2 := (ho.cells (hC n0 n1 n2 n4 nf n7 n8 n9 n10 n12 n16) 84)
  clear ho
  go_upto_region 2 with fail
  generalize w1.heap.size = g at *
  generalize (w1.alloc (.cells (hC n0 n1 n2 n4 nf n7 n8 n9 n10 n12 n16) 84)) = W at *
  have i1 : W.cell? ⟨g, 1, none⟩ = some (.int .i64 (n1 : Nat)) := cell_of (ho2.block 0 rfl) rfl
  have i2 : W.cell? ⟨g, 2, none⟩ = some (.int .i64 (n2 : Nat)) := cell_of (ho2.block 0 rfl) rfl
  have i3 : W.cell? ⟨g, 3, none⟩ = some (.int .i64 (n4 : Nat)) := cell_of (ho2.block 0 rfl) rfl
  have i4 : W.cell? ⟨g, 4, none⟩ = some (.int .i64 (nf : Nat)) := cell_of (ho2.block 0 rfl) rfl
  have i6 : W.cell? ⟨g, 6, none⟩ = some (.int .i64 (n8 : Nat)) := cell_of (ho2.block 0 rfl) rfl
  have HO := Lib.hid ho2
  clear ho2
  by_cases h8 : n8 ≤ 1
  · have G := Lib.hid (WrapPost.err (b := b) (self := self) (dst := dst) (mtu := mtu) (r := 7) HO.out.drop.drop (by rw [HW2.out, if_pos (by omega)]))
    have h8' : (n8 : Int) ≤ 1 := by omega
    clear HW2 HO HB HF HLF HLN h8 q6
    go_wp2_with fail
    go_ret2
    exact G.out
  have h8' : ¬ ((n8 : Int) ≤ 1) := by omega
  have h8'' : decide ((n8 : Int) ≤ 1) = false := decide_eq_false h8'
  obtain ⟨M, hmn⟩ : ∃ M : Int, (if (2000 : Int) < mtu then 2000 else mtu) = M := ⟨_, rfl⟩
  have hM : min mtu 2000 = M := by rw [← hmn]; split <;> omega
  rw [hM] at HW2
  clear hM
  by_cases hm11 : M < (n2 : Int) + 20
  · have G := Lib.hid (WrapPost.err (b := b) (self := self) (dst := dst) (mtu := mtu) (r := 11) HO.out.drop.drop (by rw [HW2.out, if_neg (by omega), if_pos hm11]))
    clear HW2 HO HB HF HLF HLN h8 q6
    go_wp2_with fail
    go_ret2
    exact G.out
  have h11' : ¬ (M < (n2 : Int) + 20) := hm11
  have h11'' : decide (M < (n2 : Int) + 20) = false := decide_eq_false hm11
  obtain ⟨l20, lb, l2⟩ := HLN.out
  obtain ⟨ga, oa, rfl⟩ := HB.out.some (by omega)
  have HF2 : Hid (wrapD b self dst mtu = (buildD ⟨0, n1, (n2 : Int) + 20, n4, mf, 0, 64, 4, 0, self, dst⟩ ++ olderD (b.take n2), 0)) := Lib.hid (by rw [HW2.out, if_neg (by omega), if_neg hm11, HF.out])
  have KB := Lib.hid (o_ipbuild (a0 := 0) (a1 := n1) (a2 := (n2 : Int) + 20) (a3 := n4) (a6 := 64) (a7 := 4) (a8 := 0) HO.out HLF.out HS.out.1.1 HS.out.1.2 HS.out.2.1 HS.out.2.2)
  have hpre : ∀ w, (Instr.slice 35 (.slice (some ⟨ga, oa, none⟩) b.length c) none (some (.int .i64 (n2 : Nat))) none).run Tryz.prog w = .ok (.slice (some ⟨ga, oa, none⟩) n2 c) w := fun w => run_pre_at ga oa b.length c n2 (by have := HB.out.cap; omega) w
  have htk : (b.take n2).length = n2 := by rw [List.length_take]; omega
  have KO : Hid (∀ W' X, In F0 w0 W' (X ++ R) → Calls Tryz.prog 81 #[.slice (some ⟨ga, oa, none⟩) n2 c] W' fun e w' => ∃ v, e = .returned v ∧ In F0 w0 w' (ByR v (olderD (b.take n2)) :: (X ++ R))) := Lib.hid (fun W' X hW => by
    have hb2 : Bytes F0 w0 (X ++ R) (some ⟨ga, oa, none⟩) c (b.take n2) := by
      have := HB.out.pre (n := n2) lb
      clear hW
      induction X with
      | nil => exact this
      | cons Y X ih => exact Bytes.more ih Y
    have := o_enolder hW hb2 (by omega) (by have := HM.out; omega)
    rwa [htk] at this)
  have HLO : Hid ((buildD ⟨0, n1, (n2 : Int) + 20, n4, mf, 0, 64, 4, 0, self, dst⟩).length + (olderD (b.take n2)).length ≤ 1000000000) := Lib.hid (by
    rw [buildD_length]; unfold olderD; simp only [List.length_set]; rw [htk]; omega)
  clear HW2 HB HF HLF HLN h8 hm11 l20 lb l2 htk
  go_wp2_with fail
  refine KB.out.mono ?_
  rintro e w2 ⟨vb, rfl, ho⟩
  obtain ⟨pa, pc, rfl⟩ := ByR.shape ho
  have d2 : w2.cell? ⟨g, 2, none⟩ = some (.int .i64 (n2 : Nat)) := cell_of (ho.block 1 rfl) rfl
  have KO2 := Lib.hid (KO.out w2 [_, _, _] ho)
  clear ho KB KO HO i1 i2 i3 i4 i6
  go_wp2_with fail
  refine KO2.out.mono ?_
  rintro e w3 ⟨vo, rfl, ho⟩
  obtain ⟨qa', qc', rfl⟩ := ByR.shape ho
  have SS := Lib.hid (ByR.src ho 0 rfl)
  have HO3 := Lib.hid ho
  clear ho KO2 d2
  go_wp2_with (at_builtin; refine app_list rfl HO3.out 1 rfl (.tmp 49) (.tmp 54) 35 (by rfl) Tryz.underlying35 infoByte (by decide) (by decide) (by rfl) (by rfl) SS.out (u8s_one _) HLO.out ?_)
  intro v4 w4 ho4 hg
  have G4 := Lib.hid (by_app (ho4.sel2 (R1 := [_, _, _, _]) (R2 := R) [1] (by decide) rfl))
  clear ho4 hg SS HLO
  go_wp2_with fail
  go_ret2
  exact ⟨_, by rw [HF2.out]; rfl, by rw [HF2.out]; exact G4.out⟩
end
theorem tup_ext {s t : Tup} : s = t ↔ s.src = t.src ∧ s.dst = t.dst ∧ s.proto = t.proto ∧ s.sport = t.sport ∧ s.dport = t.dport := by
  obtain ⟨a1, a2, a3, a4, a5⟩ := s
  obtain ⟨b1, b2, b3, b4, b5⟩ := t
  simp
theorem tup_eq (s t : Tup) (w : World) : (binOp .eql 24 (.agg (encT s)) (.agg (encT t))).run Tryz.prog w = .ok (.bool (decide (s = t))) w := by
  rw [run_eql_struct, run_equalIn_agg]
  · go_simp
    rw [show decide (s = t) = decide (s.src = t.src ∧ s.dst = t.dst ∧ s.proto = t.proto ∧ s.sport = t.sport ∧ s.dport = t.dport) from decide_eq_decide.2 tup_ext]
    repeat' split
    all_goals simp_all
  · kernel_rfl
  · kernel_rfl
end Go.Proofs.YtgapbecddgfkmaaGreat
