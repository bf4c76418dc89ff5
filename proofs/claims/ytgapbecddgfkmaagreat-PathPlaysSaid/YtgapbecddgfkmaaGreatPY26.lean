/- Rows.PathPlaysSaid -/
import Derived.Test.YtgapbecddgfkmaaGreatPY25
import Derived.Test.YtgapbecddgfkmaaGreatPY8
import Derived.Test.YtgapbecddgfkmaaGreatPY10
import Derived.Test.YtgapbecddgfkmaaGreatPY3
import Derived.Test.YtgapbecddgfkmaaGreatPY9
import Derived.Test.YtgapbecddgfkmaaGreatPY11
namespace Go.Proofs.YtgapbecddgfkmaaGreat
open Go.RowKit
set_option linter.unusedVariables false
set_option maxHeartbeats 64000000
set_option maxRecDepth 100000
section
variable {F0 : List Nat} {w0 w : World} {R : List Asrt}
def TbRelA (l : List Bk) (m gt gn : Nat) (F0 : List Nat) (w0 : World) (R : List Asrt) (v8 : Value) (wr : World) : Prop :=
  ∃ (q i : Nat) (cs : List Nat), i = min m (q * (takesM l 0).length) ∧ v8 = .int .i64 ((m - i : Nat) : Int) ∧ CsOk m l (fillM (takesM l 0) m (rowsM l m) i) cs i ∧ TbIn l m gt gn i cs F0 w0 R wr
def TbRelB (l : List Bk) (m gt gn q : Nat) (F0 : List Nat) (w0 : World) (R : List Asrt) (v8 v46 : Value) (wr : World) : Prop :=
  ∃ (j i : Nat) (cs : List Nat), v46 = .int .i64 j ∧ j ≤ l.length ∧ i = min m (q * (takesM l 0).length + preM l j) ∧ v8 = .int .i64 ((m - i : Nat) : Int) ∧ CsOk m l (fillM (takesM l 0) m (rowsM l m) i) cs i ∧ TbIn l m gt gn i cs F0 w0 R wr
theorem o_r10table {l : List Bk} {A : Option Addr} {c : Nat} (hs : BksAt F0 w0 R A l) (hl : l.length ≤ 1000000) (h : In F0 w0 w R) {m : Nat} (hm : mayM (m : Int) = true) (hc : ∀ s, 1 ≤ s → s < m → Cov m s) :
    Calls Tryz.prog 47 #[.slice A l.length c, .int .i64 m] w (TbPost l m F0 w0 R) := by
  have K0 := Lib.hid (r10_may m w)
  rw [hm] at K0
  have hm3 : 3 ≤ m ∧ m ≤ 251 := by
    have := hm
    unfold mayM at this
    rw [Bool.and_eq_true, decide_eq_true_eq] at this
    omega
  obtain ⟨C, C1, C2, hmk⟩ := made_ints w (m := m) (by omega)
  have h1 := (h.cells C 3).rowFull 0 (n := m) (k := 1) rfl (by rw [C1]; omega) (by unfold maxLen; omega)
  rw [C2] at h1
  have H1 : Hid (TbRel1 w.heap.size m F0 w0 R (.int .i64 0) (w.alloc (.cells C 3))) := Lib.hid ⟨0, Nat.zero_le _, rfl, by
    have e : List.replicate 0 (-1 : Int) ++ List.replicate (m - 0) 0 = List.replicate m 0 := by simp
    rw [e]
    unfold IR
    rw [List.length_replicate]; exact h1⟩
  have HM := Lib.hid hm3
  have HMM := Lib.hid hm
  have HC := Lib.hid hc
  have HS := Lib.hid hs
  have HL := Lib.hid hl
  clear h h1 hm hm3 hc hs hl C1 C2
  go_enter Tryz.func47, Tryz.ntmps47
  go_wp2_with fail
  refine K0.out.mono ?_
  rintro e w1 ⟨rfl, rfl⟩
  clear K0
  go_wp2_with fail
  generalize w1.heap.size = g at *
  generalize (w1.alloc (.cells C 3)) = w2 at *
  go_loopw [22] (TbRel1 g m F0 w0 R) (fun v _ => m - (intOf v).toNat)
  case atStart => exact H1.out
  case round =>
    obtain ⟨i, hi, rfl, ho⟩ := hrel
    clear H1
    by_cases hlt : i < m
    · obtain ⟨ct, ft⟩ := row_int ho 0 rfl (k := i) (by simp; omega)
      have hix : (i : Int) < (m : Int) := by omega
      have h2 := row_seti ho 0 rfl (k := i) (by simp; omega) (-1)
      rw [rep_set m i hlt] at h2
      have HR : Hid (TbRel1 g m F0 w0 R (.int .i64 ((i : Int) + 1)) (wr.setCell ⟨g, i, none⟩ (.int .i64 (-1)))) := Lib.hid ⟨i + 1, hlt, by rw [Int.natCast_add]; rfl, h2⟩
      have hw2 : wrap64 ((i : Int) + 1) = (i : Int) + 1 := by have := HM.out; unfold wrap64; omega
      clear ho h2 hi hlt
      go_wp2_with fail
      go_roundw
      case rel => (try rw [hw2]); exact HR.out
      case measure => (try rw [hw2]); exact meas_lt hix
    · have hge : (m : Int) ≤ (i : Int) := by omega
      have e : List.replicate i (-1 : Int) ++ List.replicate (m - i) 0 = List.replicate m (-1) := by rw [show i = m by omega]; simp
      rw [e] at ho
      by_cases hl0 : l = []
      · have q0 : ((l.length : Int) == 0) = true := by rw [hl0]; rfl
        have HT : Hid (tableM l m = List.replicate m (-1)) := Lib.hid (by unfold tableM mayL; rw [hl0]; rfl)
        have G : Hid (TbPost l m F0 w0 R (.returned (.slice (some ⟨g, 0, none⟩) m m)) wr) := Lib.hid ⟨_, _, rfl, by rw [HT.out]; exact ho⟩
        clear ho e hlt hi hl0
        go_wp2_with fail
        go_ret
        exact G.out
      have q0 : ((l.length : Int) == 0) = false := beq_eq_false_iff_ne.2 (by have := List.length_pos_iff.2 hl0; omega)
      have HO := Lib.hid ho
      have KM := Lib.hid (o_qmaybks (c := c) (l := l) (fun W hW => HS.out W hW.drop) (by have := HL.out; omega) ho)
      have HL0 := Lib.hid hl0
      clear ho e hlt hi hl0
      cases hml : gensMay l with
      | false =>
        rw [hml] at KM
        have HT : Hid (tableM l m = List.replicate m (-1)) := Lib.hid (by unfold tableM mayL; rw [hml, Bool.and_false]; rfl)
        clear hml HO
        go_wp2_with fail
        refine KM.out.mono ?_
        rintro e w3 ⟨rfl, ho⟩
        have G : Hid (TbPost l m F0 w0 R (.returned (.slice (some ⟨g, 0, none⟩) m m)) w3) := Lib.hid ⟨_, _, rfl, by rw [HT.out]; exact ho⟩
        clear ho KM HT
        go_wp2_with fail
        go_ret
        exact G.out
      | true =>
        rw [hml] at KM
        have HT : Hid (tableM l m = (fillM (takesM l 0) m (rowsM l m) m).1) := Lib.hid (by unfold tableM mayL; rw [hml, decide_eq_true HL0.out]; rfl)
        have hall : ∀ b ∈ l, mayBk b = true := by unfold gensMay at hml; simp only [Bool.and_eq_true, List.all_eq_true] at hml; exact hml.2.1
        have hl16 : l.length ≤ 16 := by unfold gensMay at hml; simp only [Bool.and_eq_true, decide_eq_true_eq] at hml; exact hml.1
        have HALL := Lib.hid (And.intro hall (And.intro HL0.out hl16))
        have HTP := Lib.hid (takesM_pos HL0.out hall)
        clear hml HO hall hl16
        go_wp2_with fail
        refine KM.out.mono ?_
        rintro e w3 ⟨rfl, ho⟩
        obtain ⟨D, D1, D2, hmk2⟩ := made_ints w3 (m := l.length) (by have := HALL.out.2.2; omega)
        have h1 := (ho.cells D 3).rowFull 0 (n := l.length) (k := 1) rfl (by rw [D1]; omega) (by unfold maxLen; have := HALL.out.2.2; omega)
        rw [D2] at h1
        have HA : Hid (TbRelA l m g w3.heap.size F0 w0 R (.int .i64 m) (w3.alloc (.cells D 3))) := Lib.hid ⟨0, 0, List.replicate l.length 0, by omega, by rw [Nat.sub_zero], cs_start l m _, by
          have e0 : nI (List.replicate l.length 0) = List.replicate l.length 0 := by unfold nI; rw [List.map_replicate]; rfl
          have h2 := h1.sel2 (R1 := [_, _]) (R2 := R) [1, 0] (by decide) rfl
          unfold TbIn
          rw [e0]
          unfold IR
          rw [List.length_replicate]
          exact h2⟩
        clear ho KM h1 D1 D2
        go_wp2_with fail
        generalize w3.heap.size = gn at *
        generalize (w3.alloc (.cells D 3)) = w4 at *
        go_loopw [8] (TbRelA l m g gn F0 w0 R) (fun v _ => (intOf v).toNat)
        case atStart => exact HA.out
        case round =>
          clear HA
          obtain ⟨q, i2, cs, hi2, rfl, hcs, ho⟩ := hrel
          by_cases hgo : i2 < m
          case neg =>
            have him : i2 = m := by omega
            have q2 : decide ((0 : Int) < ((m - i2 : Nat) : Int)) = false := decide_eq_false (by omega)
            have q2n : decide (0 < m - i2) = false := decide_eq_false (by omega)
            have G : Hid (TbPost l m F0 w0 R (.returned (.slice (some ⟨g, 0, none⟩) m m)) wr) := Lib.hid ⟨_, _, rfl, by
              rw [HT.out]
              unfold TbIn at ho
              rw [him] at ho
              exact ho.sel2 (R1 := [_, _]) (R2 := R) [0] (by decide) rfl⟩
            clear ho hcs hi2 hgo him
            go_wp2_with fail
            go_ret
            exact G.out
          have q2 : decide ((0 : Int) < ((m - i2 : Nat) : Int)) = true := decide_eq_true (by omega)
          have q2n : decide (0 < m - i2) = true := decide_eq_true (by omega)
          have HB0 : Hid (TbRelB l m g gn q F0 w0 R (.int .i64 ((m - i2 : Nat) : Int)) (.int .i64 0) wr) := Lib.hid ⟨0, i2, cs, rfl, Nat.zero_le _, by rw [hi2]; rfl, rfl, hcs, ho⟩
          have HI2 := Lib.hid (And.intro hi2 hgo)
          clear ho hcs hi2 hgo
          go_wp2_with fail
          clear q2 q2n
          go_loopw [8, 46] (TbRelB l m g gn q F0 w0 R) (fun _ v _ => l.length - (intOf v).toNat)
          case atStart => exact HB0.out
          case round =>
            clear HB0
            obtain ⟨j, i3, cs3, rfl, hj, hi3, rfl, hcs3, ho⟩ := hrel
            by_cases hlt : j < l.length
            · obtain ⟨b, hb⟩ : ∃ b, l[j]? = some b := ⟨l[j], List.getElem?_eq_getElem hlt⟩
              obtain ⟨gb0, ob, rfl, c0, c1, c2⟩ := HS.out.cell (ho.drop.drop) hb
              have hbm := HALL.out.1 b (List.mem_of_getElem? hb)
              have hid : 0 ≤ b.id ∧ b.id ≤ 65535 := by unfold mayBk at hbm; simp only [Bool.and_eq_true, decide_eq_true_eq] at hbm; omega
              have hlt' : (j : Int) < (l.length : Int) := by omega
              have hw2 : wrap64 ((j : Int) + 1) = (j : Int) + 1 := by have := HALL.out.2.2; unfold wrap64; omega
              have ho2 := ho.cells (bkC b) 33
              have KR := Lib.hid (o_r10row ho2 hid.1 (by omega) (m := m) HMM.out)
              have HJ := Lib.hid (And.intro hlt (And.intro hi3 (And.intro hcs3 hb)))
              have d0 := cell_of (o := 0) (v := .int .i64 b.id) (ho2.block 0 rfl) rfl
              clear ho ho2 hbm hid hj hi3 hcs3 hlt hb
              obtain ⟨bid, baddr, bwt⟩ := b
              simp only at c0 c1 c2 d0
              go_wp2_with fail
              refine KR.out.mono ?_
              rintro e w5 ⟨rfl, ho⟩
              have H5 : Hid (TbIn l m g gn i3 cs3 F0 w0 (Cells wr.heap.size (bkC ⟨bid, baddr, bwt⟩) 33 :: R) w5) := Lib.hid (ho.sel2 (R1 := [_, _, _]) (R2 := R) [1, 2, 0] (by decide) rfl)
              clear ho KR c0 c1 c2 d0
              generalize wr.heap.size = gb at *
              go_upto_block 6 with fail
              refine tb_turn (b := ⟨bid, baddr, bwt⟩) HM.out HC.out HALL.out.1 HALL.out.2.1 HALL.out.2.2 HJ.out.2.1 HJ.out.2.2.1 HJ.out.2.2.2 H5.out (fun f6 i4 cs4 wz hz => ?_)
              have HZ := Lib.hid hz
              clear hz H5
              go_wp2_with fail
              go_roundw
              case rel =>
                (try rw [hw2])
                obtain ⟨z1, z2, z3⟩ := HZ.out
                exact ⟨j + 1, i4, cs4, by rw [Int.natCast_add]; rfl, HJ.out.1, z1, rfl, z2, z3.sel2 (R1 := [_, _, _]) (R2 := R) [0, 1] (by decide) rfl⟩
              case measure => (try rw [hw2]); exact meas_lt hlt'
            · have hge3 : (l.length : Int) ≤ (j : Int) := by omega
              have hjl : j = l.length := by omega
              have hdk : decide ((j : Int) < (l.length : Int)) = false := decide_eq_false (by omega)
              have hdkn : decide (j < l.length) = false := decide_eq_false hlt
              have hi3' : i3 = min m ((q + 1) * (takesM l 0).length) := by
                rw [hi3, hjl, preM_all, Nat.add_mul, Nat.one_mul]
              have HA2 : Hid (TbRelA l m g gn F0 w0 R (.int .i64 ((m - i3 : Nat) : Int)) wr ∧ m - i3 < m - i2) := Lib.hid ⟨⟨q + 1, i3, cs3, hi3', rfl, hcs3, ho⟩, by
                have := HTP.out
                have h5 := HI2.out
                rw [Nat.add_mul, Nat.one_mul] at hi3'
                omega⟩
              clear ho hcs3 hi3 hi3' hjl hlt hj
              go_wp2_with fail
              go_roundw
              case rel => exact HA2.out.1
              case measure =>
                have := HA2.out.2
                show ((((m - i3 : Nat) : Int)).toNat < (((m - i2 : Nat) : Int)).toNat)
                rw [Int.toNat_natCast, Int.toNat_natCast]
                exact this
end
section
variable {F0 : List Nat} {w0 w : World} {R : List Asrt}
theorem q_u16 {n : Int} (h0 : 0 ≤ n) (h1 : n ≤ 65535) (h : In F0 w0 w R) : Calls Tryz.prog 70 #[.int .i64 n] w fun e w' => ∃ v, e = .returned v ∧ In F0 w0 w' (ByR v (be (u64 n) 2) :: R) := by
  have g := (h.cells #[.int .u8 (n / 256), .int .u8 (n % 256)] 5).rowFull 0 (n := 2) (k := 1) rfl rfl (by decide)
  have e : (#[.int .u8 (n / 256), .int .u8 (n % 256)] : Array Value).toList = u8s (be (u64 n) 2) := by
    obtain ⟨a, rfl⟩ : ∃ a : Nat, n = a := ⟨n.toNat, by omega⟩
    rw [be_two, u64_natQ (by omega)]
    simp only [u8s, List.map_cons, List.map_nil, ofNat_val]
    have : (a : Int) / 256 = ((a / 256 : Nat) : Int) % 256 := by omega
    rw [this]
  rw [e] at g
  have G : Hid (∃ v, Ending.returned (.slice (some ⟨w.heap.size, 0, none⟩) 2 2) = .returned v ∧ In F0 w0 (w.alloc (.cells #[.int .u8 (n / 256), .int .u8 (n % 256)] 5)) (ByR v (be (u64 n) 2) :: R)) := Lib.hid ⟨_, rfl, g⟩
  clear h g e
  go_enter Tryz.func70, Tryz.ntmps70
  go_wp2_with fail
  go_ret
  exact G.out
theorem q_u32 {n : Int} (h0 : 0 ≤ n) (h1 : n < 4294967296) (h : In F0 w0 w R) : Calls Tryz.prog 71 #[.int .u32 n] w fun e w' => ∃ v, e = .returned v ∧ In F0 w0 w' (ByR v (be (u64 n) 4) :: R) := by
  have g := (h.cells #[.int .u8 (n / 16777216), .int .u8 (n / 65536 % 256), .int .u8 (n / 256 % 256), .int .u8 (n % 256)] 5).rowFull 0 (n := 4) (k := 1) rfl rfl (by decide)
  have e : (#[.int .u8 (n / 16777216), .int .u8 (n / 65536 % 256), .int .u8 (n / 256 % 256), .int .u8 (n % 256)] : Array Value).toList = u8s (be (u64 n) 4) := by
    obtain ⟨a, rfl⟩ : ∃ a : Nat, n = a := ⟨n.toNat, by omega⟩
    rw [be_four, u64_natQ (by omega)]
    simp only [u8s, List.map_cons, List.map_nil, ofNat_val]
    have e1 : (a : Int) / 16777216 = ((a / 16777216 : Nat) : Int) % 256 := by omega
    have e2 : (a : Int) / 65536 % 256 = ((a / 65536 : Nat) : Int) % 256 := by omega
    have e3 : (a : Int) / 256 % 256 = ((a / 256 : Nat) : Int) % 256 := by omega
    rw [e1, e2, e3]
  rw [e] at g
  have G : Hid (∃ v, Ending.returned (.slice (some ⟨w.heap.size, 0, none⟩) 4 4) = .returned v ∧ In F0 w0 (w.alloc (.cells #[.int .u8 (n / 16777216), .int .u8 (n / 65536 % 256), .int .u8 (n / 256 % 256), .int .u8 (n % 256)] 5)) (ByR v (be (u64 n) 4) :: R)) := Lib.hid ⟨_, rfl, g⟩
  clear h g e
  go_enter Tryz.func71, Tryz.ntmps71
  go_wp2_with fail
  go_ret
  exact G.out
end
section
variable {F0 : List Nat} {w0 w : World} {R : List Asrt}
theorem be_one (n : Nat) : be n 1 = [UInt8.ofNat n] := by simp [be, beTo, List.range_succ]
theorem u8s_be1 {p : Int} (h0 : 0 ≤ p) (h1 : p ≤ 255) : [Value.int .u8 p] = u8s (be (u64 p) 1) := by
  obtain ⟨a, rfl⟩ : ∃ a : Nat, p = a := ⟨p.toNat, by omega⟩
  rw [be_one, u64_natQ (by omega)]
  simp only [u8s, List.map_cons, List.map_nil, ofNat_val]
  rw [show ((a : Int) % 256) = (a : Int) by omega]
theorem by_one {v : Value} {x : List UInt8} {p : Int} (h0 : 0 ≤ p) (h1 : p ≤ 255) (h : In F0 w0 w (RowA 5 1 v (x.length + 1) (u8s x ++ [Value.int .u8 p]) :: R)) : In F0 w0 w (ByR v (x ++ be (u64 p) 1) :: R) := by
  rw [u8s_be1 h0 h1] at h
  exact by_app (y := be (u64 p) 1) (by rw [be_length]; exact h)
abbrev Q32 (F0 : List Nat) (w0 : World) (n : Int) : Prop := ∀ (W : World) (R' : List Asrt), In F0 w0 W R' → Calls Tryz.prog 71 #[.int .u32 n] W fun e w' => ∃ v, e = .returned v ∧ In F0 w0 w' (ByR v (be (u64 n) 4) :: R')
abbrev Q16 (F0 : List Nat) (w0 : World) (n : Int) : Prop := ∀ (W : World) (R' : List Asrt), In F0 w0 W R' → Calls Tryz.prog 70 #[.int .i64 n] W fun e w' => ∃ v, e = .returned v ∧ In F0 w0 w' (ByR v (be (u64 n) 2) :: R')
theorem bl_le (n m k l : Nat) (h : k + l ≤ 1000) : (be n k).length + (be m l).length ≤ 1000000000 := by rw [be_length, be_length]; omega
theorem q_tupb {src dst proto sport dport : Int} (ht : WfT ⟨src, dst, proto, sport, dport⟩) (hm : MayT ⟨src, dst, proto, sport, dport⟩) (h : In F0 w0 w R) :
    Calls Tryz.prog 128 #[.agg #[.int .u32 src, .int .u32 dst, .int .i64 proto, .int .i64 sport, .int .i64 dport]] w fun e w' => ∃ v, e = .returned v ∧ In F0 w0 w' (ByR v (keyL ⟨src, dst, proto, sport, dport⟩) :: R) := by
  have hp0 : 0 ≤ proto := by have := hm.proto; simp only at this; omega
  have hp1 : proto ≤ 255 := by have := hm.proto; simp only at this; omega
  have KS : Hid (Q32 F0 w0 src) := Lib.hid (fun W R' h' => q_u32 ht.s0 ht.s1 h')
  have KD : Hid (Q32 F0 w0 dst) := Lib.hid (fun W R' h' => q_u32 ht.d0 ht.d1 h')
  have KP : Hid (Q16 F0 w0 sport) := Lib.hid (fun W R' h' => q_u16 hm.sp0 hm.sp1 h')
  have KQ : Hid (Q16 F0 w0 dport) := Lib.hid (fun W R' h' => q_u16 hm.dp0 hm.dp1 h')
  have g0 := h.cells #[.int .u32 src, .int .u32 dst, .int .i64 proto, .int .i64 sport, .int .i64 dport] 24
  obtain ⟨w1, hw1⟩ : ∃ w1, w1 = w.alloc (.cells #[.int .u32 src, .int .u32 dst, .int .i64 proto, .int .i64 sport, .int .i64 dport] 24) := ⟨_, rfl⟩
  rw [← hw1] at g0
  have HW := Lib.hid hw1
  have G0 := Lib.hid (g0.drewN 1)
  clear h hw1 g0 ht hm
  go_enter Tryz.func128, Tryz.ntmps128
  go_wp2_with fail
  rw [← HW.out]
  clear HW
  generalize w.heap.size = g at *
  have hz0 : (w1.drewN 1).cell? ⟨g, 0, none⟩ = some (.int .u32 src) ∧ (w1.drewN 1).cell? ⟨g, 1, none⟩ = some (.int .u32 dst) := ⟨cell_of (G0.out.block 0 rfl) rfl, cell_of (G0.out.block 0 rfl) rfl⟩
  go_region_held3 (fun w' => w'.cell? ⟨g, 0, none⟩ = some (.int .u32 src) ∧ w'.cell? ⟨g, 1, none⟩ = some (.int .u32 dst)) (first | exact hz3 | exact hz2 | exact hz1 | exact hz0)
    (first
      | (refine app_step rfl (by exact G2.out) 1 rfl (.tmp 6) (.tmp 9) 35 (by rfl) Tryz.underlying35 infoByte (by decide) (by decide) (by rfl) (by rfl) (by exact ByR.src G2.out 0 rfl) (u8s_one _) (by exact bl_le _ _ _ _ (by decide)) ?_
         intro v3 w4 ho hg
         have hz3 : w4.cell? ⟨g, 0, none⟩ = some (.int .u32 src) ∧ w4.cell? ⟨g, 1, none⟩ = some (.int .u32 dst) := ⟨cell_of (ho.block 2 rfl) rfl, cell_of (ho.block 2 rfl) rfl⟩
         have g3 := by_app (ho.sel2 (R1 := [_, _, _]) (R2 := R) [1, 2] (by decide) rfl)
         obtain ⟨a3, c3, rfl⟩ := ByR.shape g3
         have G3 := Lib.hid g3
         clear ho hg g3)
      | (go_at_call 71
         refine (KD.out _ _ G1.out).mono ?_
         rintro e w3 ⟨v2, rfl, g2⟩
         obtain ⟨a2, c2, rfl⟩ := ByR.shape g2
         have hz2 : w3.cell? ⟨g, 0, none⟩ = some (.int .u32 src) ∧ w3.cell? ⟨g, 1, none⟩ = some (.int .u32 dst) := ⟨cell_of (g2.block 2 rfl) rfl, cell_of (g2.block 2 rfl) rfl⟩
         have G2 := Lib.hid g2
         clear g2)
      | (go_at_call 71
         refine (KS.out _ _ G0.out).mono ?_
         rintro e w2 ⟨v1, rfl, g1⟩
         obtain ⟨a1, c1, rfl⟩ := ByR.shape g1
         have hz1 : w2.cell? ⟨g, 0, none⟩ = some (.int .u32 src) ∧ w2.cell? ⟨g, 1, none⟩ = some (.int .u32 dst) := ⟨cell_of (g1.block 1 rfl) rfl, cell_of (g1.block 1 rfl) rfl⟩
         have G1 := Lib.hid g1
         clear g1))
  have p2 : w4.cell? ⟨g, 2, none⟩ = some (.int .i64 proto) := cell_of (G3.out.block 1 rfl) rfl
  have H4 := Lib.hid (G3.out.cells #[.int .u8 proto] 5)
  have S4 := Lib.hid (Src.of_block (H4.out.block 0 rfl) rfl : Src _ (some ⟨w4.heap.size, 0, none⟩) 1 1 _)
  clear hz0 hz1 hz2 hz3 G0 G1 G2 KS KD
  go_wp2_with (at_builtin; refine app_list rfl H4.out 1 rfl (.tmp 11) (.tmp 15) 35 (by rfl) Tryz.underlying35 infoByte (by decide) (by decide) (by rfl) (by rfl) S4.out (fun u hu => by simp at hu; subst hu; rfl) (by rw [List.length_append, be_length, be_length]; decide) ?_)
  intro v5 w5 ho hg
  have g5 := by_one hp0 hp1 (ho.sel2 (R1 := [_, _, _]) (R2 := R) [1, 2] (by decide) rfl)
  obtain ⟨a5, c5, rfl⟩ := ByR.shape g5
  have G5 := Lib.hid g5
  have G6 := Lib.hid (g5.drewN 1)
  have hl5 : ((be (u64 src) 4 ++ be (u64 dst) 4) ++ be (u64 proto) 1).length = 9 := by simp [be_length]
  have HL5 := Lib.hid hl5
  clear ho hg g5 H4 S4 p2 hp0 hp1 G3 hl5
  go_wp2_with fail
  have hz0 : (w5.drewN 1).cell? ⟨g, 3, none⟩ = some (.int .i64 sport) ∧ (w5.drewN 1).cell? ⟨g, 4, none⟩ = some (.int .i64 dport) := ⟨cell_of (G6.out.block 1 rfl) rfl, cell_of (G6.out.block 1 rfl) rfl⟩
  go_region_held3 (fun w' => w'.cell? ⟨g, 3, none⟩ = some (.int .i64 sport) ∧ w'.cell? ⟨g, 4, none⟩ = some (.int .i64 dport)) (first | exact hz4 | exact hz3 | exact hz2 | exact hz1 | exact hz0)
    (first
      | (refine app_step rfl (by exact G9.out) 1 rfl (.tmp 21) (.tmp 24) 35 (by rfl) Tryz.underlying35 infoByte (by decide) (by decide) (by rfl) (by rfl) (by exact ByR.src G9.out 0 rfl) (u8s_one _) (by rw [List.length_append, HL5.out, be_length, be_length]; decide) ?_
         intro v9 w9 ho hg
         have hz4 : w9.cell? ⟨g, 3, none⟩ = some (.int .i64 sport) ∧ w9.cell? ⟨g, 4, none⟩ = some (.int .i64 dport) := ⟨cell_of (ho.block 2 rfl) rfl, cell_of (ho.block 2 rfl) rfl⟩
         have GE := Lib.hid (by_app (ho.sel2 (R1 := [_, _, _]) (R2 := R) [1] (by decide) rfl))
         clear ho hg)
      | (go_at_call 70
         refine (KQ.out _ _ G8.out).mono ?_
         rintro e w8 ⟨v8, rfl, g8⟩
         obtain ⟨a8, c8, rfl⟩ := ByR.shape g8
         have hz3 : w8.cell? ⟨g, 3, none⟩ = some (.int .i64 sport) ∧ w8.cell? ⟨g, 4, none⟩ = some (.int .i64 dport) := ⟨cell_of (g8.block 2 rfl) rfl, cell_of (g8.block 2 rfl) rfl⟩
         have G9 := Lib.hid g8
         clear g8)
      | (refine app_step rfl (by exact G7.out) 1 rfl (.tmp 17) (.tmp 20) 35 (by rfl) Tryz.underlying35 infoByte (by decide) (by decide) (by rfl) (by rfl) (by exact ByR.src G7.out 0 rfl) (u8s_one _) (by rw [HL5.out, be_length]; decide) ?_
         intro v7 w7 ho hg
         have hz2 : w7.cell? ⟨g, 3, none⟩ = some (.int .i64 sport) ∧ w7.cell? ⟨g, 4, none⟩ = some (.int .i64 dport) := ⟨cell_of (ho.block 2 rfl) rfl, cell_of (ho.block 2 rfl) rfl⟩
         have g8 := by_app (ho.sel2 (R1 := [_, _, _]) (R2 := R) [1, 2] (by decide) rfl)
         obtain ⟨a7, c7, rfl⟩ := ByR.shape g8
         have G8 := Lib.hid g8
         clear ho hg g8)
      | (go_at_call 70
         refine (KP.out _ _ G6.out).mono ?_
         rintro e w6 ⟨v6, rfl, g7⟩
         obtain ⟨a6, c6, rfl⟩ := ByR.shape g7
         have hz1 : w6.cell? ⟨g, 3, none⟩ = some (.int .i64 sport) ∧ w6.cell? ⟨g, 4, none⟩ = some (.int .i64 dport) := ⟨cell_of (g7.block 2 rfl) rfl, cell_of (g7.block 2 rfl) rfl⟩
         have G7 := Lib.hid g7
         clear g7))
  clear hz0 hz1 hz2 hz3 hz4 G5 G6 G7 G8 G9 KP KQ
  go_wp2_with fail
  go_ret
  exact ⟨_, rfl, GE.out⟩
end
theorem bkV_consD (b : Bk) (l : List Bk) : bkV (b :: l) = encB b ++ bkV l := by simp [bkV]
theorem bkV_setD : ∀ {L : List Bk} {i : Nat} (x : Bk), i < L.length → putAt (bkV L) (i * 3) (encB x) = bkV (L.set i x)
  | [], i, x, h => by simp at h
  | y :: r, 0, x, h => by
    rw [List.set_cons_zero, bkV_consD, bkV_consD]; unfold putAt; simp [encB]
  | y :: r, i + 1, x, h => by
    have ih := bkV_setD (L := r) (i := i) x (by simpa using h)
    rw [List.set_cons_succ, bkV_consD, bkV_consD, ← ih]; unfold putAt
    have l1 : (encB y).length = 3 := rfl
    rw [List.take_append, List.drop_append, l1]
    rw [show (i + 1) * 3 - 3 = i * 3 by omega, show (i + 1) * 3 + (encB x).length - 3 = i * 3 + (encB x).length by omega]
    rw [List.take_of_length_le (by rw [l1]; omega), List.drop_eq_nil_of_le (by rw [l1]; omega)]
    simp
theorem bkV_takeD (L : List Bk) (m : Nat) : (bkV L).take (m * 3) = bkV (L.take m) := by
  induction L generalizing m with
  | nil => simp [bkV]
  | cons y r ih =>
    cases m with
    | zero => simp [bkV]
    | succ m =>
      have l1 : (encB y).length = 3 := rfl
      rw [List.take_succ_cons, bkV_consD, bkV_consD, ← ih, List.take_append, l1, show (m + 1) * 3 - 3 = m * 3 by omega, List.take_of_length_le (by rw [l1]; omega)]
structure DelB (p : Bk → Bool) (A B : List Bk) (i j : Nat) : Prop where
  ij : i < j
  jn : j ≤ A.length
  len : B.length = A.length
  pre : B.take i = (A.take j).filter (fun b => !p b)
  post : B.drop j = A.drop j
variable {p : Bk → Bool}
theorem DelB.start {A : List Bk} {i : Nat} {x : Bk} (hx : A[i]? = some x) (hb : p x = true) (hno : ∀ y ∈ A.take i, p y = false) : DelB p A A i (i + 1) := by
  have hi := (List.getElem?_eq_some_iff.1 hx).1
  refine ⟨by omega, by omega, rfl, ?_, rfl⟩
  rw [List.take_add_one, hx, List.filter_append]
  rw [List.filter_eq_self.2 (fun y hy => by simp [hno y hy])]
  simp [hb]
theorem DelB.at {A B : List Bk} {i j : Nat} (h : DelB p A B i j) {x : Bk} (hx : B[j]? = some x) : A[j]? = some x := by
  have h1 : (B.drop j)[0]? = some x := by rw [List.getElem?_drop]; simpa using hx
  rw [h.post, List.getElem?_drop] at h1
  simpa using h1
theorem DelB.skip {A B : List Bk} {i j : Nat} (h : DelB p A B i j) {x : Bk} (hx : B[j]? = some x) (hb : p x = true) : DelB p A B i (j + 1) := by
  have ha := h.at hx
  have hj := (List.getElem?_eq_some_iff.1 ha).1
  refine ⟨by have := h.ij; omega, by omega, h.len, ?_, ?_⟩
  · rw [List.take_add_one, ha, List.filter_append, ← h.pre]; simp [hb]
  · have := congrArg (List.drop 1) h.post
    simpa [List.drop_drop] using this
theorem DelB.keep {A B : List Bk} {i j : Nat} (h : DelB p A B i j) {x : Bk} (hx : B[j]? = some x) (hb : p x = false) : DelB p A (B.set i x) (i + 1) (j + 1) := by
  have ha := h.at hx
  have hj := (List.getElem?_eq_some_iff.1 ha).1
  have hij := h.ij
  have hl := h.len
  refine ⟨by omega, by omega, by simpa using h.len, ?_, ?_⟩
  · have hi : i < B.length := by omega
    rw [List.take_add_one, List.take_set, List.getElem?_set_self hi, List.set_eq_of_length_le (by simp; omega)]
    rw [List.take_add_one, ha, List.filter_append, ← h.pre]
    simp [hb]
  · rw [List.drop_set, if_pos (by omega)]
    have := congrArg (List.drop 1) h.post
    simpa [List.drop_drop] using this
theorem DelB.done {A B : List Bk} {i : Nat} (h : DelB p A B i A.length) : B.take i = A.filter (fun b => !p b) := by
  have := h.pre
  rwa [List.take_length] at this
theorem zero_bkD (w : World) : (zeroValue 33).run Tryz.prog w = .ok (.agg (encBa zBk)) w := by kernel_rfl
theorem zerosB : ∀ m : Nat, (Builtin.zeroCells (Value.agg (encBa zBk)).cells m).toList = bkV (List.replicate m zBk) := by
  intro m
  have hc : (Value.agg (encBa zBk)).cells = encBa zBk := rfl
  rw [hc]
  apply List.ext_getElem?
  intro t
  unfold Builtin.zeroCells
  rw [show (encBa zBk).size = 3 from rfl]
  by_cases ht : t < m * 3
  · have hq : t / 3 < m := by omega
    have hm : t % 3 < 3 := by omega
    rw [Array.getElem?_toList, Array.getElem?_map, Array.getElem?_range, if_pos ht]
    obtain ⟨u, hu⟩ : ∃ u, (bkV (List.replicate m zBk))[t]? = some u := ⟨_, List.getElem?_eq_getElem (by rw [bkV_length, List.length_replicate]; omega)⟩
    obtain ⟨b, hb, hbu⟩ := bkV_get hu
    rw [List.getElem?_replicate, if_pos hq] at hb
    cases hb
    rw [hu, ← hbu]
    simp only [Option.map_some]
    have e3 : (encB zBk) = (encBa zBk).toList := rfl
    rw [e3, Array.getElem?_toList, Array.getElem?_eq_getElem (show t % 3 < (encBa zBk).size from hm), getElem!_pos (encBa zBk) (t % 3) hm]
  · rw [Array.getElem?_toList, Array.getElem?_map, Array.getElem?_range, if_neg ht]
    rw [List.getElem?_eq_none (by rw [bkV_length, List.length_replicate]; omega)]
    rfl
theorem sufB_in (gg cap i : Nat) (h : i < cap) : sufA (some ⟨gg, 0, none⟩) cap i 3 = some ⟨gg, i * 3, none⟩ := by
  unfold sufA
  rw [if_neg (by omega)]
  simp [add_at]
section
variable {F0 : List Nat} {w0 w : World} {R : List Asrt}
def DbRel (p : Bk → Bool) (gg cap : Nat) (A : List Bk) (F0 : List Nat) (w0 : World) (R : List Asrt) (vi vj : Value) (wr : World) : Prop :=
  ∃ (i j : Nat) (B : List Bk), vi = .int .i64 i ∧ vj = .int .i64 j ∧ DelB p A B i j ∧ In F0 w0 wr (RowA 33 3 (.slice (some ⟨gg, 0, none⟩) A.length cap) A.length (bkV B) :: R)
def DbPost (p : Bk → Bool) (A : List Bk) (F0 : List Nat) (w0 : World) (R : List Asrt) (e : Ending) (w' : World) : Prop :=
  ∃ v, e = .returned v ∧ In F0 w0 w' (BkR v (A.filter (fun b => !p b)) :: R)
theorem o_delb {A : List Bk} {v : Value} {f : FuncId} {g : Nat} (hA : A.length ≤ 1000000) (eg : ∀ args w, (callFunc f args).run Tryz.prog w = .ok (.enter f args) w)
    (hp : ∀ W b X, In F0 w0 W (X ++ R) → Calls Tryz.prog f #[.agg (encBa b), .pointer (some ⟨g, 0, none⟩)] W fun e w' => e = .returned (.bool (p b)) ∧ In F0 w0 w' (X ++ R))
    (h : In F0 w0 w (BkR v A :: R)) : Calls Tryz.prog 74 #[v, .func (.func f) #[] #[.pointer (some ⟨g, 0, none⟩)]] w (DbPost p A F0 w0 R) := by
  obtain ⟨Fv, hv⟩ := h.get 0 rfl
  obtain ⟨a, cap, rfl, l1, l2, -⟩ := hv.shape
  have HI := Lib.hid (o_idxp (c := cap) (bks_row (n := A.length) (c := cap) rfl 0 rfl) (by omega) p eg (fun W b hW => hp W b [_] hW) h)
  unfold maxLen at l2
  have HP := Lib.hid hp
  have HA : Hid (0 < A.length → ∃ gg, a = some ⟨gg, 0, none⟩) := Lib.hid fun h0 => by
    obtain ⟨_, _, h4 | ⟨g', c, cur, e, _⟩⟩ := hv
    · omega
    · cases e; exact ⟨_, rfl⟩
  clear h hv hp
  go_enter Tryz.func74, Tryz.ntmps74
  go_wp2_with fail
  refine HI.out.mono ?_
  rintro e w1 ⟨ho, ⟨rfl, hno⟩ | ⟨i, x, rfl, hx, hb, hno⟩⟩
  · have HF : Hid (DbPost p A F0 w0 R (.returned (.slice a A.length cap)) w1) := Lib.hid ⟨_, rfl, by
      have e : A.filter (fun b => !p b) = A := List.filter_eq_self.2 (fun y hy => by simp [hno y hy])
      rw [e]; exact ho⟩
    clear ho hno HI
    go_wp2_with fail
    go_ret
    exact HF.out
  · have hi := (List.getElem?_eq_some_iff.1 hx).1
    obtain ⟨gg, rfl⟩ := HA.out (by omega)
    have HS : Hid (DbRel p gg cap A F0 w0 R (.int .i64 i) (.int .i64 (i + 1)) w1) := Lib.hid ⟨i, i + 1, A, rfl, rfl, DelB.start hx hb hno, ho⟩
    have hm1 : ((i : Int) == -1) = false := beq_eq_false_iff_ne.2 (by omega)
    clear ho hno hx hb HI HA
    go_wp2_with fail
    go_loopw [5, 6, 7] (fun vi vj _ wr => DbRel p gg cap A F0 w0 R vi vj wr) (fun _ vj _ _ => A.length - (intOf vj).toNat)
    case atStart => exact HS.out
    case round =>
      obtain ⟨i', j, B, rfl, rfl, hd, ho⟩ := hrel
      clear HS hm1
      by_cases hlt : j < A.length
      · obtain ⟨x', hx'⟩ : ∃ x', B[j]? = some x' := ⟨B[j]'(by have := hd.len; omega), List.getElem?_eq_getElem _⟩
        obtain ⟨F1, hr⟩ := ho.get 0 rfl
        have hBl : B.length = A.length := hd.len
        have hsrc : Src wr (some ⟨gg, 0, none⟩) A.length 3 (bkV B) := hr.all
        obtain ⟨y0, y1, y2⟩ := bkV_at hx'
        obtain ⟨g9, o9, e9, hc⟩ := hsrc.plain (by omega) (by decide)
        cases e9
        have a0 := hc _ _ y0
        have a1 := hc _ _ y1
        have a2 := hc _ _ y2
        simp only [Nat.zero_add] at a0 a1 a2
        have hj1 : (j : Int) < (A.length : Int) := by omega
        have hcell := ho.cells (encBa x') 33
        have HP1 : Hid (Calls Tryz.prog f #[.agg (encBa x'), .pointer (some ⟨g, 0, none⟩)] (wr.alloc (.cells (encBa x') 33)) fun e w' => e = .returned (.bool (p x')) ∧ In F0 w0 w' (Cells wr.heap.size (encBa x') 33 :: RowA 33 3 (.slice (some ⟨gg, 0, none⟩) A.length cap) A.length (bkV B) :: R)) := Lib.hid (HP.out _ x' [_, _] hcell)
        have HD := Lib.hid hd
        have HX := Lib.hid hx'
        clear ho hr hBl hc hcell hx' hlt hd hsrc y0 y1 y2
        cases hq : p x' with
        | true =>
          rw [hq] at HP1
          have HR : Hid (DelB p A B i' (j + 1)) := Lib.hid (HD.out.skip HX.out hq)
          clear hq
          go_wp2_with fail
          refine HP1.out.mono ?_
          rintro e w2 ⟨rfl, ho⟩
          have HS : Hid (DbRel p gg cap A F0 w0 R (.int .i64 i') (.int .i64 (j + 1)) w2) := Lib.hid ⟨i', j + 1, B, rfl, by congr 1, HR.out, ho.drop⟩
          clear ho
          go_wp2_with fail
          go_roundw
          case rel => exact HS.out
          case measure => simp [intOf]; omega
        | false =>
          rw [hq] at HP1
          have HR : Hid (DelB p A (B.set i' x') (i' + 1) (j + 1)) := Lib.hid (HD.out.keep HX.out hq)
          have hin : i' < A.length := by have := HD.out.ij; have := HD.out.jn; omega
          have hi2 : (i' : Int) < (A.length : Int) := by omega
          clear hq
          go_wp2_with fail
          refine HP1.out.mono ?_
          rintro e w2 ⟨rfl, ho⟩
          have f0 : w2.cell? ⟨wr.heap.size, 0, none⟩ = some (.int .i64 x'.id) := cell_of (ho.block 0 rfl) rfl
          have f1 : w2.cell? ⟨wr.heap.size, 1, none⟩ = some (.int .u32 x'.addr) := cell_of (ho.block 0 rfl) rfl
          have f2 : w2.cell? ⟨wr.heap.size, 2, none⟩ = some (.int .i64 x'.weight) := cell_of (ho.block 0 rfl) rfl
          have hfl : (bkV B).length = A.length * 3 := by rw [bkV_length, HD.out.len]
          obtain ⟨F1, hr⟩ := ho.get 1 rfl
          have HTH : Hid (w2.there gg (i' * 3) (encBa x').size) := Lib.hid (hr.there (by rw [hfl]; show i' * 3 + 3 ≤ _; omega))
          have HINF : Hid ((Tryz.prog.info? 33).map (·.size) = some (encBa x').size) := Lib.hid (by kernel_rfl)
          have HPUT : Hid (In F0 w0 (w2.setCells gg (i' * 3) (encBa x').toList) (RowA 33 3 (.slice (some ⟨gg, 0, none⟩) A.length cap) A.length (bkV (B.set i' x')) :: R)) := Lib.hid (by
            have h5 := row_put ho 1 rfl (o := i' * 3) (us := (encBa x').toList) (by rw [hfl]; simp; omega)
            rw [show (encBa x').toList = encB x' from rfl, bkV_setD x' (by rw [HD.out.len]; exact hin)] at h5
            exact h5.drop)
          clear ho hr hfl hin HP1
          go_wp2_with (refine wpList_store_mid (op := ⟨none, Op.store 33 (.tmp 33) (.tmp 32), _, _, _, _⟩) (by rfl) 33 (.tmp 33) (.tmp 32) rfl gg (i' * 3) (encBa x') (by rfl) (by rfl) HTH.out HINF.out (encBa_all _ _ _) ?_)
          have HS : Hid (DbRel p gg cap A F0 w0 R (.int .i64 (i' + 1)) (.int .i64 (j + 1)) (w2.setCells gg (i' * 3) (encBa x').toList)) := Lib.hid ⟨i' + 1, j + 1, _, by congr 1, by congr 1, HR.out, HPUT.out⟩
          go_roundw
          case rel => exact HS.out
          case measure => simp [intOf]; omega
      · have hge : (A.length : Int) ≤ (j : Int) := by omega
        have hjn : j = A.length := by have := hd.jn; omega
        subst hjn
        have hin : i' < A.length := hd.ij
        have hfl : (bkV B).length = A.length * 3 := by rw [bkV_length, hd.len]
        obtain ⟨F1, hr⟩ := ho.get 0 rfl
        have hcap : i' < cap := by
          obtain ⟨a', cap', e', l1', l2', -⟩ := hr.shape
          rw [Value.slice.injEq] at e'
          omega
        have hsuf : ∀ W, (Instr.slice 34 (.slice (some ⟨gg, 0, none⟩) A.length cap) (some (.int .i64 i')) none none).run Tryz.prog W = .ok (.slice (some ⟨gg, i' * 3, none⟩) (A.length - i') (cap - i')) W := fun W => by
          rw [run_suffix Tryz.underlying34 infoBk _ _ _ _ (by omega) W, sufB_in gg cap i' (by omega)]
        have hpre : ∀ W, (Instr.slice 34 (.slice (some ⟨gg, 0, none⟩) A.length cap) none (some (.int .i64 i')) none).run Tryz.prog W = .ok (.slice (some ⟨gg, 0, none⟩) i' cap) W := fun W => run_prefix Tryz.underlying34 infoBk _ _ _ _ (by omega) W
        have hzl : (Builtin.zeroCells (Value.agg (encBa zBk)).cells (A.length - i')).toList = bkV (List.replicate (A.length - i') zBk) := zerosB _
        have hcl : ∀ ty, (Builtin.clear_ #[34] ty #[.slice (some ⟨gg, i' * 3, none⟩) (A.length - i') (cap - i')]).run Tryz.prog wr = .ok (.tuple #[]) (wr.setCells gg (i' * 3) (bkV (List.replicate (A.length - i') zBk))) := fun ty => by
          have h6 := clear_run (ty := ty) Tryz.underlying34 zero_bkD wr gg (i' * 3) (A.length - i') (cap - i') (by
            rw [hzl]; exact bkV_one _) (by rw [hzl]; exact hr.there (by rw [hfl, bkV_length, List.length_replicate]; omega))
          rw [if_neg (by omega), hzl] at h6
          exact h6
        have HF : Hid (DbPost p A F0 w0 R (.returned (.slice (some ⟨gg, 0, none⟩) i' cap)) (wr.setCells gg (i' * 3) (bkV (List.replicate (A.length - i') zBk)))) := Lib.hid ⟨_, rfl, by
          have h7 := row_put ho 0 rfl (o := i' * 3) (us := bkV (List.replicate (A.length - i') zBk)) (by rw [hfl, bkV_length, List.length_replicate]; omega)
          have hM : (A.filter (fun b => !p b)).length = i' := by rw [← hd.done, List.length_take, hd.len]; omega
          unfold BkR
          rw [hM]
          refine h7.imp 0 rfl (RowA.framed _ _ _ _ _) (fun F hF => ?_)
          have h8 := hF.pre (m := i') (by omega)
          have e9 : (putAt (bkV B) (i' * 3) (bkV (List.replicate (A.length - i') zBk))).take (i' * 3) = bkV (A.filter (fun b => !p b)) := by
            unfold putAt
            rw [List.append_assoc, List.take_append_of_le_length (by rw [List.length_take, hfl]; omega), List.take_take, Nat.min_self, bkV_takeD, hd.done]
          rw [e9] at h8
          exact h8⟩
        clear ho hr hzl hfl hd hlt hin
        generalize wr.setCells gg (i' * 3) (bkV (List.replicate (A.length - i') zBk)) = w3 at *
        go_wp2_with (simp only [hcl])
        go_ret
        exact HF.out
structure OutF (fv : Value) (q : Int → Bool) (F0 : List Nat) (w0 : World) (R : List Asrt) : Prop where
  sh : ∃ f caps, fv = .func (.func f) #[] caps ∧ (∀ args w, (callFunc f args).run Tryz.prog w = .ok (.enter f args) w) ∧ (∀ W n X, In F0 w0 W (X ++ R) → Calls Tryz.prog f (#[.int .i64 n] ++ caps) W fun e w' => e = .returned (.bool (q n)) ∧ In F0 w0 w' (X ++ R))
theorem OutF.more {fv : Value} {q : Int → Bool} (h : OutF fv q F0 w0 R) (X : Asrt) : OutF fv q F0 w0 (X :: R) := by
  obtain ⟨f, caps, e, h1, h2⟩ := h
  exact ⟨f, caps, e, h1, fun W n Y hW => by
    have := h2 W n (Y ++ [X]) (by simpa using hW)
    simpa using this⟩
theorem gnw1_f (b : Bk) {fv : Value} {q : Int → Bool} {g : Nat} {X : List Asrt} (i : Nat) (hA : (X ++ R)[i]? = some (Cells g #[fv] 66)) (hf : OutF fv q F0 w0 R) (h : In F0 w0 w (X ++ R)) : Calls Tryz.prog 75 #[.agg (encBa b), .pointer (some ⟨g, 0, none⟩)] w fun e w' => e = .returned (.bool (q b.id)) ∧ In F0 w0 w' (X ++ R) := by
  obtain ⟨f, caps, rfl, eg, hq⟩ := hf
  have h1 := h.cells (encBa b) 33
  have c0 : (w.alloc (.cells (encBa b) 33)).cell? ⟨g, 0, none⟩ = some (.func (.func f) #[] caps) := cell_of ((h.alloc (.cells (encBa b) 33)).block i hA) rfl
  have HQ := Lib.hid (hq _ b.id (_ :: X) h1)
  have hne : ∀ w, (binOp BinOp.neq 66 (.func (.func f) #[] caps) Value.nilFunc).run Tryz.prog w = .ok (.bool true) w := fun w => by kernel_rfl
  obtain ⟨b0, b1, b2⟩ := b
  clear h hA hq h1
  go_enter Tryz.func75, Tryz.ntmps75
  go_wp2_with fail
  refine HQ.out.mono ?_
  rintro e w1 ⟨rfl, ho⟩
  have G := Lib.hid ho.drop
  clear ho HQ
  go_wp2_with fail
  go_ret
  exact ⟨rfl, G.out⟩
theorem o_gnwithoutF {l : List Bk} {A : Option Addr} {c : Nat} {fv : Value} {q : Int → Bool} (hf : OutF fv q F0 w0 R) (hs : BksAt F0 w0 R A l) (hn : A = none → c = 0) (hl : l.length ≤ 1000000) (h : In F0 w0 w R) :
    Calls Tryz.prog 38 #[.slice A l.length c, fv] w fun e w' => ∃ v, e = .returned v ∧ In F0 w0 w' (BkR v (withoutL q l) :: R) := by
  have h1 := h.cells #[fv] 66
  have HF := Lib.hid (hf.more (Cells w.heap.size #[fv] 66))
  have K := Lib.hid (o_bkclone (c := c) h1 hn (hs.more _ _ h1) hl)
  obtain ⟨f, caps, rfl, -, -⟩ := hf
  have eg : ∀ args w, (callFunc 75 args).run Tryz.prog w = .ok (.enter 75 args) w := enters_of Tryz.func75 (by kernel_rfl) rfl
  have K2 := Lib.hid (fun w1 v (h' : In F0 w0 w1 (BkR v l :: Cells w.heap.size #[.func (.func f) #[] caps] 66 :: R)) => o_delb (p := fun b => q b.id) (g := w.heap.size) hl eg (fun W b X hW => gnw1_f b X.length (by simp) HF.out hW) h')
  clear h h1 hs hn eg
  go_enter Tryz.func38, Tryz.ntmps38
  go_wp2_with fail
  generalize w.heap.size = g at *
  refine K.out.mono ?_
  rintro e w1 ⟨v, rfl, ho⟩
  have K3 := Lib.hid (K2.out _ _ ho)
  clear ho K K2
  go_wp2_with fail
  refine K3.out.mono ?_
  rintro e w2 ⟨v2, rfl, ho⟩
  have G := Lib.hid ho
  clear ho K3
  go_wp2_with fail
  go_ret
  exact ⟨_, rfl, G.out.sel2 (R1 := [_, _]) [0] (by decide) rfl⟩
end
end Go.Proofs.YtgapbecddgfkmaaGreat
