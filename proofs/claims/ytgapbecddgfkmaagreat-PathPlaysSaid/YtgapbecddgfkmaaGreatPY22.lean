/- Rows.PathPlaysSaid -/
import Derived.Test.YtgapbecddgfkmaaGreatPY19
import Derived.Test.YtgapbecddgfkmaaGreatPY15
import Derived.Test.YtgapbecddgfkmaaGreatPY10
import Derived.Deep.CutBlock
namespace Go.Proofs.YtgapbecddgfkmaaGreat
open Go.RowKit
set_option linter.unusedVariables false
set_option maxHeartbeats 64000000
set_option maxRecDepth 100000
section
variable {F0 : List Nat} {w0 w : World} {R : List Asrt} {b : List UInt8}
theorem o_r20whole (h : In F0 w0 w R) (a0 a1 a2 a3 a6 a7 a8 a9 a10 off : Int) {fl : Nat} (hf : fl < 8) : Calls Tryz.prog 66 #[.agg (hC a0 a1 a2 a3 fl off a6 a7 a8 a9 a10)] w fun e w' => e = .returned (.bool (decide ((fl : Int) % 2 = 0) && decide (off = 0))) ∧ In F0 w0 w' R := by
  have G := Lib.hid (h.alloc (.cells (hC a0 a1 a2 a3 fl off a6 a7 a8 a9 a10) 84))
  have q1 : bits .and .i64 (fl : Int) 1 = ((fl % 2 : Nat) : Int) := bits_and_mask fl 1 (by omega) (by omega)
  clear h
  have hx : decide ((fl : Int) % 2 = 0) = decide (fl % 2 = 0) := by
    by_cases h1 : fl % 2 = 0
    · rw [decide_eq_true h1, decide_eq_true (by omega)]
    · rw [decide_eq_false h1, decide_eq_false (by omega)]
  rw [hx]
  clear hx
  generalize fl % 2 = fm at *
  by_cases h1 : fm = 0
  · have q2 : ((fm : Int) == 0) = true := by rw [h1]; rfl
    have e1 : decide (fm = 0) = true := decide_eq_true h1
    by_cases h2 : off = 0
    · have e2 : decide (off = 0) = true := decide_eq_true h2
      have q3 : (off == 0) = true := by rw [h2]; rfl
      rw [e1, e2]
      clear e1 e2 h1 h2
      go_enter Tryz.func66, Tryz.ntmps66
      go_wp2_with fail
      go_ret
      exact ⟨rfl, G.out⟩
    · have e2 : decide (off = 0) = false := decide_eq_false h2
      have q3 : (off == 0) = false := beq_eq_false_iff_ne.2 h2
      rw [e1, e2]
      clear e1 e2 h1 h2
      go_enter Tryz.func66, Tryz.ntmps66
      go_wp2_with fail
      go_ret
      exact ⟨rfl, G.out⟩
  · have q2 : ((fm : Int) == 0) = false := by rw [beq_eq_false_iff_ne]; omega
    have e1 : decide (fm = 0) = false := decide_eq_false h1
    rw [e1]
    clear e1 h1
    go_enter Tryz.func66, Tryz.ntmps66
    go_wp2_with fail
    go_ret
    exact ⟨rfl, G.out⟩
theorem src_at {W : World} {g o n : Nat} {bs : List UInt8} (h : Src W (some ⟨g, o, none⟩) n 1 (u8s bs)) (hn : 0 < n) {j : Nat} {x : UInt8} (hx : bs[j]? = some x) : W.cell? ⟨g, o + j, none⟩ = some (.int .u8 x.toNat) := by
  obtain ⟨ad, e, hc⟩ := h.at' hn
  cases e
  have := hc j (.int .u8 x.toNat) (by simp [u8s, hx])
  rwa [add_at] at this
def TupPost (b : List UInt8) (F0 : List Nat) (w0 : World) (R : List Asrt) (e : Ending) (w' : World) : Prop :=
  e = .returned (.tuple #[.agg (encT (withinD b).1), .agg (encH (withinD b).2.1), .int .i64 (withinD b).2.2.2]) ∧ In F0 w0 w' R
theorem TupPost.err {r : Int} (h : In F0 w0 w R) (e : withinD b = (zT0, zH, [], r)) : TupPost b F0 w0 R (.returned (.tuple #[.agg tz, .agg hz, .int .i64 r])) w := ⟨by rw [e]; rfl, h⟩
theorem o_r20tuple (h : In F0 w0 w R) {A : Option Addr} {c : Nat} (hb : Bytes F0 w0 R A c b) (hm : b.length ≤ 100000000) :
    Calls Tryz.prog 30 #[.slice A b.length c] w (TupPost b F0 w0 R) := by
  have h1 := (h.cells tz 24).cells hz 84
  simp only [World.size_alloc] at h1
  have K0 := o_r20parse h1 ((hb.more _).more _) hm
  have HW : withinD b = withinOf (parseD b) := rfl
  have HOK := parse_ok (b := b)
  unfold ParsePost at K0
  have hfl2 : p16 b 6 / 8192 < 8 := by have := p16_lt b 6; omega
  have hsp : (parseD b).2.1.length ≤ 100000000 := by
    unfold parseD
    repeat' split
    all_goals (simp; try omega)
  rcases hpd : parseD b with ⟨hd, rest, why⟩
  rw [hpd] at K0 HW HOK hsp
  have K := Lib.hid K0
  clear h h1 hb hm K0 hpd
  go_enter Tryz.func30, Tryz.ntmps30
  go_wp2_with fail
  generalize w.heap.size = gt at *
  refine K.out.mono ?_
  rintro e w1 ⟨v, rfl, ho⟩
  obtain ⟨va, vc, rfl⟩ := ByR.shape ho
  clear K
  by_cases hw : why = 0
  case neg =>
    have ho2 := ho.cells (encH hd) 84
    obtain ⟨a0, a1, a2, a3, a4, a5, a6, a7, a8, a9, a10⟩ := hd
    have ee : encH ⟨a0, a1, a2, a3, a4, a5, a6, a7, a8, a9, a10⟩ = hC a0 a1 a2 a3 a4 a5 a6 a7 a8 a9 a10 := rfl
    rw [ee] at ho2
    rw [ee]
    have hw' : (why != 0) = true := by rw [bne_iff_ne]; exact hw
    have HO2 := Lib.hid ho2
    have HWX : Hid (withinD b = (zT0, zH, [], why)) := Lib.hid (by rw [HW]; unfold withinOf; exact if_pos hw)
    clear ee ho ho2 HW HOK hw hsp hfl2
    obtain ⟨z1, z2, z3⟩ := two_store (C' := tz) (D' := hz) (HO2.out.sel2 (R1 := [_, _, _, _]) (R2 := R) [3, 2] (by decide) rfl) rfl rfl
    have Z3 := Lib.hid z3
    have q := Lib.hid (TupPost.err (r := why) Z3.out.drop.drop (HWX.out))
    clear z3
    go_wp2_with (first | (refine wpList_store_mid (op := ⟨none, Op.store 24 (.tmp 2) (.tmp 17), _, _, _, _⟩) (by rfl) 24 (.tmp 2) (.tmp 17) rfl gt 0 tz (by rfl) (by rfl) z1 (by kernel_rfl) (tz_all _ _ _ _ _) ?_) | (refine wpList_store_mid (op := ⟨none, Op.store 84 (.tmp 3) (.tmp 18), _, _, _, _⟩) (by rfl) 84 (.tmp 3) (.tmp 18) rfl (gt + 1) 0 hz (by rfl) (by rfl) z2 (by kernel_rfl) (hC_all _ _ _ _ _ _ _ _ _ _ _) ?_))
    exact bodyPost_ret (results_cell2_tmp_row Tryz.results30 _ _ gt (gt + 1) 24 84 _ _ (0, 0) (0, 0) _ _ rfl (Z3.out.block 0 rfl) rfl (Z3.out.block 1 rfl) Tryz.underlying24 rfl (by kernel_rfl) Tryz.underlying84 rfl (by kernel_rfl)) rfl q.out
  have hd1 := HOK hw
  subst hw hd1
  have HW2 : Hid (withinD b = if (decide (((p16 b 6 / 8192 : Nat) : Int) % 2 = 0) && decide (((p16 b 6 % 8192 : Nat) : Int) = 0)) = false then (zT0, zH, [], 6)
      else if ((byN b 9 : Nat) : Int) = 6 then (if tcpOk rest = true then (⟨p32 b 12, p32 b 16, byN b 9, p16 rest 0, p16 rest 2⟩, readH b, rest, 0) else (zT0, zH, [], 9))
      else if ((byN b 9 : Nat) : Int) = 17 then (if udpOk rest = true then (⟨p32 b 12, p32 b 16, byN b 9, p16 rest 0, p16 rest 2⟩, readH b, rest, 0) else (zT0, zH, [], 9)) else (zT0, zH, [], 8)) :=
    Lib.hid (by rw [HW]; unfold withinOf; exact if_neg (show ¬ ((0 : Int) ≠ 0) by decide))
  have HE : Hid (encH (readH b) = hC ((byN b 0 % 16 : Nat) : Int) (byN b 1) (p16 b 2) (p16 b 4) ((p16 b 6 / 8192 : Nat) : Int) ((p16 b 6 % 8192 : Nat) : Int) (byN b 8) (byN b 9) (p16 b 10) (p32 b 12) (p32 b 16)) := Lib.hid rfl
  have ho2 := ho.cells (encH (readH b)) 84
  rw [HE.out] at ho2 ⊢
  clear HW HOK ho
  have HP9 : Hid (byN b 9 < 256) := Lib.hid (byN_lt b 9)
  generalize byN b 0 % 16 = n0 at *
  generalize byN b 1 = n1 at *
  generalize p16 b 2 = n2 at *
  generalize p16 b 4 = n4 at *
  generalize p16 b 6 / 8192 = nf at *
  generalize p16 b 6 % 8192 = n7 at *
  generalize byN b 8 = n8 at *
  generalize byN b 9 = n9 at *
  generalize p16 b 10 = n10 at *
  generalize p32 b 12 = n12 at *
  generalize p32 b 16 = n16 at *
  have w0' : ((0 : Int) != 0) = false := rfl
  go_upto_region 4 with fail
  go_upto_block 0 with fail
  generalize w1.heap.size = g6 at *
  generalize (w1.alloc (.cells (hC n0 n1 n2 n4 nf n7 n8 n9 n10 n12 n16) 84)) = W at *
  have HO := Lib.hid (show In F0 w0 W (Cells g6 (hC n0 n1 n2 n4 nf n7 n8 n9 n10 n12 n16) 84 :: ByR (.slice va rest.length vc) rest :: Cells (gt + 1) hz 84 :: Cells gt tz 24 :: R) from ho2)
  have KW : Hid (Calls Tryz.prog 66 #[.agg (hC n0 n1 n2 n4 nf n7 n8 n9 n10 n12 n16)] W fun e w' => e = .returned (.bool (decide ((nf : Int) % 2 = 0) && decide ((n7 : Int) = 0))) ∧ In F0 w0 w' (Cells g6 (hC n0 n1 n2 n4 nf n7 n8 n9 n10 n12 n16) 84 :: ByR (.slice va rest.length vc) rest :: Cells (gt + 1) hz 84 :: Cells gt tz 24 :: R)) := Lib.hid (o_r20whole ho2 _ _ _ _ _ _ _ _ _ _ hfl2)
  have i0 : W.cell? ⟨g6, 0, none⟩ = some (.int .i64 (n0 : Nat)) := cell_of (ho2.block 0 rfl) rfl
  have i1 : W.cell? ⟨g6, 1, none⟩ = some (.int .i64 (n1 : Nat)) := cell_of (ho2.block 0 rfl) rfl
  have i2 : W.cell? ⟨g6, 2, none⟩ = some (.int .i64 (n2 : Nat)) := cell_of (ho2.block 0 rfl) rfl
  have i3 : W.cell? ⟨g6, 3, none⟩ = some (.int .i64 (n4 : Nat)) := cell_of (ho2.block 0 rfl) rfl
  have i4 : W.cell? ⟨g6, 4, none⟩ = some (.int .i64 (nf : Nat)) := cell_of (ho2.block 0 rfl) rfl
  have i5 : W.cell? ⟨g6, 5, none⟩ = some (.int .i64 (n7 : Nat)) := cell_of (ho2.block 0 rfl) rfl
  have i6 : W.cell? ⟨g6, 6, none⟩ = some (.int .i64 (n8 : Nat)) := cell_of (ho2.block 0 rfl) rfl
  have i7 : W.cell? ⟨g6, 7, none⟩ = some (.int .i64 (n9 : Nat)) := cell_of (ho2.block 0 rfl) rfl
  have i8 : W.cell? ⟨g6, 8, none⟩ = some (.int .i64 (n10 : Nat)) := cell_of (ho2.block 0 rfl) rfl
  have i9 : W.cell? ⟨g6, 9, none⟩ = some (.int .u32 (n12 : Nat)) := cell_of (ho2.block 0 rfl) rfl
  have i10 : W.cell? ⟨g6, 10, none⟩ = some (.int .u32 (n16 : Nat)) := cell_of (ho2.block 0 rfl) rfl
  clear ho2 hfl2
  go_cut [8] (fun v8 wx => ∃ bad : Int, v8 = .int .i64 bad ∧ In F0 w0 wx (Cells g6 (hC n0 n1 n2 n4 nf n7 n8 n9 n10 n12 n16) 84 :: ByR (.slice va rest.length vc) rest :: Cells (gt + 1) hz 84 :: Cells gt tz 24 :: R) ∧ (bad = 0 → 8 ≤ rest.length ∧ withinD b = (⟨n12, n16, n9, p16 rest 0, p16 rest 2⟩, readH b, rest, 0)) ∧ (bad ≠ 0 → withinD b = (zT0, zH, [], bad)))
  case first =>
    cases hwh : (decide ((nf : Int) % 2 = 0) && decide ((n7 : Int) = 0)) with
    | false =>
      rw [hwh] at KW
      have HC : Hid (withinD b = (zT0, zH, [], 6)) := Lib.hid (by rw [HW2.out, hwh]; exact if_pos rfl)
      clear HW2 hwh HO HE
      go_wp2_with fail
      refine KW.out.mono ?_
      rintro e w2 ⟨rfl, ho⟩
      have HO := Lib.hid ho
      clear ho KW i0 i1 i2 i3 i4 i5 i6 i7 i8 i9 i10
      go_wp2_with fail
      go_meet
      exact ⟨6, rfl, HO.out, fun h => absurd h (by decide), fun _ => HC.out⟩
    | true =>
      rw [hwh] at KW
      by_cases h6 : n9 = 6
      · have h6' : ((n9 : Int) == 6) = true := by rw [h6]; rfl
        have h6'' : ((n9 : Int) != 6) = false := by rw [h6]; rfl
        have h17' : ((n9 : Int) == 17) = false := by rw [h6]; rfl
        have HC := Lib.hid (show withinD b = if tcpOk rest = true then (⟨n12, n16, n9, p16 rest 0, p16 rest 2⟩, readH b, rest, 0) else (zT0, zH, [], 9) by rw [HW2.out, hwh, if_neg (by decide), if_pos (by omega)])
        clear HW2 hwh h6 HE HO
        go_wp2_with fail
        refine KW.out.mono ?_
        rintro e w2 ⟨rfl, ho⟩
        have c7 : w2.cell? ⟨g6, 7, none⟩ = some (.int .i64 (n9 : Nat)) := cell_of (ho.block 0 rfl) rfl
        have HO := Lib.hid ho
        have hbb := ByR.bytes 1 rfl ho
        clear ho KW i0 i1 i2 i3 i4 i5 i6 i7 i8 i9 i10
        by_cases hl : rest.length < 20
        · have hl' : (rest.length : Int) < 20 := by omega
          have HB : Hid (withinD b = (zT0, zH, [], 9)) := Lib.hid (by rw [HC.out, if_neg (by unfold tcpOk; simp; omega)])
          clear HC hl hbb hsp
          go_wp2_with fail
          go_meet
          exact ⟨9, rfl, HO.out, fun h => absurd h (by decide), fun _ => HB.out⟩
        · have hl' : ¬ ((rest.length : Int) < 20) := by omega
          obtain ⟨rg, ro, rfl, hcell⟩ := hbb.cells (by omega)
          obtain ⟨x, y, bx, vx, lx, kx⟩ := byteAt hcell (i := 12) (by omega)
          have e12 : byN rest 12 = y := by rw [byN_get bx, vx]
          have k12 := kx _ HO.out
          have hi12 : (12 : Int) < (rest.length : Int) := by omega
          obtain ⟨m, hm⟩ : ∃ m, m = y / 16 := ⟨_, rfl⟩
          have hq : (y : Int) / 16 = (m : Int) := by omega
          have hw1 : IntKind.i64.wrap (m : Int) = (m : Int) := IntWalk.i64_in _ (by omega)
          have hw4 : IntKind.i64.wrap (4 * (m : Int)) = 4 * (m : Int) := IntWalk.i64_in _ (by omega)
          have htc : tcpOk rest = (decide (20 ≤ rest.length) && (decide (5 ≤ m) && decide (4 * m ≤ rest.length))) := by unfold tcpOk; rw [e12, hm]
          clear hbb hcell kx bx vx e12 lx hsp
          by_cases hm5 : m < 5
          · have hm5' : (m : Int) < 5 := by omega
            have HB : Hid (withinD b = (zT0, zH, [], 9)) := Lib.hid (by rw [HC.out, if_neg (by rw [htc]; simp; omega)])
            clear HC hl htc hm hm5
            go_wp2_with fail
            go_meet
            exact ⟨9, rfl, HO.out, fun h => absurd h (by decide), fun _ => HB.out⟩
          · have hm5' : ¬ ((m : Int) < 5) := by omega
            by_cases hm4 : rest.length < 4 * m
            · have hm4' : (rest.length : Int) < 4 * (m : Int) := by omega
              have HB : Hid (withinD b = (zT0, zH, [], 9)) := Lib.hid (by rw [HC.out, if_neg (by rw [htc]; simp; omega)])
              clear HC hl htc hm hm5 hm4
              go_wp2_with fail
              go_meet
              exact ⟨9, rfl, HO.out, fun h => absurd h (by decide), fun _ => HB.out⟩
            · have hm4' : ¬ ((rest.length : Int) < 4 * (m : Int)) := by omega
              have HB : Hid (8 ≤ rest.length ∧ withinD b = (⟨n12, n16, n9, p16 rest 0, p16 rest 2⟩, readH b, rest, 0)) := Lib.hid ⟨by omega, by rw [HC.out, if_pos (by rw [htc]; simp; omega)]⟩
              have c7n : ∀ n, (w2.drewN n).cell? ⟨g6, 7, none⟩ = some (.int .i64 (n9 : Nat)) := fun n => cell_of ((HO.out.drewN n).block 0 rfl) rfl
              have HON := Lib.hid (fun n => HO.out.drewN n)
              clear HC hl htc hm hm5 hm4
              go_wp2_with fail
              go_quiet (fail)
              go_wp2_with fail
              go_meet
              exact ⟨0, rfl, HON.out _, fun _ => HB.out, fun h => absurd rfl h⟩
      have h6' : ((n9 : Int) == 6) = false := by rw [beq_eq_false_iff_ne]; omega
      have h6'' : ((n9 : Int) != 6) = true := by rw [bne_iff_ne]; omega
      by_cases h17 : n9 = 17
      · have h17' : ((n9 : Int) == 17) = true := by rw [h17]; rfl
        have h17'' : ((n9 : Int) != 17) = false := by rw [h17]; rfl
        have HC := Lib.hid (show withinD b = if udpOk rest = true then (⟨n12, n16, n9, p16 rest 0, p16 rest 2⟩, readH b, rest, 0) else (zT0, zH, [], 9) by rw [HW2.out, hwh, if_neg (by decide), if_neg (by omega), if_pos (by omega)])
        clear HW2 hwh h17 h6 HE HO
        go_wp2_with fail
        refine KW.out.mono ?_
        rintro e w2 ⟨rfl, ho⟩
        have c7 : w2.cell? ⟨g6, 7, none⟩ = some (.int .i64 (n9 : Nat)) := cell_of (ho.block 0 rfl) rfl
        have c7n : ∀ n, (w2.drewN n).cell? ⟨g6, 7, none⟩ = some (.int .i64 (n9 : Nat)) := fun n => cell_of ((ho.drewN n).block 0 rfl) rfl
        have HON := Lib.hid (fun n => ho.drewN n)
        have hbb := ByR.bytes 1 rfl ho
        clear ho KW i0 i1 i2 i3 i4 i5 i6 i7 i8 i9 i10
        by_cases hl : rest.length < 8
        · have hl' : (rest.length : Int) < 8 := by omega
          have HB : Hid (withinD b = (zT0, zH, [], 9)) := Lib.hid (by rw [HC.out, if_neg (by unfold udpOk; simp; omega)])
          clear HC hl hbb hsp
          go_wp2_with fail
          go_quiet (fail)
          go_wp2_with fail
          go_meet
          exact ⟨9, rfl, HON.out _, fun h => absurd h (by decide), fun _ => HB.out⟩
        · have hl' : decide ((rest.length : Int) < 8) = false := decide_eq_false (by omega)
          have hlN : decide (rest.length < 8) = false := decide_eq_false hl
          obtain ⟨rg, ro, rfl, hcell⟩ := hbb.cells (by omega)
          obtain ⟨x4, y4, b4, v4, l4, k4⟩ := byteAt hcell (i := 4) (by omega)
          obtain ⟨x5, y5, b5, v5, l5, k5⟩ := byteAt hcell (i := 5) (by omega)
          have e4 : p16 rest 4 = y4 * 256 + y5 := by unfold p16; rw [byN_get b4, v4, byN_get b5, v5]
          have m4 : ∀ n, (w2.drewN n).cell? ⟨rg, ro + 4, none⟩ = some (.int .u8 (y4 : Nat)) := fun n => k4 _ (HON.out n)
          have m5 : ∀ n, (w2.drewN n).cell? ⟨rg, ro + 5, none⟩ = some (.int .u8 (y5 : Nat)) := fun n => k5 _ (HON.out n)
          have hi4 : (4 : Int) < (rest.length : Int) := by omega
          have hi5 : (5 : Int) < (rest.length : Int) := by omega
          obtain ⟨m, hm⟩ : ∃ m, m = y4 * 256 + y5 := ⟨_, rfl⟩
          have hq := or_two l4 l5
          have hw1 : IntKind.i64.wrap (y4 : Int) = (y4 : Int) := IntWalk.i64_in _ (by omega)
          have hw2 : IntKind.i64.wrap (y5 : Int) = (y5 : Int) := IntWalk.i64_in _ (by omega)
          have hw3 : IntKind.i64.wrap ((y4 : Int) * 256) = (y4 : Int) * 256 := IntWalk.i64_in _ (by omega)
          rw [← hm] at hq
          have htc : udpOk rest = (decide (8 ≤ rest.length) && (decide (8 ≤ m) && decide (m ≤ rest.length))) := by unfold udpOk; rw [e4, hm]
          clear hbb hcell k4 k5 b4 b5 v4 v5 e4 l4 l5 hm hsp
          by_cases hm5 : m < 8
          · have hm5' : decide ((m : Int) < 8) = true := decide_eq_true (by omega)
            have hm5N : decide (m < 8) = true := decide_eq_true hm5
            have HB : Hid (withinD b = (zT0, zH, [], 9)) := Lib.hid (by rw [HC.out, if_neg (by rw [htc]; simp; omega)])
            clear HC hl htc hm5
            go_wp2_with fail
            go_quiet (fail)
            go_wp2_with fail
            go_meet
            exact ⟨9, rfl, HON.out _, fun h => absurd h (by decide), fun _ => HB.out⟩
          · have hm5' : decide ((m : Int) < 8) = false := decide_eq_false (by omega)
            have hm5N : decide (m < 8) = false := decide_eq_false hm5
            by_cases hm4 : rest.length < m
            · have hm4' : decide ((rest.length : Int) < (m : Int)) = true := decide_eq_true (by omega)
              have hm4N : decide (rest.length < m) = true := decide_eq_true hm4
              have HB : Hid (withinD b = (zT0, zH, [], 9)) := Lib.hid (by rw [HC.out, if_neg (by rw [htc]; simp; omega)])
              clear HC hl htc hm5 hm4
              go_wp2_with fail
              go_quiet (fail)
              go_wp2_with fail
              go_meet
              exact ⟨9, rfl, HON.out _, fun h => absurd h (by decide), fun _ => HB.out⟩
            · have hm4' : decide ((rest.length : Int) < (m : Int)) = false := decide_eq_false (by omega)
              have hm4N : decide (rest.length < m) = false := decide_eq_false hm4
              have HB : Hid (8 ≤ rest.length ∧ withinD b = (⟨n12, n16, n9, p16 rest 0, p16 rest 2⟩, readH b, rest, 0)) := Lib.hid ⟨by omega, by rw [HC.out, if_pos (by rw [htc]; simp; omega)]⟩
              clear HC hl htc hm5 hm4
              go_wp2_with fail
              go_quiet (fail)
              go_wp2_with fail
              go_meet
              exact ⟨0, rfl, HON.out _, fun _ => HB.out, fun h => absurd rfl h⟩
      have h17'' : ((n9 : Int) != 17) = true := by rw [bne_iff_ne]; omega
      have HC : Hid (withinD b = (zT0, zH, [], 8)) := Lib.hid (by rw [HW2.out, hwh, if_neg (by decide), if_neg (by omega), if_neg (by omega)])
      clear HW2 hwh h17 h6 HE HO
      go_wp2_with fail
      refine KW.out.mono ?_
      rintro e w2 ⟨rfl, ho⟩
      have c7 : w2.cell? ⟨g6, 7, none⟩ = some (.int .i64 (n9 : Nat)) := cell_of (ho.block 0 rfl) rfl
      have HO := Lib.hid ho
      clear ho KW i0 i1 i2 i3 i4 i5 i6 i7 i8 i9 i10
      go_wp2_with fail
      go_meet
      exact ⟨8, rfl, HO.out, fun h => absurd h (by decide), fun _ => HC.out⟩
  case rest =>
  obtain ⟨bad, rfl, ho, hok, hbad⟩ := hcut
  clear KW i0 i1 i2 i3 i4 i5 i6 i7 i8 i9 i10 HW2 HO
  by_cases hb0 : bad = 0
  case neg =>
    have HBD := Lib.hid (hbad hb0)
    have hb' : (bad != 0) = true := by rw [bne_iff_ne]; exact hb0
    have HO := Lib.hid ho
    clear ho hok hbad hb0 HE hsp
    obtain ⟨z1, z2, z3⟩ := two_store (C' := tz) (D' := hz) (HO.out.sel2 (R1 := [_, _, _, _]) (R2 := R) [3, 2] (by decide) rfl) rfl rfl
    have Z3 := Lib.hid z3
    have q := Lib.hid (TupPost.err (r := bad) Z3.out.drop.drop (HBD.out))
    clear z3
    go_wp2_with (first | (refine wpList_store_mid (op := ⟨none, Op.store 24 (.tmp 2) (.tmp 99), _, _, _, _⟩) (by rfl) 24 (.tmp 2) (.tmp 99) rfl gt 0 tz (by rfl) (by rfl) z1 (by kernel_rfl) (tz_all _ _ _ _ _) ?_) | (refine wpList_store_mid (op := ⟨none, Op.store 84 (.tmp 3) (.tmp 100), _, _, _, _⟩) (by rfl) 84 (.tmp 3) (.tmp 100) rfl (gt + 1) 0 hz (by rfl) (by rfl) z2 (by kernel_rfl) (hC_all _ _ _ _ _ _ _ _ _ _ _) ?_))
    exact bodyPost_ret (results_cell2_tmp_row Tryz.results30 _ _ gt (gt + 1) 24 84 _ _ (0, 0) (0, 0) _ _ rfl (Z3.out.block 0 rfl) rfl (Z3.out.block 1 rfl) Tryz.underlying24 rfl (by kernel_rfl) Tryz.underlying84 rfl (by kernel_rfl)) rfl q.out
  subst hb0
  obtain ⟨hl8, hwd⟩ := hok rfl
  have w00 : ((0 : Int) != 0) = false := rfl
  have hbb := ByR.bytes 1 rfl ho
  obtain ⟨rg, ro, rfl, hcell⟩ := hbb.cells (by omega)
  obtain ⟨x0, y0, b0, v0, l0, k0⟩ := byteAt hcell (i := 0) (by omega)
  obtain ⟨x1, y1, b1, v1, l1, k1⟩ := byteAt hcell (i := 1) (by omega)
  obtain ⟨x2, y2, b2, v2, l2, k2⟩ := byteAt hcell (i := 2) (by omega)
  obtain ⟨x3, y3, b3, v3, l3, k3⟩ := byteAt hcell (i := 3) (by omega)
  have e0 : p16 rest 0 = y0 * 256 + y1 := by unfold p16; rw [byN_get b0, v0, byN_get b1, v1]
  have e2 : p16 rest 2 = y2 * 256 + y3 := by unfold p16; rw [byN_get b2, v2, byN_get b3, v3]
  rw [e0, e2] at hwd
  obtain ⟨m0, hm0⟩ : ∃ m, m = y0 * 256 + y1 := ⟨_, rfl⟩
  obtain ⟨m2, hm2⟩ : ∃ m, m = y2 * 256 + y3 := ⟨_, rfl⟩
  have hq0 := or_two l0 l1
  have hq2 := or_two l2 l3
  rw [← hm0] at hq0 hwd
  rw [← hm2] at hq2 hwd
  have ww0 : IntKind.i64.wrap (y0 : Int) = (y0 : Int) := IntWalk.i64_in _ (by omega)
  have ww1 : IntKind.i64.wrap (y1 : Int) = (y1 : Int) := IntWalk.i64_in _ (by omega)
  have ww2 : IntKind.i64.wrap (y2 : Int) = (y2 : Int) := IntWalk.i64_in _ (by omega)
  have ww3 : IntKind.i64.wrap (y3 : Int) = (y3 : Int) := IntWalk.i64_in _ (by omega)
  have ws0 : IntKind.i64.wrap ((y0 : Int) * 256) = (y0 : Int) * 256 := IntWalk.i64_in _ (by omega)
  have ws2 : IntKind.i64.wrap ((y2 : Int) * 256) = (y2 : Int) * 256 := IntWalk.i64_in _ (by omega)
  have HMK : Hid (∀ W (C D : Array Value), C.size = 5 → D.size = 11 → In F0 w0 W (Cells g6 (hC n0 n1 n2 n4 nf n7 n8 n9 n10 n12 n16) 84 :: ByR (.slice (some ⟨rg, ro, none⟩) rest.length vc) rest :: Cells (gt + 1) D 84 :: Cells gt C 24 :: R) → (fun w' => HcS g6 (gt + 1) n0 n1 n2 n4 nf n7 n8 n9 n10 n12 n16 w' ∧ w'.cell? ⟨rg, ro, none⟩ = some (.int .u8 (y0 : Nat)) ∧ w'.cell? ⟨rg, ro + 1, none⟩ = some (.int .u8 (y1 : Nat)) ∧ w'.cell? ⟨rg, ro + 2, none⟩ = some (.int .u8 (y2 : Nat)) ∧ w'.cell? ⟨rg, ro + 3, none⟩ = some (.int .u8 (y3 : Nat)) ∧ w'.there gt 0 5) W) := Lib.hid (fun W C D hC hD hW => by
    have hsr := ByR.src hW 1 rfl
    refine ⟨HcS.of (hW.block 0 rfl) (by have := there_of (hW.block 2 rfl); rwa [hD] at this), ?_, ?_, ?_, ?_, by have := there_of (hW.block 3 rfl); rwa [hC] at this⟩
    · have := src_at hsr (by omega) b0; rwa [v0] at this
    · have := src_at hsr (by omega) b1; rwa [v1] at this
    · have := src_at hsr (by omega) b2; rwa [v2] at this
    · have := src_at hsr (by omega) b3; rwa [v3] at this)
  have HD : Hid (In F0 w0 wc.drew (Cells g6 (hC n0 n1 n2 n4 nf n7 n8 n9 n10 n12 n16) 84 :: ByR (.slice (some ⟨rg, ro, none⟩) rest.length vc) rest :: Cells (gt + 1) hz 84 :: Cells gt tz 24 :: R)) := Lib.hid (ho.drewN 1)
  have hS := HMK.out wc.drew tz hz rfl rfl HD.out
  have i0 : 0 < rest.length := by omega
  have i1 : (1 : Int) < (rest.length : Int) := by omega
  have i2 : (2 : Int) < (rest.length : Int) := by omega
  have i3 : (3 : Int) < (rest.length : Int) := by omega
  have HWD := Lib.hid hwd
  clear ho hok hbad hwd hl8 hbb hcell k0 k1 k2 k3 b0 b1 b2 b3 v0 v1 v2 v3 l0 l1 l2 l3 e0 e2 hm0 hm2 hsp
  go_upto_region 15 with fail
  refine e_start (fun w' => HcS g6 (gt + 1) n0 n1 n2 n4 nf n7 n8 n9 n10 n12 n16 w' ∧ w'.cell? ⟨rg, ro, none⟩ = some (.int .u8 (y0 : Nat)) ∧ w'.cell? ⟨rg, ro + 1, none⟩ = some (.int .u8 (y1 : Nat)) ∧ w'.cell? ⟨rg, ro + 2, none⟩ = some (.int .u8 (y2 : Nat)) ∧ w'.cell? ⟨rg, ro + 3, none⟩ = some (.int .u8 (y3 : Nat)) ∧ w'.there gt 0 5) (by kernel_rfl) hS (fun hS => ?_)
  generalize wc.drew = VD at *
  refine e_take (i := 0) (v := ?_) rfl (by kernel_rfl) (fun _ _ _ h => h) (by rfl) ?_ hS ?_
  rotate_left
  · (intro w hSw; (try dsimp only at hSw); unfold HcS at hSw; go_simp; try with_reducible rfl)
  try simp only [Act.put, List.setIfInBounds_toArray, List.set_cons_zero, List.set_cons_succ]
  refine e_take (i := 1) (v := ?_) rfl (by kernel_rfl) (fun _ _ _ h => h) (by rfl) ?_ hS ?_
  rotate_left
  · (intro w hSw; (try dsimp only at hSw); unfold HcS at hSw; go_simp; try with_reducible rfl)
  try simp only [Act.put, List.setIfInBounds_toArray, List.set_cons_zero, List.set_cons_succ]
  refine e_take (i := 2) (v := ?_) rfl (by kernel_rfl) (fun _ _ _ h => h) (by rfl) ?_ hS ?_
  rotate_left
  · (intro w hSw; (try dsimp only at hSw); unfold HcS at hSw; go_simp; try with_reducible rfl)
  try simp only [Act.put, List.setIfInBounds_toArray, List.set_cons_zero, List.set_cons_succ]
  refine e_take (i := 3) (v := ?_) rfl (by kernel_rfl) (fun _ _ _ h => h) (by rfl) ?_ hS ?_
  rotate_left
  · (intro w hSw; (try dsimp only at hSw); unfold HcS at hSw; go_simp; try with_reducible rfl)
  try simp only [Act.put, List.setIfInBounds_toArray, List.set_cons_zero, List.set_cons_succ]
  refine e_take (i := 4) (v := ?_) rfl (by kernel_rfl) (fun _ _ _ h => h) (by rfl) ?_ hS ?_
  rotate_left
  · (intro w hSw; (try dsimp only at hSw); unfold HcS at hSw; go_simp; try with_reducible rfl)
  try simp only [Act.put, List.setIfInBounds_toArray, List.set_cons_zero, List.set_cons_succ]
  refine e_take (i := 5) (v := ?_) rfl (by kernel_rfl) (fun _ _ _ h => h) (by rfl) ?_ hS ?_
  rotate_left
  · (intro w hSw; (try dsimp only at hSw); unfold HcS at hSw; go_simp; try with_reducible rfl)
  try simp only [Act.put, List.setIfInBounds_toArray, List.set_cons_zero, List.set_cons_succ]
  refine e_take (i := 6) (v := ?_) rfl (by kernel_rfl) (fun _ _ _ h => h) (by rfl) ?_ hS ?_
  rotate_left
  · (intro w hSw; (try dsimp only at hSw); unfold HcS at hSw; go_simp; try with_reducible rfl)
  try simp only [Act.put, List.setIfInBounds_toArray, List.set_cons_zero, List.set_cons_succ]
  refine e_take (i := 7) (v := ?_) rfl (by kernel_rfl) (fun _ _ _ h => h) (by rfl) ?_ hS ?_
  rotate_left
  · (intro w hSw; (try dsimp only at hSw); unfold HcS at hSw; go_simp; try with_reducible rfl)
  try simp only [Act.put, List.setIfInBounds_toArray, List.set_cons_zero, List.set_cons_succ]
  refine e_take (i := 8) (v := ?_) rfl (by kernel_rfl) (fun _ _ _ h => h) (by rfl) ?_ hS ?_
  rotate_left
  · (intro w hSw; (try dsimp only at hSw); unfold HcS at hSw; go_simp; try with_reducible rfl)
  try simp only [Act.put, List.setIfInBounds_toArray, List.set_cons_zero, List.set_cons_succ]
  refine e_take (i := 9) (v := ?_) rfl (by kernel_rfl) (fun _ _ _ h => h) (by rfl) ?_ hS ?_
  rotate_left
  · (intro w hSw; (try dsimp only at hSw); unfold HcS at hSw; go_simp; try with_reducible rfl)
  try simp only [Act.put, List.setIfInBounds_toArray, List.set_cons_zero, List.set_cons_succ]
  refine e_take (i := 10) (v := ?_) rfl (by kernel_rfl) (fun _ _ _ h => h) (by rfl) ?_ hS ?_
  rotate_left
  · (intro w hSw; (try dsimp only at hSw); unfold HcS at hSw; go_simp; try with_reducible rfl)
  try simp only [Act.put, List.setIfInBounds_toArray, List.set_cons_zero, List.set_cons_succ]
  refine e_take (i := 11) (v := ?_) rfl (by kernel_rfl) (fun _ _ _ h => h) (by rfl) ?_ hS ?_
  rotate_left
  · (intro w hSw; (try dsimp only at hSw); unfold HcS at hSw; go_simp; try with_reducible rfl)
  try simp only [Act.put, List.setIfInBounds_toArray, List.set_cons_zero, List.set_cons_succ]
  refine e_take (i := 12) (v := ?_) rfl (by kernel_rfl) (fun _ _ _ h => h) (by rfl) ?_ hS ?_
  rotate_left
  · (intro w hSw; (try dsimp only at hSw); unfold HcS at hSw; go_simp; try with_reducible rfl)
  try simp only [Act.put, List.setIfInBounds_toArray, List.set_cons_zero, List.set_cons_succ]
  refine e_take (i := 13) (v := ?_) rfl (by kernel_rfl) (fun _ _ _ h => h) (by rfl) ?_ hS ?_
  rotate_left
  · (intro w hSw; (try dsimp only at hSw); unfold HcS at hSw; go_simp; try with_reducible rfl)
  try simp only [Act.put, List.setIfInBounds_toArray, List.set_cons_zero, List.set_cons_succ]
  refine e_take (i := 14) (v := ?_) rfl (by kernel_rfl) (fun _ _ _ h => h) (by rfl) ?_ hS ?_
  rotate_left
  · (intro w hSw; (try dsimp only at hSw); unfold HcS at hSw; go_simp; try with_reducible rfl)
  try simp only [Act.put, List.setIfInBounds_toArray, List.set_cons_zero, List.set_cons_succ]
  refine e_take (i := 15) (v := ?_) rfl (by kernel_rfl) (fun _ _ _ h => h) (by rfl) ?_ hS ?_
  rotate_left
  · (intro w hSw; (try dsimp only at hSw); unfold HcS at hSw; go_simp; try with_reducible rfl)
  try simp only [Act.put, List.setIfInBounds_toArray, List.set_cons_zero, List.set_cons_succ]
  refine e_take (i := 16) (v := ?_) rfl (by kernel_rfl) (fun _ _ _ h => h) (by rfl) ?_ hS ?_
  rotate_left
  · (intro w hSw; (try dsimp only at hSw); unfold HcS at hSw; go_simp; try with_reducible rfl)
  try simp only [Act.put, List.setIfInBounds_toArray, List.set_cons_zero, List.set_cons_succ]
  refine e_take (i := 17) (v := ?_) rfl (by kernel_rfl) (fun _ _ _ h => h) (by rfl) ?_ hS ?_
  rotate_left
  · (intro w hSw; (try dsimp only at hSw); unfold HcS at hSw; go_simp; try with_reducible rfl)
  try simp only [Act.put, List.setIfInBounds_toArray, List.set_cons_zero, List.set_cons_succ]
  refine e_take (i := 18) (v := ?_) rfl (by kernel_rfl) (fun _ _ _ h => h) (by rfl) ?_ hS ?_
  rotate_left
  · (intro w hSw; (try dsimp only at hSw); unfold HcS at hSw; go_simp; try with_reducible rfl)
  try simp only [Act.put, List.setIfInBounds_toArray, List.set_cons_zero, List.set_cons_succ]
  refine e_take (i := 19) (v := ?_) rfl (by kernel_rfl) (fun _ _ _ h => h) (by rfl) ?_ hS ?_
  rotate_left
  · (intro w hSw; (try dsimp only at hSw); unfold HcS at hSw; go_simp; try with_reducible rfl)
  try simp only [Act.put, List.setIfInBounds_toArray, List.set_cons_zero, List.set_cons_succ]
  refine e_take (i := 20) (v := ?_) rfl (by kernel_rfl) (fun _ _ _ h => h) (by rfl) ?_ hS ?_
  rotate_left
  · (intro w hSw; (try dsimp only at hSw); unfold HcS at hSw; go_simp; try with_reducible rfl)
  try simp only [Act.put, List.setIfInBounds_toArray, List.set_cons_zero, List.set_cons_succ]
  refine e_take (i := 21) (v := ?_) rfl (by kernel_rfl) (fun _ _ _ h => h) (by rfl) ?_ hS ?_
  rotate_left
  · (intro w hSw; (try dsimp only at hSw); unfold HcS at hSw; go_simp; try with_reducible rfl)
  try simp only [Act.put, List.setIfInBounds_toArray, List.set_cons_zero, List.set_cons_succ]
  refine e_take (i := 22) (v := ?_) rfl (by kernel_rfl) (fun _ _ _ h => h) (by rfl) ?_ hS ?_
  rotate_left
  · (intro w hSw; (try dsimp only at hSw); unfold HcS at hSw; go_simp; try with_reducible rfl)
  try simp only [Act.put, List.setIfInBounds_toArray, List.set_cons_zero, List.set_cons_succ]
  refine e_take (i := 23) (v := ?_) rfl (by kernel_rfl) (fun _ _ _ h => h) (by rfl) ?_ hS ?_
  rotate_left
  · (intro w hSw; (try dsimp only at hSw); unfold HcS at hSw; go_simp; try with_reducible rfl)
  try simp only [Act.put, List.setIfInBounds_toArray, List.set_cons_zero, List.set_cons_succ]
  refine e_take (i := 24) (v := ?_) rfl (by kernel_rfl) (fun _ _ _ h => h) (by rfl) ?_ hS ?_
  rotate_left
  · (intro w hSw; (try dsimp only at hSw); unfold HcS at hSw; go_simp; try with_reducible rfl)
  try simp only [Act.put, List.setIfInBounds_toArray, List.set_cons_zero, List.set_cons_succ]
  refine e_take (i := 25) (v := ?_) rfl (by kernel_rfl) (fun _ _ _ h => h) (by rfl) ?_ hS ?_
  rotate_left
  · (intro w hSw; (try dsimp only at hSw); unfold HcS at hSw; go_simp; try with_reducible rfl)
  try simp only [Act.put, List.setIfInBounds_toArray, List.set_cons_zero, List.set_cons_succ]
  refine e_take (i := 26) (v := ?_) rfl (by kernel_rfl) (fun _ _ _ h => h) (by rfl) ?_ hS ?_
  rotate_left
  · (intro w hSw; (try dsimp only at hSw); unfold HcS at hSw; go_simp; try with_reducible rfl)
  try simp only [Act.put, List.setIfInBounds_toArray, List.set_cons_zero, List.set_cons_succ]
  refine e_take (i := 27) (v := ?_) rfl (by kernel_rfl) (fun _ _ _ h => h) (by rfl) ?_ hS ?_
  rotate_left
  · (intro w hSw; (try dsimp only at hSw); unfold HcS at hSw; go_simp; try with_reducible rfl)
  try simp only [Act.put, List.setIfInBounds_toArray, List.set_cons_zero, List.set_cons_succ]
  have HI1 : Hid (In F0 w0 (VD.setCells gt 0 [.int .u32 (n12 : Nat), .int .u32 (n16 : Nat), .int .i64 (n9 : Nat), .int .i64 (m0 : Nat), .int .i64 (m2 : Nat)]) (Cells g6 (hC n0 n1 n2 n4 nf n7 n8 n9 n10 n12 n16) 84 :: ByR (.slice (some ⟨rg, ro, none⟩) rest.length vc) rest :: Cells (gt + 1) hz 84 :: Cells gt #[.int .u32 (n12 : Nat), .int .u32 (n16 : Nat), .int .i64 (n9 : Nat), .int .i64 (m0 : Nat), .int .i64 (m2 : Nat)] 24 :: R)) := Lib.hid (HD.out.setFull 3 rfl (xs := [.int .u32 (n12 : Nat), .int .u32 (n16 : Nat), .int .i64 (n9 : Nat), .int .i64 (m0 : Nat), .int .i64 (m2 : Nat)]) (b := gt) (C := tz) (T := 24) rfl)
  have HI2 : Hid (In F0 w0 ((VD.setCells gt 0 [.int .u32 (n12 : Nat), .int .u32 (n16 : Nat), .int .i64 (n9 : Nat), .int .i64 (m0 : Nat), .int .i64 (m2 : Nat)]).setCells (gt + 1) 0 [.int .i64 (n0 : Nat), .int .i64 (n1 : Nat), .int .i64 (n2 : Nat), .int .i64 (n4 : Nat), .int .i64 (nf : Nat), .int .i64 (n7 : Nat), .int .i64 (n8 : Nat), .int .i64 (n9 : Nat), .int .i64 (n10 : Nat), .int .u32 (n12 : Nat), .int .u32 (n16 : Nat)]) (Cells g6 (hC n0 n1 n2 n4 nf n7 n8 n9 n10 n12 n16) 84 :: ByR (.slice (some ⟨rg, ro, none⟩) rest.length vc) rest :: Cells (gt + 1) (hC n0 n1 n2 n4 nf n7 n8 n9 n10 n12 n16) 84 :: Cells gt #[.int .u32 (n12 : Nat), .int .u32 (n16 : Nat), .int .i64 (n9 : Nat), .int .i64 (m0 : Nat), .int .i64 (m2 : Nat)] 24 :: R)) := Lib.hid (HI1.out.setFull 2 rfl (xs := [.int .i64 (n0 : Nat), .int .i64 (n1 : Nat), .int .i64 (n2 : Nat), .int .i64 (n4 : Nat), .int .i64 (nf : Nat), .int .i64 (n7 : Nat), .int .i64 (n8 : Nat), .int .i64 (n9 : Nat), .int .i64 (n10 : Nat), .int .u32 (n12 : Nat), .int .u32 (n16 : Nat)]) (b := gt + 1) (C := hz) (T := 84) rfl)
  have HS1 := Lib.hid (HMK.out _ #[.int .u32 (n12 : Nat), .int .u32 (n16 : Nat), .int .i64 (n9 : Nat), .int .i64 (m0 : Nat), .int .i64 (m2 : Nat)] hz rfl rfl HI1.out)
  have HS2 := Lib.hid (HMK.out _ #[.int .u32 (n12 : Nat), .int .u32 (n16 : Nat), .int .i64 (n9 : Nat), .int .i64 (m0 : Nat), .int .i64 (m2 : Nat)] (hC n0 n1 n2 n4 nf n7 n8 n9 n10 n12 n16) rfl rfl HI2.out)
  have Z1 : Hid (VD.there gt 0 5) := Lib.hid (there_of (HD.out.block 3 rfl))
  have Z2 : Hid ((VD.setCells gt 0 [.int .u32 (n12 : Nat), .int .u32 (n16 : Nat), .int .i64 (n9 : Nat), .int .i64 (m0 : Nat), .int .i64 (m2 : Nat)]).there (gt + 1) 0 11) := Lib.hid (there_of (HI1.out.block 2 rfl))
  clear hS
  refine e_pin (i := 28) rfl (by kernel_rfl) (fun K' hK => ?_)
  refine store_step (by rfl) 24 (.tmp 2) (.tmp 128) (by rfl) gt 0 #[.int .u32 (n12 : Nat), .int .u32 (n16 : Nat), .int .i64 (n9 : Nat), .int .i64 (m0 : Nat), .int .i64 (m2 : Nat)] (by rfl) (by rfl) Z1.out (by kernel_rfl) (tz_all _ _ _ _ _) ?_
  refine hK.out _ _ HS1.out (fun hS => ?_)
  clear hK K' HS1 Z1 hS
  try simp only [Act.put, List.setIfInBounds_toArray, List.set_cons_zero, List.set_cons_succ]
  refine e_pin (i := 29) rfl (by kernel_rfl) (fun K' hK => ?_)
  refine store_step (by rfl) 84 (.tmp 3) (.tmp 129) (by rfl) (gt + 1) 0 (hC n0 n1 n2 n4 nf n7 n8 n9 n10 n12 n16) (by rfl) (by rfl) Z2.out (by kernel_rfl) (hC_all _ _ _ _ _ _ _ _ _ _ _) ?_
  refine hK.out _ _ HS2.out (fun hS => ?_)
  clear hK K' HS2 Z2 hS
  try simp only [Act.put, List.setIfInBounds_toArray, List.set_cons_zero, List.set_cons_succ]
  refine e_last (i := 30) rfl (by kernel_rfl) (fun K' hK => ?_)
  go_simp
  refine hK.out _ _ ?_
  clear hK K'
  have q : Hid (TupPost b F0 w0 R (.returned (.tuple #[.agg #[.int .u32 (n12 : Nat), .int .u32 (n16 : Nat), .int .i64 (n9 : Nat), .int .i64 (m0 : Nat), .int .i64 (m2 : Nat)], .agg (hC n0 n1 n2 n4 nf n7 n8 n9 n10 n12 n16), .int .i64 0])) ((VD.setCells gt 0 [.int .u32 (n12 : Nat), .int .u32 (n16 : Nat), .int .i64 (n9 : Nat), .int .i64 (m0 : Nat), .int .i64 (m2 : Nat)]).setCells (gt + 1) 0 [.int .i64 (n0 : Nat), .int .i64 (n1 : Nat), .int .i64 (n2 : Nat), .int .i64 (n4 : Nat), .int .i64 (nf : Nat), .int .i64 (n7 : Nat), .int .i64 (n8 : Nat), .int .i64 (n9 : Nat), .int .i64 (n10 : Nat), .int .u32 (n12 : Nat), .int .u32 (n16 : Nat)])) := Lib.hid ⟨by rw [HWD.out, HE.out], HI2.out.drop.drop.drop.drop⟩
  go_wp2_with fail
  exact bodyPost_ret (results_cell2_tmp_row Tryz.results30 _ _ gt (gt + 1) 24 84 _ _ (0, 0) (0, 0) _ _ rfl (HI2.out.block 3 rfl) rfl (HI2.out.block 2 rfl) Tryz.underlying24 rfl (by kernel_rfl) Tryz.underlying84 rfl (by kernel_rfl)) rfl q.out
end
end Go.Proofs.YtgapbecddgfkmaaGreat
