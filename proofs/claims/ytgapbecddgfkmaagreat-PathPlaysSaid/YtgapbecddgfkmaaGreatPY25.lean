/- Rows.PathPlaysSaid -/
import Derived.Test.YtgapbecddgfkmaaGreatPY24
import Derived.Test.YtgapbecddgfkmaaGreatPY10
import Derived.Deep.DeepCutAuto
import Derived.Deep.RegionHeld3
namespace Go.Proofs.YtgapbecddgfkmaaGreat
open Go.RowKit
set_option linter.unusedVariables false
set_option maxHeartbeats 64000000
set_option maxRecDepth 100000
section
variable {F0 : List Nat} {w0 w : World} {R : List Asrt}
theorem tb_slot {l : List Bk} {m gt gn gb i j lf : Nat} {cs : List Nat} {b : Bk} (hm : 3 ≤ m ∧ m ≤ 251) (hc : ∀ s, 1 ≤ s → s < m → Cov m s) (hi : i < m) (hfo : FillOk m l.length (fillM (takesM l 0) m (rowsM l m) i) i) (hcs : CsOk m l (fillM (takesM l 0) m (rowsM l m) i) cs i) (hb0 : 0 ≤ b.id) (hj : (takesM l 0).getD (i % (takesM l 0).length) 0 = j) (hb : l[j]? = some b) (hl16 : l.length ≤ 16) (hlf : 1 ≤ lf ∧ lf ≤ 251) (h : TbIn l m gt gn i cs F0 w0 (Cells gb (bkC b) 33 :: R) w)
    {z0 z2 z3 z4 z6 z13 z14 z15 z16 z17 z18 z19 z20 z21 z22 z23 z24 z25 z26 z27 z28 z29 z30 z31 z32 z33 z34 z35 z36 z37 z38 z39 z40 z41 z42 z43 z44 z45 z46 z47 z48 z49 z50 z51 z52 z53 z54 z55 z56 z57 z58 z59 z60 z61 z62 z63 z64 z65 z66 z67 z68 z69 z70 z71 z72 z73 z74 z75 z76 z77 z78 z79 z80 z81 z82 z83 z84 z85 z86 z87 z88 z89 z90 z91 z92 z93 z94 z95 z96 z97 : Value} {Q : Exit → Act → World → Prop}
    (hK : ∀ (f : Nat → Value) (wz : World), (∃ cs', CsOk m l (fillM (takesM l 0) m (rowsM l m) (i + 1)) cs' (i + 1) ∧ TbIn l m gt gn (i + 1) cs' F0 w0 (Cells gb (bkC b) 33 :: R) wz) → Q .normal ⟨#[z0, .int .i64 m, z2, z3, z4, .slice (some ⟨gt, 0, none⟩) m m, z6, .slice (some ⟨gn, 0, none⟩) l.length l.length, .int .i64 ((lf : Int) - 1), .int .i64 j, .pointer (some ⟨gb, 0, none⟩), .int .i64 (firstN b.id m), .int .i64 (skipN b.id m), z13, f 14, z15, z16, z17, z18, z19, z20, z21, z22, z23, z24, z25, z26, z27, z28, z29, z30, z31, z32, z33, z34, z35, z36, z37, z38, z39, z40, z41, z42, z43, z44, z45, z46, z47, z48, z49, z50, z51, z52, z53, z54, z55, z56, z57, z58, z59, z60, z61, z62, z63, z64, z65, z66, z67, f 68, f 69, f 70, f 71, f 72, f 73, f 74, f 75, f 76, f 77, f 78, f 79, f 80, f 81, f 82, f 83, f 84, f 85, f 86, f 87, f 88, f 89, f 90, f 91, f 92, f 93, f 94, f 95, z96, z97], []⟩ wz) :
    Code.wp Tryz.prog tbB8 Q ⟨#[z0, .int .i64 m, z2, z3, z4, .slice (some ⟨gt, 0, none⟩) m m, z6, .slice (some ⟨gn, 0, none⟩) l.length l.length, .int .i64 lf, .int .i64 j, .pointer (some ⟨gb, 0, none⟩), .int .i64 (firstN b.id m), .int .i64 (skipN b.id m), z13, z14, z15, z16, z17, z18, z19, z20, z21, z22, z23, z24, z25, z26, z27, z28, z29, z30, z31, z32, z33, z34, z35, z36, z37, z38, z39, z40, z41, z42, z43, z44, z45, z46, z47, z48, z49, z50, z51, z52, z53, z54, z55, z56, z57, z58, z59, z60, z61, z62, z63, z64, z65, z66, z67, z68, z69, z70, z71, z72, z73, z74, z75, z76, z77, z78, z79, z80, z81, z82, z83, z84, z85, z86, z87, z88, z89, z90, z91, z92, z93, z94, z95, z96, z97], []⟩ w := by
  refine wp_piece (fun a' w' => ∃ f : Nat → Value, (∃ cs', CsOk m l (fillM (takesM l 0) m (rowsM l m) (i + 1)) cs' (i + 1) ∧ TbIn l m gt gn (i + 1) cs' F0 w0 (Cells gb (bkC b) 33 :: R) w') ∧ a' = (⟨#[z0, .int .i64 m, z2, z3, z4, .slice (some ⟨gt, 0, none⟩) m m, z6, .slice (some ⟨gn, 0, none⟩) l.length l.length, .int .i64 ((lf : Int) - 1), .int .i64 j, .pointer (some ⟨gb, 0, none⟩), .int .i64 (firstN b.id m), .int .i64 (skipN b.id m), z13, f 14, z15, z16, z17, z18, z19, z20, z21, z22, z23, z24, z25, z26, z27, z28, z29, z30, z31, z32, z33, z34, z35, z36, z37, z38, z39, z40, z41, z42, z43, z44, z45, z46, z47, z48, z49, z50, z51, z52, z53, z54, z55, z56, z57, z58, z59, z60, z61, z62, z63, z64, z65, z66, z67, f 68, f 69, f 70, f 71, f 72, f 73, f 74, f 75, f 76, f 77, f 78, f 79, f 80, f 81, f 82, f 83, f 84, f 85, f 86, f 87, f 88, f 89, f 90, f 91, f 92, f 93, f 94, f 95, z96, z97], []⟩ : Act)) (fun a' w' hc => ?_) ?_
  · obtain ⟨f, hc, rfl⟩ := hc
    exact hK f w' hc
  intro J K' hJ hM
  clear hK
  have hjl : j < l.length := (List.getElem?_eq_some_iff.1 hb).1
  obtain ⟨c, hcj⟩ : ∃ c, cs[j]? = some c := ⟨_, List.getElem?_eq_getElem (by rw [hcs.len]; exact hjl)⟩
  obtain ⟨d, hd, hno, hfr, hst, hcs'⟩ := cs_step hm.1 hfo hi hc hcs hb0 hj hb hcj
  rw [← fillM_succ] at hst hcs'
  have hcl := (hcs.row j b _ c hb (List.getElem?_eq_getElem (by rw [hfo.rl]; exact hjl)) hcj).le
  have hcm : c ≤ 251 * 251 := Nat.le_trans hcl (Nat.mul_le_mul (by omega) hm.2)
  have HGE : Hid (∀ p, p < m → -1 ≤ (fillM (takesM l 0) m (rowsM l m) i).1.getD p 0) := Lib.hid (fun p hp => by
    have hpl : p < (fillM (takesM l 0) m (rowsM l m) i).1.length := by rw [hfo.tl]; exact hp
    rw [List.getD_eq_getElem?_getD, List.getElem?_eq_getElem hpl]
    exact hcs.ge _ (List.getElem_mem _))
  have htl := hfo.tl
  have hcn : cs.length = l.length := hcs.len
  have hsk : skipN b.id m ≤ 251 := by
    have : mixN 2 (idB b.id) % (m - 1) < m - 1 := Nat.mod_lt _ (by omega)
    unfold skipN; omega
  have hf1 : firstN b.id m < m := Nat.mod_lt _ (by omega)
  have HEND : Hid (∀ wz, In F0 w0 wz (IR (.slice (some ⟨gt, 0, none⟩) m m) ((fillM (takesM l 0) m (rowsM l m) i).1.set (wayOf b m (c + d)) b.id) :: IR (.slice (some ⟨gn, 0, none⟩) l.length l.length) (nI (cs.set j (c + d + 1))) :: Cells gb (bkC b) 33 :: R) → ∃ cs', CsOk m l (fillM (takesM l 0) m (rowsM l m) (i + 1)) cs' (i + 1) ∧ TbIn l m gt gn (i + 1) cs' F0 w0 (Cells gb (bkC b) 33 :: R) wz) := Lib.hid (fun wz hz => ⟨_, hcs', by unfold TbIn; rw [hst]; exact hz⟩)
  have hcsj : cs.set j (c + 0) = cs := by rw [Nat.add_zero]; (obtain ⟨h1, h2⟩ := List.getElem?_eq_some_iff.1 hcj; rw [← h2]; exact List.set_getElem_self h1)
  have h0 : In F0 w0 w (IR (.slice (some ⟨gt, 0, none⟩) m m) (fillM (takesM l 0) m (rowsM l m) i).1 :: IR (.slice (some ⟨gn, 0, none⟩) l.length l.length) (nI (cs.set j (c + 0))) :: Cells gb (bkC b) 33 :: R) := by rw [hcsj]; exact h
  have HP : Hid (∀ e, wayOf b m (c + e) = (firstN b.id m + (c + e) * skipN b.id m) % m) := Lib.hid (fun e => rfl)
  have HNO := Lib.hid hno
  have HFR := Lib.hid hfr
  have H0 := Lib.hid h0
  have HM := Lib.hid hm
  have HB := Lib.hid (And.intro hjl (And.intro hl16 (And.intro hcn (And.intro htl (And.intro hd hlf)))))
  have HN := Lib.hid (And.intro hcm (And.intro hsk hf1))
  have hlf1 : IntKind.i64.wrap ((lf : Int) - 1) = (lf : Int) - 1 := IntWalk.i64_in _ (by omega)
  clear h h0 hcsj hst hcs' hcl hno hfr hcs hfo hc hj hi hb0
  generalize (fillM (takesM l 0) m (rowsM l m) i).1 = t at *
  obtain ⟨bid, baddr, bwt⟩ := b
  simp only at HP HN HEND HNO HFR H0 hb hsk hf1
  generalize hfi : firstN bid m = fi at *
  generalize hski : skipN bid m = sk at *
  clear hb hcj hcm hsk hf1 htl hcn
  conv => arg 2; whnf
  go_wp2_with fail
  go_loopg [8, 14] d (fun k v8 v14 wr => ∃ e : Nat, v8 = .int .i64 lf ∧ e ≤ d ∧ k = d - e ∧ In F0 w0 wr (IR (.slice (some ⟨gt, 0, none⟩) m m) t :: IR (.slice (some ⟨gn, 0, none⟩) l.length l.length) (nI (cs.set j (c + e))) :: Cells gb (bkC ⟨bid, baddr, bwt⟩) 33 :: R))
  case atStart => exact ⟨0, rfl, Nat.zero_le _, by omega, H0.out⟩
  case round =>
    obtain ⟨e, rfl, he, hk, ho⟩ := hrel
    have hjn : j < (nI (cs.set j (c + e))).length := by rw [nI_len, List.length_set]; have := HB.out; omega
    obtain ⟨cn, fn⟩ := row_int ho 1 rfl (k := j) hjn
    rw [nI_get (c := c + e) (List.getElem?_set_self (by have := HB.out; omega))] at cn
    have hjx : (j : Int) < (l.length : Int) := by have := HB.out; omega
    obtain ⟨x, hx⟩ : ∃ x, x = (c + e) * sk := ⟨_, rfl⟩
    have hxb : x ≤ (251 * 251 + 251) * 251 := by
      rw [hx]; exact Nat.mul_le_mul (by have := HN.out; have := HB.out; have := HM.out; omega) (by have := HN.out; omega)
    have hmul : IntKind.i64.wrap (((c + e : Nat) : Int) * (sk : Int)) = (x : Int) := by
      rw [← Int.natCast_mul, ← hx]; exact IntWalk.i64_in _ (by omega)
    have hadd : IntKind.i64.wrap ((fi : Int) + (x : Int)) = ((fi + x : Nat) : Int) := by
      rw [IntWalk.i64_in _ (by have := HN.out; have := HM.out; omega)]; omega
    obtain ⟨p, hp⟩ : ∃ p, p = wayOf ⟨bid, baddr, bwt⟩ m (c + e) := ⟨_, rfl⟩
    have hpm : p < m := by rw [hp, HP.out]; exact Nat.mod_lt _ (by have := HM.out; omega)
    have hrem : Int.tmod ((fi + x : Nat) : Int) (m : Int) = (p : Int) := by
      rw [Int.tmod_eq_emod_of_nonneg (by omega), hp, HP.out, hx, Int.natCast_emod]
    have hw1 : IntKind.i64.wrap (p : Int) = (p : Int) := IntWalk.i64_in _ (by have := HM.out; omega)
    have hne : ((m : Int) == 0) = false := beq_eq_false_iff_ne.2 (by have := HM.out; omega)
    have hm0 : ¬ ((m : Int) = 0) := by have := HM.out; omega
    have hm0' : ¬ (m = 0) := by have := HM.out; omega
    have hnx : IntKind.i64.wrap (((c + e : Nat) : Int) + 1) = ((c + e : Nat) : Int) + 1 := by
      rw [IntWalk.i64_in _ (by have := HN.out; have := HB.out; have := HM.out; omega)]
    have h1 := row_seti ho 1 rfl (k := j) hjn (((c + e : Nat) : Int) + 1)
    have key : (nI (cs.set j (c + e))).set j (((c + e : Nat) : Int) + 1) = nI (cs.set j (c + e + 1)) := by
      rw [show ((c + e : Nat) : Int) + 1 = ((c + e + 1 : Nat) : Int) by omega, nI_set, List.set_set]
    have H1 : Hid (In F0 w0 (wr.setCell ⟨gn, j, none⟩ (.int .i64 (((c + e : Nat) : Int) + 1))) (IR (.slice (some ⟨gt, 0, none⟩) m m) t :: IR (.slice (some ⟨gn, 0, none⟩) l.length l.length) (nI (cs.set j (c + e + 1))) :: Cells gb (bkC ⟨bid, baddr, bwt⟩) 33 :: R)) := Lib.hid (by rw [← key]; exact h1)
    clear key
    clear h1
    obtain ⟨ct, ft⟩ := row_int H1.out 0 rfl (k := p) (by have := HB.out; omega)
    have d0 : (wr.setCell ⟨gn, j, none⟩ (.int .i64 (((c + e : Nat) : Int) + 1))).cell? ⟨gb, 0, none⟩ = some (.int .i64 bid) := cell_of (H1.out.block 2 rfl) rfl
    have hpx : (p : Int) < (m : Int) := by omega
    by_cases hed : e < d
    · have hv : decide (t.getD p 0 < 0) = false := by
        have := HGE.out p hpm
        have h2 := HNO.out e hed
        rw [← hp] at h2
        exact decide_eq_false (by omega)
      have HR := Lib.hid (show In F0 w0 (wr.setCell ⟨gn, j, none⟩ (.int .i64 (((c + e : Nat) : Int) + 1))) (IR (.slice (some ⟨gt, 0, none⟩) m m) t :: IR (.slice (some ⟨gn, 0, none⟩) l.length l.length) (nI (cs.set j (c + (e + 1)))) :: Cells gb (bkC ⟨bid, baddr, bwt⟩) 33 :: R) from H1.out)
      have HED := Lib.hid (And.intro hed hk)
      generalize t.getD p 0 = tv at *
      clear ho hjn hx hxb hp hpm he hed H1 hk
      generalize c + e = ce at *
      generalize fi + x = fx at *
      go_wp2_with fail
      go_roundg (d - (e + 1))
      case measure => have := HED.out; omega
      case rel => exact ⟨e + 1, rfl, by have := HED.out; omega, rfl, HR.out⟩
    · have hde : e = d := by omega
      rw [hde] at hp H1
      have hv : decide (t.getD p 0 < 0) = true := by rw [hp, HFR.out]; rfl
      have h2 := row_seti H1.out 0 rfl (k := p) (by have := HB.out; omega) bid
      have HR := HEND.out _ (show In F0 w0 _ (IR (.slice (some ⟨gt, 0, none⟩) m m) (t.set (wayOf ⟨bid, baddr, bwt⟩ m (c + d)) bid) :: IR (.slice (some ⟨gn, 0, none⟩) l.length l.length) (nI (cs.set j (c + d + 1))) :: Cells gb (bkC ⟨bid, baddr, bwt⟩) 33 :: R) from by rw [← hp]; exact h2)
      rw [← hde] at HR
      have HR2 := Lib.hid HR
      generalize t.getD p 0 = tv at *
      clear ho hjn hx hxb hp hpm he hed H1 h2 HR hk hde
      generalize c + e = ce at *
      generalize fi + x = fx at *
      go_wp2_with fail
      refine meet_w hJ ?_ (by kernel_rfl)
      exact HR2.out
end
section
variable {F0 : List Nat} {w0 w : World} {R : List Asrt}
theorem tb_turn {l : List Bk} {m gt gn gb i j q : Nat} {cs : List Nat} {b : Bk} (hm : 3 ≤ m ∧ m ≤ 251) (hc : ∀ s, 1 ≤ s → s < m → Cov m s) (hall : ∀ b ∈ l, mayBk b = true) (hl0 : l ≠ []) (hl16 : l.length ≤ 16) (hi : i = min m (q * (takesM l 0).length + preM l j)) (hcs : CsOk m l (fillM (takesM l 0) m (rowsM l m) i) cs i) (hb : l[j]? = some b) (h : TbIn l m gt gn i cs F0 w0 (Cells gb (bkC b) 33 :: R) w)
    {z0 z2 z3 z4 z6 z14 z15 z16 z17 z18 z19 z20 z21 z22 z23 z24 z25 z26 z27 z28 z29 z30 z31 z32 z33 z34 z35 z36 z37 z38 z39 z40 z41 z42 z43 z44 z45 z46 z47 z48 z49 z50 z51 z52 z53 z54 z55 z56 z57 z58 z59 z60 z61 z62 z63 z64 z65 z66 z67 z68 z69 z70 z71 z72 z73 z74 z75 z76 z77 z78 z79 z80 z81 z82 z83 z84 z85 z86 z87 z88 z89 z90 z91 z92 z93 z94 z95 z96 z97 : Value} {Q : Exit → Act → World → Prop}
    (hK : ∀ (f : Nat → Value) (i' : Nat) (cs' : List Nat) (wz : World), (i' = min m (q * (takesM l 0).length + preM l (j + 1)) ∧ CsOk m l (fillM (takesM l 0) m (rowsM l m) i') cs' i' ∧ TbIn l m gt gn i' cs' F0 w0 (Cells gb (bkC b) 33 :: R) wz) → Q .normal ⟨#[z0, .int .i64 m, z2, z3, z4, .slice (some ⟨gt, 0, none⟩) m m, z6, .slice (some ⟨gn, 0, none⟩) l.length l.length, .int .i64 ((m - i' : Nat) : Int), .int .i64 j, .pointer (some ⟨gb, 0, none⟩), .int .i64 (firstN b.id m), .int .i64 (skipN b.id m), f 13, f 14, z15, z16, z17, z18, z19, z20, z21, z22, z23, z24, z25, z26, z27, z28, z29, z30, z31, z32, z33, z34, z35, z36, z37, z38, z39, z40, z41, z42, z43, z44, z45, z46, z47, z48, z49, z50, z51, z52, z53, z54, z55, z56, z57, f 58, f 59, f 60, f 61, f 62, f 63, f 64, f 65, f 66, f 67, f 68, f 69, f 70, f 71, f 72, f 73, f 74, f 75, f 76, f 77, f 78, f 79, f 80, f 81, f 82, f 83, f 84, f 85, f 86, f 87, f 88, f 89, f 90, f 91, f 92, f 93, f 94, f 95, z96, z97], []⟩ wz) :
    Code.wp Tryz.prog tbB6 Q ⟨#[z0, .int .i64 m, z2, z3, z4, .slice (some ⟨gt, 0, none⟩) m m, z6, .slice (some ⟨gn, 0, none⟩) l.length l.length, .int .i64 ((m - i : Nat) : Int), .int .i64 j, .pointer (some ⟨gb, 0, none⟩), .int .i64 (firstN b.id m), .int .i64 (skipN b.id m), .int .i64 0, z14, z15, z16, z17, z18, z19, z20, z21, z22, z23, z24, z25, z26, z27, z28, z29, z30, z31, z32, z33, z34, z35, z36, z37, z38, z39, z40, z41, z42, z43, z44, z45, z46, z47, z48, z49, z50, z51, z52, z53, z54, z55, z56, z57, z58, z59, z60, z61, z62, z63, z64, z65, z66, z67, z68, z69, z70, z71, z72, z73, z74, z75, z76, z77, z78, z79, z80, z81, z82, z83, z84, z85, z86, z87, z88, z89, z90, z91, z92, z93, z94, z95, z96, z97], []⟩ w := by
  refine wp_piece (fun a' w' => ∃ f : Nat → Value, (∃ i' cs', f 8 = .int .i64 ((m - i' : Nat) : Int) ∧ i' = min m (q * (takesM l 0).length + preM l (j + 1)) ∧ CsOk m l (fillM (takesM l 0) m (rowsM l m) i') cs' i' ∧ TbIn l m gt gn i' cs' F0 w0 (Cells gb (bkC b) 33 :: R) w') ∧ a' = (⟨#[z0, .int .i64 m, z2, z3, z4, .slice (some ⟨gt, 0, none⟩) m m, z6, .slice (some ⟨gn, 0, none⟩) l.length l.length, f 8, .int .i64 j, .pointer (some ⟨gb, 0, none⟩), .int .i64 (firstN b.id m), .int .i64 (skipN b.id m), f 13, f 14, z15, z16, z17, z18, z19, z20, z21, z22, z23, z24, z25, z26, z27, z28, z29, z30, z31, z32, z33, z34, z35, z36, z37, z38, z39, z40, z41, z42, z43, z44, z45, z46, z47, z48, z49, z50, z51, z52, z53, z54, z55, z56, z57, f 58, f 59, f 60, f 61, f 62, f 63, f 64, f 65, f 66, f 67, f 68, f 69, f 70, f 71, f 72, f 73, f 74, f 75, f 76, f 77, f 78, f 79, f 80, f 81, f 82, f 83, f 84, f 85, f 86, f 87, f 88, f 89, f 90, f 91, f 92, f 93, f 94, f 95, z96, z97], []⟩ : Act)) (fun a' w' hc => ?_) ?_
  · obtain ⟨f, ⟨i', cs', e, hc⟩, rfl⟩ := hc
    rw [e]
    exact hK f i' cs' w' hc
  intro J K' hJ hM
  clear hK
  have hbm := hall b (List.mem_of_getElem? hb)
  have hid : 0 ≤ b.id ∧ 1 ≤ b.weight ∧ b.weight ≤ 10 := by unfold mayBk at hbm; simp only [Bool.and_eq_true, decide_eq_true_eq] at hbm; omega
  obtain ⟨n, hn⟩ : ∃ n : Nat, b.weight = n := ⟨b.weight.toNat, by omega⟩
  have hpre : preM l (j + 1) = preM l j + n := by rw [preM_succ hb, hn, Int.toNat_natCast]
  have hmod : ∀ k, k < n → (takesM l 0).getD ((q * (takesM l 0).length + (preM l j + k)) % (takesM l 0).length) 0 = j := fun k hk => takes_mod hb (by rw [hn, Int.toNat_natCast]; exact hk)
  have HFO := Lib.hid (fill_ok hall hl0 hm.1 hc)
  have HC := Lib.hid hc
  have HM := Lib.hid hm
  have HB := Lib.hid (And.intro hb (And.intro hl16 hid))
  have HPM := Lib.hid (And.intro hpre hmod)
  have HN := Lib.hid (And.intro hn hid.2.2)
  have H0 : Hid (∃ (k i0 : Nat) (cs0 : List Nat), (Value.int .i64 0) = .int .i64 k ∧ k ≤ n ∧ i0 = min m (q * (takesM l 0).length + (preM l j + k)) ∧ (Value.int .i64 ((m - i : Nat) : Int)) = .int .i64 ((m - i0 : Nat) : Int) ∧ CsOk m l (fillM (takesM l 0) m (rowsM l m) i0) cs0 i0 ∧ TbIn l m gt gn i0 cs0 F0 w0 (Cells gb (bkC b) 33 :: R) w) := Lib.hid ⟨0, i, cs, rfl, Nat.zero_le _, hi, rfl, hcs, h⟩
  clear hbm hid hpre hmod hall hl0 hl16 hc hm hi hcs hb h hn
  conv => arg 2; whnf
  go_wp2_with fail
  go_loopw [8, 13] (fun v8 v13 wr => ∃ (k i0 : Nat) (cs0 : List Nat), v13 = .int .i64 k ∧ k ≤ n ∧ i0 = min m (q * (takesM l 0).length + (preM l j + k)) ∧ v8 = .int .i64 ((m - i0 : Nat) : Int) ∧ CsOk m l (fillM (takesM l 0) m (rowsM l m) i0) cs0 i0 ∧ TbIn l m gt gn i0 cs0 F0 w0 (Cells gb (bkC b) 33 :: R) wr) (fun _ v _ => n - (intOf v).toNat)
  case atStart => exact H0.out
  case round =>
    clear H0
    obtain ⟨k, i0, cs0, rfl, hk, hi0, rfl, hcs0, ho⟩ := hrel
    have ho' : In F0 w0 wr (IR (.slice (some ⟨gt, 0, none⟩) m m) (fillM (takesM l 0) m (rowsM l m) i0).1 :: IR (.slice (some ⟨gn, 0, none⟩) l.length l.length) (nI cs0) :: Cells gb (bkC b) 33 :: R) := ho
    have d2 : wr.cell? ⟨gb, 2, none⟩ = some (.int .i64 n) := by rw [← HN.out.1]; exact cell_of (ho'.block 2 rfl) rfl
    by_cases hgo : k < n ∧ i0 < m
    · have hix : i0 = q * (takesM l 0).length + (preM l j + k) := by omega
      have hkn : (k : Int) < (n : Int) := by omega
      have q2 : decide ((k : Int) < (n : Int)) = true := decide_eq_true (by omega)
      have q2n : decide (k < n) = true := decide_eq_true (by omega)
      have q3 : decide ((0 : Int) < ((m - i0 : Nat) : Int)) = true := decide_eq_true (by omega)
      have q3n : decide (0 < m - i0) = true := decide_eq_true (by omega)
      have hw2 : wrap64 ((k : Int) + 1) = (k : Int) + 1 := by have := HN.out.2; have := HN.out.1; unfold wrap64; omega
      have HS := Lib.hid (And.intro hgo (And.intro hix hi0))
      have HCS := Lib.hid hcs0
      have HO := Lib.hid ho
      clear ho ho' hcs0 hi0 hgo hix hk
      go_upto_block 8 with fail
      refine tb_slot (lf := m - i0) HM.out HC.out HS.out.1.2 (HFO.out i0 (by have := HS.out.1.2; omega)) HCS.out HB.out.2.2.1 (by rw [HS.out.2.1]; exact HPM.out.2 k HS.out.1.1) HB.out.1 HB.out.2.1 (by have := HM.out; have := HS.out.1.2; omega) HO.out (fun f8 wz hz => ?_)
      have elf : (((m - i0 : Nat) : Int) - 1) = ((m - (i0 + 1) : Nat) : Int) := by have := HS.out.1.2; omega
      rw [elf]
      have HZ := Lib.hid hz
      clear hz elf HO HCS d2 q2 q2n q3 q3n
      go_wp2_with fail
      go_roundw
      case rel =>
        (try rw [hw2])
        obtain ⟨cs', h1, h2⟩ := HZ.out
        exact ⟨k + 1, i0 + 1, cs', by rw [Int.natCast_add]; rfl, HS.out.1.1, by have := HS.out; omega, rfl, h1, h2⟩
      case measure => (try rw [hw2]); exact meas_lt hkn
    · have he : i0 = min m (q * (takesM l 0).length + preM l (j + 1)) := by rw [HPM.out.1]; omega
      have HE : Hid (∃ i' cs', (Value.int .i64 ((m - i0 : Nat) : Int)) = .int .i64 ((m - i' : Nat) : Int) ∧ i' = min m (q * (takesM l 0).length + preM l (j + 1)) ∧ CsOk m l (fillM (takesM l 0) m (rowsM l m) i') cs' i' ∧ TbIn l m gt gn i' cs' F0 w0 (Cells gb (bkC b) 33 :: R) wr) := Lib.hid ⟨i0, cs0, rfl, he, hcs0, ho⟩
      clear ho ho' hcs0 he
      by_cases hkn : k < n
      · have him : i0 = m := by omega
        have q2 : decide ((k : Int) < (n : Int)) = true := decide_eq_true (by omega)
        have q2n : decide (k < n) = true := decide_eq_true hkn
        have q3 : decide ((0 : Int) < ((m - i0 : Nat) : Int)) = false := decide_eq_false (by omega)
        have q3n : decide (0 < m - i0) = false := decide_eq_false (by omega)
        clear hgo hk hi0 hkn him
        go_wp2_with fail
        refine meet_w hJ ?_ (by kernel_rfl)
        exact HE.out
      · have q2 : decide ((k : Int) < (n : Int)) = false := decide_eq_false (by omega)
        have q2n : decide (k < n) = false := decide_eq_false hkn
        clear hgo hk hi0 hkn
        go_wp2_with fail
        refine meet_w hJ ?_ (by kernel_rfl)
        exact HE.out
end
theorem q_id (x : Int) (w : World) : Calls Tryz.prog 127 #[.int .i64 x] w fun e w' => e = .returned (.bool (inB x 65535)) ∧ w' = w := by
  by_cases h0 : 0 ≤ x
  · by_cases h1 : x ≤ 65535
    · have e : inB x 65535 = true := decide_eq_true ⟨h0, h1⟩
      rw [e]; clear e
      go_enter Tryz.func127, Tryz.ntmps127
      go_wp2_with fail
      go_ret
      exact ⟨rfl, rfl⟩
    · have e : inB x 65535 = false := decide_eq_false (fun h => h1 h.2)
      have q : decide (x ≤ 65535) = false := decide_eq_false h1
      rw [e]; clear e h1
      go_enter Tryz.func127, Tryz.ntmps127
      go_wp2_with fail
      go_ret
      exact ⟨rfl, rfl⟩
  · have e : inB x 65535 = false := decide_eq_false (fun h => h0 h.1)
    have q : decide (0 ≤ x) = false := decide_eq_false h0
    rw [e]; clear e h0
    go_enter Tryz.func127, Tryz.ntmps127
    go_wp2_with fail
    go_ret
    exact ⟨rfl, rfl⟩
section
variable {F0 : List Nat} {w0 w : World} {R : List Asrt}
theorem o_qmaybk (b : Bk) (h : In F0 w0 w R) : Calls Tryz.prog 87 #[.agg (encB b).toArray] w fun e w' => e = .returned (.bool (mayBk b)) ∧ In F0 w0 w' R := by
  have G := Lib.hid ((h.cells (encB b).toArray 33).drop)
  have K := Lib.hid (q_id b.id)
  rw [mayBk_eq]
  obtain ⟨id, addr, wt⟩ := b
  simp only at K ⊢
  clear h
  cases hi : inB id 65535 with
  | false =>
    rw [hi] at K; clear hi
    go_enter Tryz.func87, Tryz.ntmps87
    go_wp2_with fail
    refine (K.out _).mono ?_
    rintro e w1 ⟨rfl, rfl⟩
    clear K
    go_wp2_with fail
    go_ret
    exact ⟨rfl, G.out⟩
  | true =>
    rw [hi] at K; clear hi
    by_cases h1 : 1 ≤ wt
    · by_cases h2 : wt ≤ 10
      · have e : (true && decide (1 ≤ wt ∧ wt ≤ 10)) = true := by simp [h1, h2]
        rw [e]; clear e
        go_enter Tryz.func87, Tryz.ntmps87
        go_wp2_with fail
        refine (K.out _).mono ?_
        rintro e w1 ⟨rfl, rfl⟩
        clear K
        go_wp2_with fail
        go_ret
        exact ⟨rfl, G.out⟩
      · have e : (true && decide (1 ≤ wt ∧ wt ≤ 10)) = false := by simp [h1, h2]
        have q : decide (wt ≤ 10) = false := decide_eq_false h2
        rw [e]; clear e h2
        go_enter Tryz.func87, Tryz.ntmps87
        go_wp2_with fail
        refine (K.out _).mono ?_
        rintro e w1 ⟨rfl, rfl⟩
        clear K
        go_wp2_with fail
        go_ret
        exact ⟨rfl, G.out⟩
    · have e : (true && decide (1 ≤ wt ∧ wt ≤ 10)) = false := by simp [h1]
      have q : decide (1 ≤ wt) = false := decide_eq_false h1
      rw [e]; clear e h1
      go_enter Tryz.func87, Tryz.ntmps87
      go_wp2_with fail
      refine (K.out _).mono ?_
      rintro e w1 ⟨rfl, rfl⟩
      clear K
      go_wp2_with fail
      go_ret
      exact ⟨rfl, G.out⟩
end
section
variable {P : Program} {ops : Array Oper} {Q : Exit → Act → World → Prop} {md : Region.Mode} {S : World → Prop}
theorem take_at (i d : Nat) {oi : Oper} {v : Value} {fuel : Nat} {listed : Array Bool} {a : Act} {w : World} (hi : ops[i]? = some oi) (hd : oi.dst = some d)
    (hs : Region.noSelect ops = true) (hf : Region.free md ops listed i = true) (hr : (Region.ready md ops listed).contains i = true)
    (hQ : ∀ c a w, Q (.panic c) (a.put (some d) v) w → Q (.panic c) a w) (hw : Region.wanted oi (yielded ops a.tmps) = true) (hy : ∀ w, S w → (execOp a.eval oi).run P w = .ok (.value v) w) (hS : S w)
    (h : wpAnyH P md ops Q S fuel (listed.setIfInBounds i true) (a.put (some d) v) w) : wpAnyH P md ops Q S (fuel + 1) listed a w :=
  wpAnyH_take hi hs hf hr (by rw [hd]; exact hQ) (Or.inl ⟨hw, hy⟩) hS (by rw [hd]; exact h)
theorem skip_at (i d : Nat) {oi : Oper} {fuel : Nat} {listed : Array Bool} {a : Act} {w : World} (hi : ops[i]? = some oi) (hd : oi.dst = some d)
    (hs : Region.noSelect ops = true) (hf : Region.free md ops listed i = true) (hr : (Region.ready md ops listed).contains i = true)
    (hQ : ∀ c a w, Q (.panic c) (a.put (some d) undef) w → Q (.panic c) a w) (hw : Region.wanted oi (yielded ops a.tmps) = false) (hS : S w)
    (h : wpAnyH P md ops Q S fuel (listed.setIfInBounds i true) (a.put (some d) undef) w) : wpAnyH P md ops Q S (fuel + 1) listed a w :=
  wpAnyH_take hi hs hf hr (by rw [hd]; exact hQ) (Or.inr ⟨hw, rfl⟩) hS (by rw [hd]; exact h)
end
variable {F0 : List Nat} {w0 w : World} {R : List Asrt}
theorem o_qmaybks {l : List Bk} {A : Option Addr} {c : Nat} (hs : BksAt F0 w0 R A l) (hl : l.length ≤ 1000000000) (h : In F0 w0 w R) : Calls Tryz.prog 49 #[.slice A l.length c] w (GnPost (gensMay l) F0 w0 R) := by
  by_cases h16 : 16 < l.length
  · have e : gensMay l = false := by unfold gensMay; rw [decide_eq_false (by omega)]; rfl
    have q : (16 : Int) < (l.length : Int) := by omega
    have G := Lib.hid h
    rw [e]
    clear e h h16 hs hl
    go_enter Tryz.func49, Tryz.ntmps49
    go_wp2_with fail
    go_ret
    exact ⟨rfl, G.out⟩
  have q16 : decide ((16 : Int) < (l.length : Int)) = false := decide_eq_false (by omega)
  have HL16 : Hid (l.length ≤ 16) := Lib.hid (Nat.le_of_not_lt h16)
  have HR : Hid (GnRel l F0 w0 R (.int .i64 0) w) := Lib.hid ⟨0, Nat.zero_le _, rfl, by simp, rfl, h⟩
  have HS := Lib.hid hs
  clear h hs hl h16
  go_enter Tryz.func49, Tryz.ntmps49
  go_wp2_with fail
  go_loopw [10] (GnRel l F0 w0 R) (fun k _ => l.length - (intOf k).toNat)
  case atStart => exact HR.out
  case round =>
    obtain ⟨k, hk, rfl, hall, hup, hio⟩ := hrel
    clear HR
    by_cases hlt : k < l.length
    · obtain ⟨b, hb⟩ : ∃ b, l[k]? = some b := ⟨l[k], List.getElem?_eq_getElem hlt⟩
      obtain ⟨g, o, rfl, c0, c1, c2⟩ := HS.out.cell hio hb
      have hlt' : (k : Int) < (l.length : Int) := Int.ofNat_lt.2 hlt
      have hw2 : wrap64 ((k : Int) + 1) = (k : Int) + 1 := by have := HL16.out; unfold wrap64; omega
      have HN := Lib.hid (fun (h1 : gnOk l k b = true) w' (h' : In F0 w0 w' R) => gn_step (w := w') hb hall hup h1 h')
      have HX := Lib.hid (fun (h1 : gnOk l k b = false) w' (h' : In F0 w0 w' R) => (show GnPost (gensMay l) F0 w0 R (.returned (.bool false)) w' from ⟨by rw [gn_no hb h1], h'⟩))
      have HO := Lib.hid (hio.cells (encB b).toArray 33)
      have K : Hid (∀ w', In F0 w0 w' (Cells wr.heap.size (encB b).toArray 33 :: R) → Calls Tryz.prog 87 #[.agg (encB b).toArray] w' fun e w'' => e = .returned (.bool (mayBk b)) ∧ In F0 w0 w'' (Cells wr.heap.size (encB b).toArray 33 :: R)) := Lib.hid fun w' h' => o_qmaybk b h'
      have HSC : Hid (∀ w', In F0 w0 w' (Cells wr.heap.size (encB b).toArray 33 :: R) → w'.cell? ⟨wr.heap.size, 0, none⟩ = some (.int .i64 b.id) ∧ w'.cell? ⟨wr.heap.size, 1, none⟩ = some (.int .u32 b.addr) ∧ w'.cell? ⟨wr.heap.size, 2, none⟩ = some (.int .i64 b.weight)) := Lib.hid fun w' h' => ⟨cell_of (h'.block 0 rfl) rfl, cell_of (h'.block 0 rfl) rfl, cell_of (h'.block 0 rfl) rfl⟩
      have hc0 := HSC.out _ (HO.out.drewN 1)
      obtain ⟨bid, baddr, bwt⟩ := b
      cases hC : mayBk ⟨bid, baddr, bwt⟩ with
      | false =>
        rw [hC] at K
        have HX2 := Lib.hid (HX.out (by unfold gnOk; rw [hC]; rfl))
        clear HX HN hio hall hup hb hlt hk hC
        go_wp2_with fail
        refine wp_region_noPanic ?_
        refine wp_region_held_drew (S := (fun w' => w'.cell? ⟨wr.heap.size, 0, none⟩ = some (.int .i64 bid) ∧ w'.cell? ⟨wr.heap.size, 1, none⟩ = some (.int .u32 baddr) ∧ w'.cell? ⟨wr.heap.size, 2, none⟩ = some (.int .i64 bwt))) (by kernel_rfl) hc0 (fun hHeld => ?_)
        refine take_at 0 15 (v := ?v1) rfl rfl (by kernel_rfl) (by kernel_rfl) (by kernel_rfl) (fun _ _ _ h => h) (by kernel_rfl) ?hy1 (by assumption) ?rest1
        case hy1 => (intro w hSw; (try dsimp only at hSw); go_simp; try with_reducible rfl)
        try simp only [Act.put, List.setIfInBounds_toArray, List.set_cons_zero, List.set_cons_succ]
        refine wpAnyH_ready (rs := [1]) (by kernel_rfl) (by simp) ?_
        refine AllReadyH.cons rfl (fun K' hK => ?_) AllReadyH.nil
        go_simp
        go_at_call 87
        refine (K.out _ (HO.out.drewN 1)).mono ?_
        rintro e w5 ⟨rfl, ho5⟩
        have HI := Lib.hid ho5
        refine hK.out _ _ (HSC.out _ ho5) (fun hHeld2 => ?_)
        clear hK K' hHeld ho5
        try simp only [Act.put, List.setIfInBounds_toArray, List.set_cons_zero, List.set_cons_succ]
        refine take_at 2 17 (v := ?v2) rfl rfl (by kernel_rfl) (by kernel_rfl) (by kernel_rfl) (fun _ _ _ h => h) (by kernel_rfl) ?hy2 (by assumption) ?rest2
        case hy2 => (intro w hSw; (try dsimp only at hSw); go_simp; try with_reducible rfl)
        try simp only [Act.put, List.setIfInBounds_toArray, List.set_cons_zero, List.set_cons_succ]
        refine take_at 3 18 (v := ?v3) rfl rfl (by kernel_rfl) (by kernel_rfl) (by kernel_rfl) (fun _ _ _ h => h) (by kernel_rfl) ?hy3 (by assumption) ?rest3
        case hy3 => (intro w hSw; (try dsimp only at hSw); go_simp; try with_reducible rfl)
        try simp only [Act.put, List.setIfInBounds_toArray, List.set_cons_zero, List.set_cons_succ]
        refine skip_at 4 19 rfl rfl (by kernel_rfl) (by kernel_rfl) (by kernel_rfl) (fun _ _ _ h => h) (by kernel_rfl) (by assumption) ?_
        try simp only [Act.put, List.setIfInBounds_toArray, List.set_cons_zero, List.set_cons_succ]
        refine skip_at 5 20 rfl rfl (by kernel_rfl) (by kernel_rfl) (by kernel_rfl) (fun _ _ _ h => h) (by kernel_rfl) (by assumption) ?_
        try simp only [Act.put, List.setIfInBounds_toArray, List.set_cons_zero, List.set_cons_succ]
        refine skip_at 6 21 rfl rfl (by kernel_rfl) (by kernel_rfl) (by kernel_rfl) (fun _ _ _ h => h) (by kernel_rfl) (by assumption) ?_
        try simp only [Act.put, List.setIfInBounds_toArray, List.set_cons_zero, List.set_cons_succ]
        refine skip_at 7 22 rfl rfl (by kernel_rfl) (by kernel_rfl) (by kernel_rfl) (fun _ _ _ h => h) (by kernel_rfl) (by assumption) ?_
        try simp only [Act.put, List.setIfInBounds_toArray, List.set_cons_zero, List.set_cons_succ]
        refine skip_at 8 23 rfl rfl (by kernel_rfl) (by kernel_rfl) (by kernel_rfl) (fun _ _ _ h => h) (by kernel_rfl) (by assumption) ?_
        try simp only [Act.put, List.setIfInBounds_toArray, List.set_cons_zero, List.set_cons_succ]
        refine skip_at 9 24 rfl rfl (by kernel_rfl) (by kernel_rfl) (by kernel_rfl) (fun _ _ _ h => h) (by kernel_rfl) (by assumption) ?_
        try simp only [Act.put, List.setIfInBounds_toArray, List.set_cons_zero, List.set_cons_succ]
        refine skip_at 10 25 rfl rfl (by kernel_rfl) (by kernel_rfl) (by kernel_rfl) (fun _ _ _ h => h) (by kernel_rfl) (by assumption) ?_
        try simp only [Act.put, List.setIfInBounds_toArray, List.set_cons_zero, List.set_cons_succ]
        refine skip_at 11 26 rfl rfl (by kernel_rfl) (by kernel_rfl) (by kernel_rfl) (fun _ _ _ h => h) (by kernel_rfl) (by assumption) ?_
        try simp only [Act.put, List.setIfInBounds_toArray, List.set_cons_zero, List.set_cons_succ]
        refine skip_at 12 27 rfl rfl (by kernel_rfl) (by kernel_rfl) (by kernel_rfl) (fun _ _ _ h => h) (by kernel_rfl) (by assumption) ?_
        try simp only [Act.put, List.setIfInBounds_toArray, List.set_cons_zero, List.set_cons_succ]
        refine skip_at 13 28 rfl rfl (by kernel_rfl) (by kernel_rfl) (by kernel_rfl) (fun _ _ _ h => h) (by kernel_rfl) (by assumption) ?_
        try simp only [Act.put, List.setIfInBounds_toArray, List.set_cons_zero, List.set_cons_succ]
        refine skip_at 14 29 rfl rfl (by kernel_rfl) (by kernel_rfl) (by kernel_rfl) (fun _ _ _ h => h) (by kernel_rfl) (by assumption) ?_
        try simp only [Act.put, List.setIfInBounds_toArray, List.set_cons_zero, List.set_cons_succ]
        refine skip_at 15 30 rfl rfl (by kernel_rfl) (by kernel_rfl) (by kernel_rfl) (fun _ _ _ h => h) (by kernel_rfl) (by assumption) ?_
        try simp only [Act.put, List.setIfInBounds_toArray, List.set_cons_zero, List.set_cons_succ]
        refine skip_at 16 31 rfl rfl (by kernel_rfl) (by kernel_rfl) (by kernel_rfl) (fun _ _ _ h => h) (by kernel_rfl) (by assumption) ?_
        try simp only [Act.put, List.setIfInBounds_toArray, List.set_cons_zero, List.set_cons_succ]
        refine take_at 17 32 (v := ?v4) rfl rfl (by kernel_rfl) (by kernel_rfl) (by kernel_rfl) (fun _ _ _ h => h) (by kernel_rfl) ?hy4 (by assumption) ?rest4
        case hy4 => (intro w hSw; (try dsimp only at hSw); go_simp; try with_reducible rfl)
        try simp only [Act.put, List.setIfInBounds_toArray, List.set_cons_zero, List.set_cons_succ]
        refine wpAnyH_done (by kernel_rfl) ?_ _
        refine NoPanic.normal ?_
        go_wp2_with fail
        go_ret
        exact HX2.out _ HI.out.drop
      | true =>
        rw [hC] at K
        by_cases hD : k = 0
        · have qD : decide ((0 : Int) < (k : Int)) = false := decide_eq_false (by omega)
          have qD' : decide (0 < k) = false := decide_eq_false (by omega)
          have hgo : gnOk l k ⟨bid, baddr, bwt⟩ = true := by unfold gnOk; rw [hC, hD]; rfl
          have HN2 := Lib.hid (HN.out hgo)
          clear HX HN hio hall hup hb hlt hk hC hgo hD
          go_wp2_with fail
          refine wp_region_noPanic ?_
          refine wp_region_held_drew (S := (fun w' => w'.cell? ⟨wr.heap.size, 0, none⟩ = some (.int .i64 bid) ∧ w'.cell? ⟨wr.heap.size, 1, none⟩ = some (.int .u32 baddr) ∧ w'.cell? ⟨wr.heap.size, 2, none⟩ = some (.int .i64 bwt))) (by kernel_rfl) hc0 (fun hHeld => ?_)
          refine take_at 0 15 (v := ?v5) rfl rfl (by kernel_rfl) (by kernel_rfl) (by kernel_rfl) (fun _ _ _ h => h) (by kernel_rfl) ?hy5 (by assumption) ?rest5
          case hy5 => (intro w hSw; (try dsimp only at hSw); go_simp; try with_reducible rfl)
          try simp only [Act.put, List.setIfInBounds_toArray, List.set_cons_zero, List.set_cons_succ]
          refine wpAnyH_ready (rs := [1]) (by kernel_rfl) (by simp) ?_
          refine AllReadyH.cons rfl (fun K' hK => ?_) AllReadyH.nil
          go_simp
          go_at_call 87
          refine (K.out _ (HO.out.drewN 1)).mono ?_
          rintro e w5 ⟨rfl, ho5⟩
          have HI := Lib.hid ho5
          refine hK.out _ _ (HSC.out _ ho5) (fun hHeld2 => ?_)
          clear hK K' hHeld ho5
          try simp only [Act.put, List.setIfInBounds_toArray, List.set_cons_zero, List.set_cons_succ]
          refine take_at 2 17 (v := ?v6) rfl rfl (by kernel_rfl) (by kernel_rfl) (by kernel_rfl) (fun _ _ _ h => h) (by kernel_rfl) ?hy6 (by assumption) ?rest6
          case hy6 => (intro w hSw; (try dsimp only at hSw); go_simp; try with_reducible rfl)
          try simp only [Act.put, List.setIfInBounds_toArray, List.set_cons_zero, List.set_cons_succ]
          refine take_at 3 18 (v := ?v7) rfl rfl (by kernel_rfl) (by kernel_rfl) (by kernel_rfl) (fun _ _ _ h => h) (by kernel_rfl) ?hy7 (by assumption) ?rest7
          case hy7 => (intro w hSw; (try dsimp only at hSw); go_simp; try with_reducible rfl)
          try simp only [Act.put, List.setIfInBounds_toArray, List.set_cons_zero, List.set_cons_succ]
          refine take_at 4 19 (v := ?v8) rfl rfl (by kernel_rfl) (by kernel_rfl) (by kernel_rfl) (fun _ _ _ h => h) (by kernel_rfl) ?hy8 (by assumption) ?rest8
          case hy8 => (intro w hSw; (try dsimp only at hSw); go_simp; try with_reducible rfl)
          try simp only [Act.put, List.setIfInBounds_toArray, List.set_cons_zero, List.set_cons_succ]
          refine take_at 5 20 (v := ?v9) rfl rfl (by kernel_rfl) (by kernel_rfl) (by kernel_rfl) (fun _ _ _ h => h) (by kernel_rfl) ?hy9 (by assumption) ?rest9
          case hy9 => (intro w hSw; (try dsimp only at hSw); go_simp; try with_reducible rfl)
          try simp only [Act.put, List.setIfInBounds_toArray, List.set_cons_zero, List.set_cons_succ]
          refine take_at 6 21 (v := ?v10) rfl rfl (by kernel_rfl) (by kernel_rfl) (by kernel_rfl) (fun _ _ _ h => h) (by kernel_rfl) ?hy10 (by assumption) ?rest10
          case hy10 => (intro w hSw; (try dsimp only at hSw); go_simp; try with_reducible rfl)
          try simp only [Act.put, List.setIfInBounds_toArray, List.set_cons_zero, List.set_cons_succ]
          refine skip_at 7 22 rfl rfl (by kernel_rfl) (by kernel_rfl) (by kernel_rfl) (fun _ _ _ h => h) (by kernel_rfl) (by assumption) ?_
          try simp only [Act.put, List.setIfInBounds_toArray, List.set_cons_zero, List.set_cons_succ]
          refine skip_at 8 23 rfl rfl (by kernel_rfl) (by kernel_rfl) (by kernel_rfl) (fun _ _ _ h => h) (by kernel_rfl) (by assumption) ?_
          try simp only [Act.put, List.setIfInBounds_toArray, List.set_cons_zero, List.set_cons_succ]
          refine skip_at 9 24 rfl rfl (by kernel_rfl) (by kernel_rfl) (by kernel_rfl) (fun _ _ _ h => h) (by kernel_rfl) (by assumption) ?_
          try simp only [Act.put, List.setIfInBounds_toArray, List.set_cons_zero, List.set_cons_succ]
          refine skip_at 10 25 rfl rfl (by kernel_rfl) (by kernel_rfl) (by kernel_rfl) (fun _ _ _ h => h) (by kernel_rfl) (by assumption) ?_
          try simp only [Act.put, List.setIfInBounds_toArray, List.set_cons_zero, List.set_cons_succ]
          refine skip_at 11 26 rfl rfl (by kernel_rfl) (by kernel_rfl) (by kernel_rfl) (fun _ _ _ h => h) (by kernel_rfl) (by assumption) ?_
          try simp only [Act.put, List.setIfInBounds_toArray, List.set_cons_zero, List.set_cons_succ]
          refine skip_at 12 27 rfl rfl (by kernel_rfl) (by kernel_rfl) (by kernel_rfl) (fun _ _ _ h => h) (by kernel_rfl) (by assumption) ?_
          try simp only [Act.put, List.setIfInBounds_toArray, List.set_cons_zero, List.set_cons_succ]
          refine skip_at 13 28 rfl rfl (by kernel_rfl) (by kernel_rfl) (by kernel_rfl) (fun _ _ _ h => h) (by kernel_rfl) (by assumption) ?_
          try simp only [Act.put, List.setIfInBounds_toArray, List.set_cons_zero, List.set_cons_succ]
          refine skip_at 14 29 rfl rfl (by kernel_rfl) (by kernel_rfl) (by kernel_rfl) (fun _ _ _ h => h) (by kernel_rfl) (by assumption) ?_
          try simp only [Act.put, List.setIfInBounds_toArray, List.set_cons_zero, List.set_cons_succ]
          refine skip_at 15 30 rfl rfl (by kernel_rfl) (by kernel_rfl) (by kernel_rfl) (fun _ _ _ h => h) (by kernel_rfl) (by assumption) ?_
          try simp only [Act.put, List.setIfInBounds_toArray, List.set_cons_zero, List.set_cons_succ]
          refine take_at 16 31 (v := ?v11) rfl rfl (by kernel_rfl) (by kernel_rfl) (by kernel_rfl) (fun _ _ _ h => h) (by kernel_rfl) ?hy11 (by assumption) ?rest11
          case hy11 => (intro w hSw; (try dsimp only at hSw); go_simp; try with_reducible rfl)
          try simp only [Act.put, List.setIfInBounds_toArray, List.set_cons_zero, List.set_cons_succ]
          refine take_at 17 32 (v := ?v12) rfl rfl (by kernel_rfl) (by kernel_rfl) (by kernel_rfl) (fun _ _ _ h => h) (by kernel_rfl) ?hy12 (by assumption) ?rest12
          case hy12 => (intro w hSw; (try dsimp only at hSw); go_simp; try with_reducible rfl)
          try simp only [Act.put, List.setIfInBounds_toArray, List.set_cons_zero, List.set_cons_succ]
          refine wpAnyH_done (by kernel_rfl) ?_ _
          refine NoPanic.normal ?_
          go_wp2_with fail
          go_roundw
          case rel => (try rw [hw2]); exact HN2.out _ HI.out.drop
          case measure => (try rw [hw2]); exact meas_lt hlt'
        · obtain ⟨k', rfl⟩ : ∃ k', k = k' + 1 := ⟨k - 1, by omega⟩
          obtain ⟨a, ha, hla⟩ := gn_last (l := l) (k := k') (by omega)
          clear HSC hc0
          have HSC : Hid (∀ w', In F0 w0 w' (Cells wr.heap.size (encB ⟨bid, baddr, bwt⟩).toArray 33 :: R) → w'.cell? ⟨wr.heap.size, 0, none⟩ = some (.int .i64 bid) ∧ w'.cell? ⟨wr.heap.size, 1, none⟩ = some (.int .u32 baddr) ∧ w'.cell? ⟨wr.heap.size, 2, none⟩ = some (.int .i64 bwt) ∧ w'.cell? ⟨g, o + k' * 3, none⟩ = some (.int .i64 a.id)) := Lib.hid fun w' h' => by
            obtain ⟨g', o', e, d0, _⟩ := HS.out.cell h'.drop ha
            cases e
            exact ⟨cell_of (h'.block 0 rfl) rfl, cell_of (h'.block 0 rfl) rfl, cell_of (h'.block 0 rfl) rfl, d0⟩
          have hc0 := HSC.out _ (HO.out.drewN 1)
          have hkc : (((k' + 1 : Nat) : Int)) = (k' : Int) + 1 := by omega
          have hsub : IntKind.i64.wrap (((k' + 1 : Nat) : Int) - 1) = (k' : Int) := by have := HL16.out; rw [IntWalk.i64_in _ (by omega)]; omega
          have hsub2 : (((k' + 1 : Nat) : Int) - 1) = (k' : Int) := by omega
          have hkl : (k' : Int) < (l.length : Int) := by omega
          have hsub3 : IntKind.i64.wrap ((k' : Int) + 1 - 1) = (k' : Int) := by have := HL16.out; rw [IntWalk.i64_in _ (by omega)]; omega
          have hsub4 : ((k' : Int) + 1 - 1) = (k' : Int) := by omega
          have qD2 : (0 : Int) < (k' : Int) + 1 := by omega
          have hsub5 : IntKind.i64.wrap (k' : Int) = (k' : Int) := by have := HL16.out; exact IntWalk.i64_in _ (by omega)
          have hkl2 : k' < l.length := by omega
          have hw3 : wrap64 ((k' : Int) + 1 + 1) = ((k' + 1 : Nat) : Int) + 1 := by have := HL16.out; unfold wrap64; omega
          have hgo : gnOk l (k' + 1) ⟨bid, baddr, bwt⟩ = decide (a.id < bid) := by unfold gnOk; rw [hla, hC, Bool.true_and]
          by_cases hE : bid ≤ a.id
          · have HX2 := Lib.hid (HX.out (by rw [hgo]; exact decide_eq_false (by omega)))
            clear HX HN hio hall hup hb hlt hk hC hgo hD ha hla
            go_wp2_with fail
            go_region_held3 (fun w' => w'.cell? ⟨wr.heap.size, 0, none⟩ = some (.int .i64 bid) ∧ w'.cell? ⟨wr.heap.size, 1, none⟩ = some (.int .u32 baddr) ∧ w'.cell? ⟨wr.heap.size, 2, none⟩ = some (.int .i64 bwt) ∧ w'.cell? ⟨g, o + k' * 3, none⟩ = some (.int .i64 a.id)) (first | exact hc1 | exact hc0 | go_keep)
              (first
                | (go_at_call 87
                   refine (K.out _ (HO.out.drewN 1)).mono ?_
                   rintro e w5 ⟨rfl, ho5⟩
                   have HI := Lib.hid ho5
                   have hc1 := HSC.out _ ho5
                   clear ho5))
            go_wp2_with fail
            go_ret
            exact HX2.out _ HI.out.drop
          · have qE : decide (bid ≤ a.id) = false := decide_eq_false hE
            have HN2 := Lib.hid (HN.out (by rw [hgo]; exact decide_eq_true (by omega)))
            clear HX HN hio hall hup hb hlt hk hC hgo hD ha hla hE
            go_wp2_with fail
            go_region_held3 (fun w' => w'.cell? ⟨wr.heap.size, 0, none⟩ = some (.int .i64 bid) ∧ w'.cell? ⟨wr.heap.size, 1, none⟩ = some (.int .u32 baddr) ∧ w'.cell? ⟨wr.heap.size, 2, none⟩ = some (.int .i64 bwt) ∧ w'.cell? ⟨g, o + k' * 3, none⟩ = some (.int .i64 a.id)) (first | exact hc1 | exact hc0 | go_keep)
              (first
                | (go_at_call 87
                   refine (K.out _ (HO.out.drewN 1)).mono ?_
                   rintro e w5 ⟨rfl, ho5⟩
                   have HI := Lib.hid ho5
                   have hc1 := HSC.out _ ho5
                   clear ho5))
            go_wp2_with fail
            go_roundw
            case rel => (try rw [hw2]); (try rw [hw3]); exact HN2.out _ HI.out.drop
            case measure => (try rw [hw2]); (try rw [hw3]); exact meas_lt hlt'
    · have hge : (l.length : Int) ≤ (k : Int) := Int.ofNat_le.2 (Nat.le_of_not_lt hlt)
      have hkl : l.take k = l := List.take_of_length_le (Nat.le_of_not_lt hlt)
      rw [hkl] at hall hup
      have e : gensMay l = true := by
        unfold gensMay
        rw [decide_eq_true HL16.out, hup, List.all_eq_true.2 hall]; rfl
      have G : Hid (GnPost (gensMay l) F0 w0 R (.returned (.bool true)) wr) := Lib.hid ⟨by rw [e], hio⟩
      clear hio hkl hall hup hk hlt e
      go_wp2_with fail
      go_ret
      exact G.out
end Go.Proofs.YtgapbecddgfkmaaGreat
