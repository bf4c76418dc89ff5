/- Rows in new segments: the closures. -/
import Derived.Test.YtogclkhpbjfadaaGreatLgRows
import Derived.StillTailTactics
import Derived.Deep.RegionHeld3
import Derived.Deep.DeepCutAuto
import Derived.Deep.AppendLies
namespace Go.Proofs.YtogclkhpbjfadaaGreat
open Go.RowKit
set_option linter.unusedVariables false
set_option maxRecDepth 100000

/-- A row of segments behind a pointer. -/
def SegA (sb : Nat) (segs : List Nat) : Asrt := fun w F => ∃ v, Star [Cells sb #[v] 43, RowA 3 1 v segs.length (segV segs)] w F
theorem SegR_framed (sb : Nat) (segs : List Nat) (v : Value) : ∀ A ∈ [Cells sb #[v] 43, RowA 3 1 v segs.length (segV segs)], Framed A := by
  intro A hA
  simp only [List.mem_cons, List.not_mem_nil, or_false] at hA
  rcases hA with rfl | rfl
  · exact Cells.framed _ _ _
  · exact RowA.framed _ _ _ _ _
theorem SegA.framed (sb : Nat) (segs : List Nat) : Framed (SegA sb segs) :=
  ⟨fun ⟨v, h⟩ hk => ⟨v, (Framed.star (SegR_framed sb segs v)).keep h hk⟩, fun ⟨v, h⟩ => (Framed.star (SegR_framed sb segs v)).lt h⟩
section
variable {F0 : List Nat} {w0 w : World} {R : List Asrt} {pn : Value} {bd lb sb : Nat} {d : DiskD} {l : LogD} {segs : List Nat}
theorem In.segOpen (h : In F0 w0 w (SegA sb segs :: R)) : ∃ a c, In F0 w0 w (RowA 3 1 (.slice a segs.length c) segs.length (segV segs) :: Cells sb #[.slice a segs.length c] 43 :: R) := by
  obtain ⟨v, h1⟩ := h.ex (G := fun v => Star [Cells sb #[v] 43, RowA 3 1 v segs.length (segV segs)]) 0 rfl (fun v => Framed.star (SegR_framed sb segs v))
  have h2 := h1.split (A := Cells sb #[v] 43) (B := RowA 3 1 v segs.length (segV segs)) 0 rfl (Cells.framed _ _ _) (RowA.framed _ _ _ _ _)
  obtain ⟨F, hF⟩ := h2.get 0 rfl
  obtain ⟨a, c, rfl, -, -, -⟩ := hF.shape
  exact ⟨a, c, h2⟩
theorem In.segClose {v : Value} (h : In F0 w0 w (RowA 3 1 v segs.length (segV segs) :: Cells sb #[v] 43 :: R)) : In F0 w0 w (SegA sb segs :: R) :=
  h.fold (C := SegA sb segs) 0 rfl (SegA.framed _ _) (fun F hF => ⟨v, hF⟩)
theorem newest_last {x : Nat} (h : segs[segs.length - 1]? = some x) : newest segs = segName x := by
  unfold newest
  rw [List.getLastD_eq_getLast?, List.getLast?_eq_getElem?, h]; rfl
set_option maxHeartbeats 8000000 in
theorem o_rname {gb : Nat} (h : In F0 w0 w (SegA sb segs :: R)) (j : Nat) (hj : R[j]? = some (Cells gb #[.pointer (some ⟨sb, 0, none⟩)] 145)) (hne : segs ≠ []) (hs : segs.length ≤ 100) (hv : ∀ x ∈ segs, x < 4611686018427387904) :
    Calls Tryz.prog 180 #[.pointer (some ⟨gb, 0, none⟩)] w fun e w' => e = .returned (.string (newest segs)) ∧ In F0 w0 w' (SegA sb segs :: R) := by
  obtain ⟨a, c, h1⟩ := h.segOpen
  have hpos : 0 < segs.length := List.length_pos_iff.2 hne
  obtain ⟨n, hn⟩ : ∃ n, segs.length = n + 1 := ⟨segs.length - 1, by omega⟩
  obtain ⟨x, hx⟩ : ∃ x, segs[n]? = some x := ⟨segs[n]'(by omega), List.getElem?_eq_getElem _⟩
  have hnw : newest segs = segName x := newest_last (by rw [hn]; exact hx)
  obtain ⟨Fr, hr⟩ := h1.get 0 rfl
  obtain ⟨g, rfl, cx⟩ := hr.at.2 n _ (segV_at hx)
  have c0 : w.cell? ⟨gb, 0, none⟩ = some (.pointer (some ⟨sb, 0, none⟩)) := cell_of (h1.block (j + 2) hj) rfl
  have c1 : w.cell? ⟨sb, 0, none⟩ = some (.slice (some ⟨g, 0, none⟩) segs.length c) := cell_of (h1.block 1 rfl) rfl
  rw [hn] at c1
  have hlen : segs.length ≤ 100 := hs
  have q1 : IntKind.i64.wrap (((n : Int) + 1) - 1) = (n : Int) := by rw [IntWalk.i64_in _ (by omega)]; omega
  have q2 : (((n : Int) + 1) - 1) = (n : Int) := by omega
  have q3 : (n : Int) < (n : Int) + 1 := by omega
  have q4 : IntKind.i64.wrap (n : Int) = (n : Int) := IntWalk.i64_in _ (by omega)
  have HNW := Lib.hid hnw
  have KN := Lib.hid (o_name ((h1.segClose).drewN 1) x (hv x (List.mem_of_getElem? hx)))
  clear h h1 hr hx hnw hv hpos hne hn hlen hs
  go_enter Tryz.func180, Tryz.ntmps180
  go_wp2_with fail
  go_still_tail 10, (by kernel_rfl)
  change wpList _ _ _ _ _ w.drew
  go_wp2_with fail
  refine KN.out.mono ?_
  rintro e w1 ⟨rfl, g1⟩
  have G := Lib.hid g1
  clear g1 KN
  go_wp2_with fail
  go_ret
  exact ⟨by rw [HNW.out]; rfl, G.out⟩
/-- What a new segment's calls leave. -/
def RowsR (pn : Value) (lb bd sb hb : Nat) (l : LogD) (s : DiskD × List Nat × Nat) (R : List Asrt) : List Asrt := LgP pn lb bd l :: DkA bd s.1 :: SegA sb s.2.1 :: Cells hb #[.int .i64 s.2.2] 3 :: R
set_option maxHeartbeats 16000000 in
theorem o_rnext {gb lx hb hv : Nat} {b : List UInt8} {A : Option Addr} {cA : Nat} (h : In F0 w0 w (RowsR pn lb bd sb hb l (d, segs, hv) R)) (j1 j2 j3 : Nat) (hj1 : R[j1]? = some (Cells gb #[.pointer (some ⟨sb, 0, none⟩)] 145)) (hj2 : R[j2]? = some (Cells lx #[dptr lb] 28))
    (hB : R[j3]? = some (RowA 5 1 (.slice A b.length cA) b.length (u8s b))) (ho : d.ops ≤ 99990000) (hb4 : b.length ≤ 5000) (hn : l.m.next ≤ 1000000) :
    Calls Tryz.prog 179 #[.slice A b.length cA, .pointer (some ⟨gb, 0, none⟩), .pointer (some ⟨lx, 0, none⟩), .pointer (some ⟨hb, 0, none⟩)] w fun e w' => e = .returned (.int .i64 (nextD l.m.next b (d, segs, hv)).2) ∧ In F0 w0 w' (RowsR pn lb bd sb hb l (nextD l.m.next b (d, segs, hv)).1 R) := by
  have c0 : w.cell? ⟨gb, 0, none⟩ = some (.pointer (some ⟨sb, 0, none⟩)) := cell_of (h.block (j1 + 4) hj1) rfl
  obtain ⟨a, c, h1⟩ := (h.sel2 (R1 := [_, _, _, _]) [2, 0, 1, 3] (by decide) rfl).segOpen
  have c1 : w.cell? ⟨sb, 0, none⟩ = some (.slice a segs.length c) := cell_of (h1.block 1 rfl) rfl
  by_cases h64 : 64 ≤ segs.length
  · have e : nextD l.m.next b (d, segs, hv) = ((d, segs, hv), 4) := by unfold nextD; rw [if_pos h64]
    have q1 : (64 : Int) ≤ (segs.length : Int) := Int.ofNat_le.2 h64
    have HE := Lib.hid e
    have G := Lib.hid h
    clear h h1 h64 ho hb4 hn e
    go_enter Tryz.func179, Tryz.ntmps179
    go_wp2_with fail
    go_ret
    exact ⟨by rw [HE.out]; rfl, by rw [HE.out]; exact G.out⟩
  have q1 : decide ((64 : Int) ≤ (segs.length : Int)) = false := decide_eq_false (fun e => h64 (Int.ofNat_le.1 e))
  have q1n : decide (64 ≤ segs.length) = false := decide_eq_false h64
  have c2 : w.cell? ⟨lx, 0, none⟩ = some (dptr lb) := cell_of (h.block (j2 + 4) hj2) rfl
  have c3 := h.lgpA.lg3
  have hw1 : IntKind.i64.wrap ((l.m.next : Int) + (segs.length : Int)) = (l.m.next : Int) + (segs.length : Int) := IntWalk.i64_in _ (by omega)
  have hsm : l.m.next + segs.length < 4611686018427387904 := by omega
  have hND : nextD l.m.next b (d, segs, hv) = (if (clearD (segName (l.m.next + segs.length)) d).2 ≠ 0 then (((clearD (segName (l.m.next + segs.length)) d).1, segs, hv), (clearD (segName (l.m.next + segs.length)) d).2)
      else (((dAppend (clearD (segName (l.m.next + segs.length)) d).1 (segName (l.m.next + segs.length)) b).1, segs ++ [l.m.next + segs.length], b.length), (dAppend (clearD (segName (l.m.next + segs.length)) d).1 (segName (l.m.next + segs.length)) b).2)) := by
    unfold nextD; rw [if_neg h64]
  have hcl := clearD_ops (segName (l.m.next + segs.length)) d
  obtain ⟨x, hx⟩ : ∃ x, x = l.m.next + segs.length := ⟨_, rfl⟩
  have hxi : (l.m.next : Int) + (segs.length : Int) = (x : Int) := by omega
  rw [← hx] at hND hcl hsm
  rw [hxi] at hw1
  have KN := Lib.hid (fun w' h' => o_name (w := w') (F0 := F0) (w0 := w0) (R := RowsR pn lb bd sb hb l (d, segs, hv) R) h' x hsm)
  have KC := Lib.hid (fun w' h' => o_clear (w := w') (F0 := F0) (w0 := w0) (R := RowsR pn lb bd sb hb l (d, segs, hv) R) h' 1 rfl (Nat.le_trans ho (by decide)) (segName x) (segName_size x))
  obtain ⟨r1, hr1⟩ : ∃ r1, clearD (segName x) d = r1 := ⟨_, rfl⟩
  rw [hr1] at KC hND hcl
  obtain ⟨d1, e1⟩ := r1
  simp only at KC hND hcl
  have HO1 : Hid (d1.ops ≤ 99999000) := Lib.hid (by omega)
  have HL0 := Lib.hid (fun w' (h' : In F0 w0 w' (RowsR pn lb bd sb hb l (d, segs, hv) R)) => h'.lgpA.lg0)
  have HLY := Lib.hid (fun w' d' (s' : List Nat) (v' : Nat) (h' : In F0 w0 w' (RowsR pn lb bd sb hb l (d', s', v') R)) => And.intro (show w'.cell? ⟨lx, 0, none⟩ = some (dptr lb) from cell_of (h'.block (j2 + 4) hj2) rfl) h'.lgpA.lg0)
  have HLX := Lib.hid (fun w' d' (h' : In F0 w0 w' (RowsR pn lb bd sb hb l (d', segs, hv) R)) => And.intro (show w'.cell? ⟨gb, 0, none⟩ = some (.pointer (some ⟨sb, 0, none⟩)) from cell_of (h'.block (j1 + 4) hj1) rfl) (And.intro (show w'.cell? ⟨lx, 0, none⟩ = some (dptr lb) from cell_of (h'.block (j2 + 4) hj2) rfl) h'.lgpA.lg0))
  have HH := Lib.hid (fun n => h.drewN n)
  have HSM := Lib.hid hsm
  have HS64 : Hid (segs.length + 1 ≤ 64) := Lib.hid (by omega)
  have HB4 := Lib.hid hb4
  have HND := Lib.hid hND
  have HXI := Lib.hid hxi
  clear h1 h64 h hND hcl hr1 hx ho hb4 hn hsm
  go_enter Tryz.func179, Tryz.ntmps179
  go_wp2_with fail
  go_quiet (fail)
  clear c1
  have KN1 := Lib.hid (KN.out _ (HH.out (nq + 1)))
  obtain ⟨y0, y1, y2⟩ := HLX.out _ d (HH.out nq)
  clear c0 c2 c3 hw1
  go_wp2_with fail
  go_region_held3 (fun w' => w'.cell? ⟨lx, 0, none⟩ = some (dptr lb) ∧ w'.cell? ⟨lb, 0, none⟩ = some (dptr bd)) (first | exact ⟨hz1, hz2⟩ | exact ⟨y1, y2⟩ | go_keep)
    (first
      | (go_at_call 65; refine KN1.out.mono ?_; rintro e w1 ⟨rfl, g1⟩; obtain ⟨-, hz1, hz2⟩ := HLX.out w1 d g1; have K1 := Lib.hid (KC.out w1 g1); clear g1)
      | (go_at_call 144; refine K1.out.mono ?_; rintro e w2 ⟨rfl, g2⟩; obtain ⟨hz0, hz1, hz2⟩ := HLX.out w2 d1 g2; have G2 := Lib.hid g2; clear g2))
  clear hz0 hz1 hz2 KN KN1 KC K1 HL0 HH y0 y1 y2
  by_cases he1 : e1 = 0
  case neg =>
    have qe : (e1 != 0) = true := by rw [bne_iff_ne]; exact he1
    have HE := Lib.hid HND.out
    have HN1 := Lib.hid he1
    clear he1
    go_wp2_with fail
    go_ret
    refine ⟨by rw [HE.out, if_pos HN1.out]; rfl, ?_⟩
    rw [HE.out, if_pos HN1.out]
    exact G2.out
  have qe : (e1 != 0) = false := by rw [he1]; rfl
  have HE : Hid (nextD l.m.next b (d, segs, hv) = (((dAppend d1 (segName x) b).1, segs ++ [x], b.length), (dAppend d1 (segName x) b).2)) := Lib.hid (by rw [HND.out, if_neg (by simp [he1])])
  clear he1 HND
  have KN2 := Lib.hid (fun w' s h' => o_name (w := w') (F0 := F0) (w0 := w0) (R := RowsR pn lb bd sb hb l (d1, s) R) h' x HSM.out)
  have KA := Lib.hid (fun w' s h' => o_dappend (w := w') (F0 := F0) (w0 := w0) (R := RowsR pn lb bd sb hb l (d1, s) R) h' 1 rfl (Nat.le_trans HO1.out (by decide)) (segName x) (segName_size x) (j3 + 4) (by omega) hB (Nat.le_trans HB4.out (by decide)))
  obtain ⟨a2, c2', h2⟩ := (G2.out.sel2 (R1 := [_, _, _, _]) [2, 0, 1, 3] (by decide) rfl).segOpen
  have d0 : w2.cell? ⟨gb, 0, none⟩ = some (.pointer (some ⟨sb, 0, none⟩)) := cell_of (G2.out.block (j1 + 4) hj1) rfl
  have d1' : w2.cell? ⟨sb, 0, none⟩ = some (.slice a2 segs.length c2') := cell_of (h2.block 1 rfl) rfl
  have H2 := Lib.hid h2
  clear h2
  go_wp2_with fail
  have g1 : ∀ o, (w2.alloc o).cell? ⟨sb, 0, none⟩ = some (.slice a2 segs.length c2') := fun o => cell_of ((H2.out.alloc o).block 1 rfl) rfl
  have g0 : ∀ o, (w2.alloc o).cell? ⟨gb, 0, none⟩ = some (.pointer (some ⟨sb, 0, none⟩)) := fun o => cell_of ((H2.out.alloc o).block (j1 + 5) hj1) rfl
  go_region_law
    (first
      | (refine app_step rfl (R := Cells _ _ 3 :: RowA 3 1 (.slice a2 segs.length c2') segs.length (segV segs) :: Cells sb #[.slice a2 segs.length c2'] 43 :: LgP pn lb bd l :: DkA bd d1 :: Cells hb #[.int .i64 hv] 3 :: R) (by exact (H2.out.drewN 1).cells _ _) 1 rfl (.tmp 36) (.tmp 38) 43 (by rfl) Tryz.underlying43 infoInt (by decide) (by decide) (by rfl) (by rfl) (by exact Src.of_block (((H2.out.drewN 1).cells _ _).block 0 rfl) rfl) (fun u hu => by simp at hu; subst hu; rfl) (Nat.le_trans HS64.out (by decide)) ?_
         intro v1 w3 ho1 hg1
         have z0 : w3.cell? ⟨gb, 0, none⟩ = some (.pointer (some ⟨sb, 0, none⟩)) := cell_of (ho1.block (j1 + 6) hj1) rfl
         have z1 : w3.cell? ⟨sb, 0, none⟩ = some (.slice a2 segs.length c2') := cell_of (ho1.block 2 rfl) rfl
         have z2 : w3.frozen? ⟨sb, 0, none⟩ = false := free_of (ho1.block 2 rfl)
         have z3 : w3.cell? ⟨hb, 0, none⟩ = some (.int .i64 hv) := cell_of (ho1.block 5 rfl) rfl
         have z4 : w3.frozen? ⟨hb, 0, none⟩ = false := free_of (ho1.block 5 rfl)
         obtain ⟨F1, hr1⟩ := ho1.get 1 rfl
         obtain ⟨a3, cap3, rfl, -, -, -⟩ := hr1.shape
         clear hr1
         have hp := ho1.put 2 rfl 0 (.slice a3 (segs.length + 1) cap3)
         have z5 : (w3.setCell ⟨sb, 0, none⟩ (.slice a3 (segs.length + 1) cap3)).cell? ⟨hb, 0, none⟩ = some (.int .i64 hv) := cell_of (hp.block 5 rfl) rfl
         have z6 : (w3.setCell ⟨sb, 0, none⟩ (.slice a3 (segs.length + 1) cap3)).frozen? ⟨hb, 0, none⟩ = false := free_of (hp.block 5 rfl)
         have HP := Lib.hid hp
         clear ho1 hg1 hp))
  all_goals
    have hq := HP.out.put 5 rfl 0 (.int .i64 (b.length : Int))
    have hr : In F0 w0 ((w3.setCell ⟨sb, 0, none⟩ (.slice a3 (segs.length + 1) cap3)).setCell ⟨hb, 0, none⟩ (.int .i64 (b.length : Int))) (RowA 3 1 (.slice a3 (segs ++ [x]).length cap3) (segs ++ [x]).length (segV (segs ++ [x])) :: Cells sb #[.slice a3 (segs ++ [x]).length cap3] 43 :: LgP pn lb bd l :: DkA bd d1 :: Cells hb #[.int .i64 (b.length : Int)] 3 :: R) := by
      rw [show (segs ++ [x]).length = segs.length + 1 by simp, show segV (segs ++ [x]) = segV segs ++ [.int .i64 (x : Int)] by simp [segV]]
      exact hq.sel2 (R1 := [_, _, _, _, _, _]) [1, 2, 3, 4, 5] (by decide) rfl
    have hs : In F0 w0 ((w3.setCell ⟨sb, 0, none⟩ (.slice a3 (segs.length + 1) cap3)).setCell ⟨hb, 0, none⟩ (.int .i64 (b.length : Int))) (RowsR pn lb bd sb hb l (d1, segs ++ [x], b.length) R) := hr.segClose.sel2 (R1 := [_, _, _, _]) [1, 2, 0, 3] (by decide) rfl
    clear hq hr z0 z1 z2 z3 z4 z5 z6 HP H2 g0 g1 d0 d1' hz1 hz2 G2
    have HS := Lib.hid hs
    obtain ⟨y0, y1⟩ := HLY.out _ d1 _ _ hs
    clear hs
    go_wp2_with fail
    go_region_held3 (fun w' => w'.cell? ⟨lx, 0, none⟩ = some (dptr lb) ∧ w'.cell? ⟨lb, 0, none⟩ = some (dptr bd)) (first | exact ⟨hz1, hz2⟩ | exact ⟨y0, y1⟩ | go_keep)
      (first
        | (go_at_call 65; refine (KN2.out _ (segs ++ [x], b.length) (HS.out.drewN _)).mono ?_; rintro e w4 ⟨rfl, g1⟩; obtain ⟨hz1, hz2⟩ := HLY.out w4 d1 _ _ g1; have K1 := Lib.hid (KA.out w4 _ g1); clear g1)
        | (go_at_call 77; refine K1.out.mono ?_; rintro e w5 ⟨rfl, g2⟩; obtain ⟨hz1, hz2⟩ := HLY.out w5 (dAppend d1 (segName x) b).1 (segs ++ [x]) b.length g2; have G3 := Lib.hid g2; clear g2))
    all_goals
      go_wp2_with fail
      go_ret
      refine ⟨by rw [HE.out]; rfl, ?_⟩
      rw [HE.out]
      exact G3.out
end
end Go.Proofs.YtogclkhpbjfadaaGreat
