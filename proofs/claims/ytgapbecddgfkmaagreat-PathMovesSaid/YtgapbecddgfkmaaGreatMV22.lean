/- Rows.PathMovesSaid -/
import Derived.Test.YtgapbecddgfkmaaGreatMV21
import Derived.Test.YtgapbecddgfkmaaGreatMV18
import Derived.StillTailTactics
namespace Go.Proofs.YtgapbecddgfkmaaGreat
open Go.RowKit
set_option linter.unusedVariables false
set_option maxHeartbeats 64000000
set_option maxRecDepth 100000
def k23 : Tup := ⟨1, 2, 6, 3, 4⟩
def f23 : Fl := ⟨k23, 4, 1, 5⟩
theorem k23_wf : WfT k23 := ⟨by decide, by decide, by decide, by decide, by decide, by decide, by decide, by decide, by decide, by decide⟩
theorem k23_may : MayT k23 := by decide
def c23 : ChD := ⟨13, [⟨4, 9, 1⟩], List.replicate 13 4, 1⟩
theorem set23 : setCh (newCh 13) [⟨4, 9, 1⟩] noneOut = (c23, 0) := by
  have h : gensMay [⟨4, 9, 1⟩] = true := by decide
  unfold setCh
  rw [if_pos h, withoutL_none]
  show (_, _) = _
  rw [show (newCh 13).slots = 13 from rfl, table4]
  rfl
theorem chOk23 : ChOk c23 := ⟨by decide, by decide, by decide, fun x hx => by simp [c23] at hx; subst hx; decide⟩
theorem put23 : putF 2 [] f23 = ([f23], true, 0) := by decide +kernel
theorem pkt23 : ∃ pk, pktD 168364297 1500 2 [] c23 1 5 (madeD k23 9 0 []) = (⟨2, 0, 4, pk, [putRec f23]⟩, [f23]) := by
  have hc : choiceD [] c23 k23 = some ⟨4, 9, 1⟩ := pick_one rfl rfl rfl k23_may
  obtain ⟨pk, h⟩ := made_goes (self := 168364297) (mtu := 1500) (most := 2) (gen := 1) (now := 5) (L := []) (c := c23) k23_wf k23_may 9 0 [] (by decide) (by decide) hc (by decide) (by rw [innerL_length]; decide)
  refine ⟨pk, h.trans ?_⟩
  have e : keepD 2 [] ⟨k23, 4, 1, 5⟩ (atF [] k23).isSome (wasD [] k23) (decide (k23.proto = 6) && decide (u64 0 % 256 &&& 5 ≠ 0)) = ([putRec f23], [f23]) := by
    have e1 : (decide (k23.proto = 6) && decide (u64 0 % 256 &&& 5 ≠ 0)) = false := by decide
    rw [e1]
    have e2 : (atF [] k23).isSome = false := rfl
    rw [e2]
    unfold keepD
    rw [if_neg (by decide), if_neg (by simp)]
    have := put23
    unfold f23 at this ⊢
    rw [this]; rfl
  rw [e]
section
variable {F0 : List Nat} {w0 w : World} {R : List Asrt}
theorem o_awake23 (h : In F0 w0 w R) : Calls Tryz.prog 7 #[] w fun e w' => e = .returned (.bool true) ∧ In F0 w0 w' R := by
  obtain ⟨pk, hpk⟩ := pkt23
  have K0 := Lib.hid (o_fnew h 2 20)
  have K1 := Lib.hid (fun w' (R' : List Asrt) (h' : In F0 w0 w' R') => o_chnew may13 cov13 h')
  have K2 := Lib.hid (fun w' cb g vl vt (R' : List Asrt) (h' : In F0 w0 w' (Cells g (encBa ⟨4, 9, 1⟩) 33 :: ChL cb (newCh 13) vl vt R')) => o_chset1 (x := ⟨4, 9, 1⟩) (by decide) rfl h')
  have KC := Lib.hid (fun w' (R' : List Asrt) (h' : In F0 w0 w' R') => o_config 2 h')
  have HML : Hid ((madeD k23 9 0 []).length ≤ 100000000) := Lib.hid (by decide +kernel)
  have KM0 := fun w' (R' : List Asrt) (h' : In F0 w0 w' R') => o_made h' k23_wf 9 0 (A := none) (c := 0) (body := []) bytes_nil (by decide)
  have KP0 := fun bt cb vl vt w' (R' : List Asrt) a n (h' : In F0 w0 w' (ByR (.slice a (madeD k23 9 0 []).length n) (madeD k23 9 0 []) :: FA bt 2 20 [] :: ChL cb c23 vl vt R')) => o_pktown (self := 168364297) (sl := 13) (fl := 2) (idle0 := 20) (mtu := 1500) (sg := 200) (qu := 20000) (ve := 3) (by decide) chOk23 (gen := 1) (now := 5) HML.out h'
  rw [hpk] at KP0
  generalize madeD k23 9 0 [] = m at *
  have KM1 := Lib.hid KM0
  have KP1 := Lib.hid KP0
  have HW := Lib.hid set23
  clear KM0 KP0 hpk h
  go_enter Tryz.func7, Tryz.ntmps7
  go_wp2_with fail
  refine K0.out.mono ?_
  rintro e w1 ⟨bt, rfl, ho⟩
  have h1 : In F0 w0 w1 (FA bt 2 20 [] :: R) := ho
  have K1H := Lib.hid (K1.out _ _ h1)
  clear ho h1 K0 K1
  go_wp2_with fail
  refine K1H.out.mono ?_
  rintro e w2 ⟨cb, a2, n2, rfl, ho⟩
  have h2 := ho.cells (encBa ⟨4, 9, 1⟩) 33
  have K2H := K2.out _ _ _ _ _ _ h2
  rw [HW.out] at K2H
  have K2G := Lib.hid K2H
  clear ho h2 K2 K1H K2H
  go_wp2_with fail
  refine K2G.out.mono ?_
  rintro e w3 ⟨vl, vt, rfl, ho⟩
  obtain ⟨F8, r8⟩ := ho.get 1 rfl
  obtain ⟨al, nl, rfl, -, -, -⟩ := RowA.shape r8
  obtain ⟨F9, r9⟩ := ho.get 2 rfl
  obtain ⟨at', nt, rfl, -, -, -⟩ := RowA.shape r9
  generalize hvl : Value.slice al c23.l.length nl = vl at *
  generalize hvt : Value.slice at' c23.t.length nt = vt at *
  have h3 := ho.cells #[.int .u32 1, .int .u32 2, .int .i64 6, .int .i64 3, .int .i64 4] 24
  clear K2G r8 r9 ho
  go_upto_region 4 with fail
  generalize w3.heap.size = g3 at *
  generalize (w3.alloc (.cells #[.int .u32 1, .int .u32 2, .int .i64 6, .int .i64 3, .int .i64 4] 24)) = V at *
  have HD0 : In F0 w0 V (FA bt 2 20 [] :: ChL cb ⟨13, [⟨4, 9, 1⟩], List.replicate 13 4, 1⟩ vl vt (Cells g3 #[.int .u32 1, .int .u32 2, .int .i64 6, .int .i64 3, .int .i64 4] 24 :: R)) := h3.sel2 (R1 := [_, _, _, _, _]) [4, 1, 2, 3, 0] (by decide) rfl
  have HD1 := HD0.drewN 1
  have KM := Lib.hid (fun w' (R' : List Asrt) (h' : In F0 w0 w' R') => KM1.out w' R' h')
  have KP := Lib.hid (fun w' (R' : List Asrt) a n (h' : In F0 w0 w' (ByR (.slice a m.length n) m :: FA bt 2 20 [] :: ChL cb ⟨13, [⟨4, 9, 1⟩], List.replicate 13 4, 1⟩ vl vt R')) => KP1.out bt cb vl vt w' R' a n h')
  clear h3 HD0 KM1 KP1
  go_cut [4] (fun x4 wx => ∃ g4 vp vr, x4 = .pointer (some ⟨g4, 0, none⟩) ∧ In F0 w0 wx (Cells g4 (plC 2 0 4 vp vr) 43 :: ByR vp pk :: RecR vr [putRec f23] :: FA bt 2 20 [f23] :: ChL cb ⟨13, [⟨4, 9, 1⟩], List.replicate 13 4, 1⟩ vl vt (Cells g3 #[.int .u32 1, .int .u32 2, .int .i64 6, .int .i64 3, .int .i64 4] 24 :: R)))
  case first =>
    have HD : Hid (In F0 w0 V.drew (FA bt 2 20 [] :: ChL cb ⟨13, [⟨4, 9, 1⟩], List.replicate 13 4, 1⟩ vl vt (Cells g3 #[.int .u32 1, .int .u32 2, .int .i64 6, .int .i64 3, .int .i64 4] 24 :: R))) := Lib.hid HD1
    clear HD1
    unfold k23 at KM
    refine e_start (fun w' => w'.cell? ⟨g3, 0, none⟩ = some (.int .u32 1) ∧ w'.cell? ⟨g3, 1, none⟩ = some (.int .u32 2) ∧ w'.cell? ⟨g3, 2, none⟩ = some (.int .i64 6) ∧ w'.cell? ⟨g3, 3, none⟩ = some (.int .i64 3) ∧ w'.cell? ⟨g3, 4, none⟩ = some (.int .i64 4)) (by kernel_rfl) ⟨cell_of (HD.out.block 4 rfl) rfl, cell_of (HD.out.block 4 rfl) rfl, cell_of (HD.out.block 4 rfl) rfl, cell_of (HD.out.block 4 rfl) rfl, cell_of (HD.out.block 4 rfl) rfl⟩ (fun hS => ?_)
    generalize V.drew = VD at *
    refine e_take (i := 1) (v := ?_) rfl (by kernel_rfl) (fun _ _ _ h => h) (by rfl) ?_ hS ?_
    rotate_left
    · (intro w hSw; (try dsimp only at hSw); go_simp; try with_reducible rfl)
    try simp only [Act.put, List.setIfInBounds_toArray, List.set_cons_zero, List.set_cons_succ]
    refine e_take (i := 2) (v := ?_) rfl (by kernel_rfl) (fun _ _ _ h => h) (by rfl) ?_ hS ?_
    rotate_left
    · (intro w hSw; (try dsimp only at hSw); go_simp; try with_reducible rfl)
    try simp only [Act.put, List.setIfInBounds_toArray, List.set_cons_zero, List.set_cons_succ]
    refine e_take (i := 3) (v := ?_) rfl (by kernel_rfl) (fun _ _ _ h => h) (by rfl) ?_ hS ?_
    rotate_left
    · (intro w hSw; (try dsimp only at hSw); go_simp; try with_reducible rfl)
    try simp only [Act.put, List.setIfInBounds_toArray, List.set_cons_zero, List.set_cons_succ]
    refine e_two (i := 0) (j := 6) rfl rfl (by kernel_rfl) (fun K' hK => ?_) (fun K' hK => ?_)
    · go_simp
      go_at_call 13
      refine (KC.out _ _ HD.out).mono ?_
      rintro e u1 ⟨rfl, hN1⟩
      have HU1 : Hid (In F0 w0 u1 (FA bt 2 20 [] :: ChL cb ⟨13, [⟨4, 9, 1⟩], List.replicate 13 4, 1⟩ vl vt (Cells g3 #[.int .u32 1, .int .u32 2, .int .i64 6, .int .i64 3, .int .i64 4] 24 :: R))) := Lib.hid hN1
      clear hN1
      refine hK.out _ _ ⟨cell_of (HU1.out.block 4 rfl) rfl, cell_of (HU1.out.block 4 rfl) rfl, cell_of (HU1.out.block 4 rfl) rfl, cell_of (HU1.out.block 4 rfl) rfl, cell_of (HU1.out.block 4 rfl) rfl⟩ (fun hS => ?_)
      clear hK K'
      try simp only [Act.put, List.setIfInBounds_toArray, List.set_cons_zero, List.set_cons_succ]
      refine e_two (i := 4) (j := 6) rfl rfl (by kernel_rfl) (fun K' hK => ?_) (fun K' hK => ?_)
      · go_simp
        go_at_call 10
        refine (KM.out _ _ HU1.out).mono ?_
        rintro e u2 ⟨vM, rfl, hN2⟩
        obtain ⟨aM, nM, rfl⟩ := ByR.shape hN2
        have HU2 : Hid (In F0 w0 u2 (ByR (.slice aM m.length nM) m :: FA bt 2 20 [] :: ChL cb ⟨13, [⟨4, 9, 1⟩], List.replicate 13 4, 1⟩ vl vt (Cells g3 #[.int .u32 1, .int .u32 2, .int .i64 6, .int .i64 3, .int .i64 4] 24 :: R))) := Lib.hid hN2
        clear hN2
        refine hK.out _ _ ⟨cell_of (HU2.out.block 5 rfl) rfl, cell_of (HU2.out.block 5 rfl) rfl, cell_of (HU2.out.block 5 rfl) rfl, cell_of (HU2.out.block 5 rfl) rfl, cell_of (HU2.out.block 5 rfl) rfl⟩ (fun hS => ?_)
        clear hK K'
        try simp only [Act.put, List.setIfInBounds_toArray, List.set_cons_zero, List.set_cons_succ]
        refine e_two (i := 5) (j := 6) rfl rfl (by kernel_rfl) (fun K' hK => ?_) (fun K' hK => ?_)
        · go_simp
          go_at_call 12
          refine (KP.out _ _ _ _ HU2.out).mono ?_
          rintro e u3 ⟨vp, vr, rfl, hN3⟩
          obtain ⟨ap, np, rfl⟩ := ByR.shape hN3
          obtain ⟨Fr, rr⟩ := hN3.get 1 rfl
          obtain ⟨ar, nr, rfl, -, -, -⟩ := RowA.shape rr
          have HU3 : Hid (In F0 w0 u3 (ByR (.slice ap pk.length np) pk :: RecR (.slice ar [putRec f23].length nr) [putRec f23] :: FA bt 2 20 [f23] :: ChL cb ⟨13, [⟨4, 9, 1⟩], List.replicate 13 4, 1⟩ vl vt (Cells g3 #[.int .u32 1, .int .u32 2, .int .i64 6, .int .i64 3, .int .i64 4] 24 :: R))) := Lib.hid hN3
          clear hN3 rr
          refine hK.out _ _ ⟨cell_of (HU3.out.block 6 rfl) rfl, cell_of (HU3.out.block 6 rfl) rfl, cell_of (HU3.out.block 6 rfl) rfl, cell_of (HU3.out.block 6 rfl) rfl, cell_of (HU3.out.block 6 rfl) rfl⟩ (fun hS => ?_)
          clear hK K'
          try simp only [Act.put, List.setIfInBounds_toArray, List.set_cons_zero, List.set_cons_succ]
          refine e_pin (i := 6) rfl (by kernel_rfl) (fun K' hK => ?_)
          go_simp
          have hA4 := HU3.out.cells (plC 0 0 0 (.slice none 0 0) (.slice none 0 0)) 43
          generalize u3.heap.size = gA at *
          generalize (u3.alloc (.cells (plC 0 0 0 (.slice none 0 0) (.slice none 0 0)) 43)) = u4 at *
          have HU4 : Hid (In F0 w0 u4 (ByR (.slice ap pk.length np) pk :: RecR (.slice ar [putRec f23].length nr) [putRec f23] :: FA bt 2 20 [f23] :: ChL cb ⟨13, [⟨4, 9, 1⟩], List.replicate 13 4, 1⟩ vl vt (Cells gA (plC 0 0 0 (.slice none 0 0) (.slice none 0 0)) 43 :: Cells g3 #[.int .u32 1, .int .u32 2, .int .i64 6, .int .i64 3, .int .i64 4] 24 :: R))) := Lib.hid (hA4.sel2 (R1 := [_, _, _, _, _, _, _, _]) [1, 2, 3, 4, 5, 6, 0, 7] (by decide) rfl)
          clear hA4
          refine hK.out _ _ ⟨cell_of (HU4.out.block 7 rfl) rfl, cell_of (HU4.out.block 7 rfl) rfl, cell_of (HU4.out.block 7 rfl) rfl, cell_of (HU4.out.block 7 rfl) rfl, cell_of (HU4.out.block 7 rfl) rfl⟩ (fun hS => ?_)
          clear hK K'
          try simp only [Act.put, List.setIfInBounds_toArray, List.set_cons_zero, List.set_cons_succ]
          refine e_last (i := 7) rfl (by kernel_rfl) (fun K' hK => ?_)
          have hF := HU4.out.setFull 6 rfl (xs := (plC 2 0 4 (.slice ap pk.length np) (.slice ar [putRec f23].length nr)).toList) (b := gA) (C := (plC 0 0 0 (.slice none 0 0) (.slice none 0 0))) (T := 43) rfl
          refine store_step (by rfl) 43 (.tmp 4) (.tmp 17) (by rfl) gA 0 (plC 2 0 4 (.slice ap pk.length np) (.slice ar [putRec f23].length nr)) (by rfl) (by rfl) (there_of (C := (plC 0 0 0 (.slice none 0 0) (.slice none 0 0))) (T := 43) (HU4.out.block 6 rfl)) (by kernel_rfl) (plC_all _ _ _ _ _ _ _ _ _) ?_
          refine hK.out _ _ ?_
          clear hK K' hS
          go_wp2_with fail
          go_meet
          exact ⟨gA, _, _, rfl, hF.sel2 (R1 := [_, _, _, _, _, _, _, _]) [6, 0, 1, 2, 3, 4, 5, 7] (by decide) rfl⟩
        · go_simp
          have hA5 := HU2.out.cells (plC 0 0 0 (.slice none 0 0) (.slice none 0 0)) 43
          generalize u2.heap.size = gA at *
          generalize (u2.alloc (.cells (plC 0 0 0 (.slice none 0 0) (.slice none 0 0)) 43)) = u5 at *
          have HU5 : Hid (In F0 w0 u5 (ByR (.slice aM m.length nM) m :: FA bt 2 20 [] :: ChL cb ⟨13, [⟨4, 9, 1⟩], List.replicate 13 4, 1⟩ vl vt (Cells gA (plC 0 0 0 (.slice none 0 0) (.slice none 0 0)) 43 :: Cells g3 #[.int .u32 1, .int .u32 2, .int .i64 6, .int .i64 3, .int .i64 4] 24 :: R))) := Lib.hid (hA5.sel2 (R1 := [_, _, _, _, _, _, _]) [1, 2, 3, 4, 5, 0, 6] (by decide) rfl)
          clear hA5
          refine hK.out _ _ ⟨cell_of (HU5.out.block 6 rfl) rfl, cell_of (HU5.out.block 6 rfl) rfl, cell_of (HU5.out.block 6 rfl) rfl, cell_of (HU5.out.block 6 rfl) rfl, cell_of (HU5.out.block 6 rfl) rfl⟩ (fun hS => ?_)
          clear hK K'
          try simp only [Act.put, List.setIfInBounds_toArray, List.set_cons_zero, List.set_cons_succ]
          refine e_pin (i := 5) rfl (by kernel_rfl) (fun K' hK => ?_)
          go_simp
          go_at_call 12
          refine (KP.out _ _ _ _ HU5.out).mono ?_
          rintro e u6 ⟨vp, vr, rfl, hN6⟩
          obtain ⟨ap, np, rfl⟩ := ByR.shape hN6
          obtain ⟨Fr, rr⟩ := hN6.get 1 rfl
          obtain ⟨ar, nr, rfl, -, -, -⟩ := RowA.shape rr
          have HU6 : Hid (In F0 w0 u6 (ByR (.slice ap pk.length np) pk :: RecR (.slice ar [putRec f23].length nr) [putRec f23] :: FA bt 2 20 [f23] :: ChL cb ⟨13, [⟨4, 9, 1⟩], List.replicate 13 4, 1⟩ vl vt (Cells gA (plC 0 0 0 (.slice none 0 0) (.slice none 0 0)) 43 :: Cells g3 #[.int .u32 1, .int .u32 2, .int .i64 6, .int .i64 3, .int .i64 4] 24 :: R))) := Lib.hid hN6
          clear hN6 rr
          refine hK.out _ _ ⟨cell_of (HU6.out.block 7 rfl) rfl, cell_of (HU6.out.block 7 rfl) rfl, cell_of (HU6.out.block 7 rfl) rfl, cell_of (HU6.out.block 7 rfl) rfl, cell_of (HU6.out.block 7 rfl) rfl⟩ (fun hS => ?_)
          clear hK K'
          try simp only [Act.put, List.setIfInBounds_toArray, List.set_cons_zero, List.set_cons_succ]
          refine e_last (i := 7) rfl (by kernel_rfl) (fun K' hK => ?_)
          have hF := HU6.out.setFull 6 rfl (xs := (plC 2 0 4 (.slice ap pk.length np) (.slice ar [putRec f23].length nr)).toList) (b := gA) (C := (plC 0 0 0 (.slice none 0 0) (.slice none 0 0))) (T := 43) rfl
          refine store_step (by rfl) 43 (.tmp 4) (.tmp 17) (by rfl) gA 0 (plC 2 0 4 (.slice ap pk.length np) (.slice ar [putRec f23].length nr)) (by rfl) (by rfl) (there_of (C := (plC 0 0 0 (.slice none 0 0) (.slice none 0 0))) (T := 43) (HU6.out.block 6 rfl)) (by kernel_rfl) (plC_all _ _ _ _ _ _ _ _ _) ?_
          refine hK.out _ _ ?_
          clear hK K' hS
          go_wp2_with fail
          go_meet
          exact ⟨gA, _, _, rfl, hF.sel2 (R1 := [_, _, _, _, _, _, _, _]) [6, 0, 1, 2, 3, 4, 5, 7] (by decide) rfl⟩
      · go_simp
        have hA7 := HU1.out.cells (plC 0 0 0 (.slice none 0 0) (.slice none 0 0)) 43
        generalize u1.heap.size = gA at *
        generalize (u1.alloc (.cells (plC 0 0 0 (.slice none 0 0) (.slice none 0 0)) 43)) = u7 at *
        have HU7 : Hid (In F0 w0 u7 (FA bt 2 20 [] :: ChL cb ⟨13, [⟨4, 9, 1⟩], List.replicate 13 4, 1⟩ vl vt (Cells gA (plC 0 0 0 (.slice none 0 0) (.slice none 0 0)) 43 :: Cells g3 #[.int .u32 1, .int .u32 2, .int .i64 6, .int .i64 3, .int .i64 4] 24 :: R))) := Lib.hid (hA7.sel2 (R1 := [_, _, _, _, _, _]) [1, 2, 3, 4, 0, 5] (by decide) rfl)
        clear hA7
        refine hK.out _ _ ⟨cell_of (HU7.out.block 5 rfl) rfl, cell_of (HU7.out.block 5 rfl) rfl, cell_of (HU7.out.block 5 rfl) rfl, cell_of (HU7.out.block 5 rfl) rfl, cell_of (HU7.out.block 5 rfl) rfl⟩ (fun hS => ?_)
        clear hK K'
        try simp only [Act.put, List.setIfInBounds_toArray, List.set_cons_zero, List.set_cons_succ]
        refine e_pin (i := 4) rfl (by kernel_rfl) (fun K' hK => ?_)
        go_simp
        go_at_call 10
        refine (KM.out _ _ HU7.out).mono ?_
        rintro e u8 ⟨vM, rfl, hN8⟩
        obtain ⟨aM, nM, rfl⟩ := ByR.shape hN8
        have HU8 : Hid (In F0 w0 u8 (ByR (.slice aM m.length nM) m :: FA bt 2 20 [] :: ChL cb ⟨13, [⟨4, 9, 1⟩], List.replicate 13 4, 1⟩ vl vt (Cells gA (plC 0 0 0 (.slice none 0 0) (.slice none 0 0)) 43 :: Cells g3 #[.int .u32 1, .int .u32 2, .int .i64 6, .int .i64 3, .int .i64 4] 24 :: R))) := Lib.hid hN8
        clear hN8
        refine hK.out _ _ ⟨cell_of (HU8.out.block 6 rfl) rfl, cell_of (HU8.out.block 6 rfl) rfl, cell_of (HU8.out.block 6 rfl) rfl, cell_of (HU8.out.block 6 rfl) rfl, cell_of (HU8.out.block 6 rfl) rfl⟩ (fun hS => ?_)
        clear hK K'
        try simp only [Act.put, List.setIfInBounds_toArray, List.set_cons_zero, List.set_cons_succ]
        refine e_pin (i := 5) rfl (by kernel_rfl) (fun K' hK => ?_)
        go_simp
        go_at_call 12
        refine (KP.out _ _ _ _ HU8.out).mono ?_
        rintro e u9 ⟨vp, vr, rfl, hN9⟩
        obtain ⟨ap, np, rfl⟩ := ByR.shape hN9
        obtain ⟨Fr, rr⟩ := hN9.get 1 rfl
        obtain ⟨ar, nr, rfl, -, -, -⟩ := RowA.shape rr
        have HU9 : Hid (In F0 w0 u9 (ByR (.slice ap pk.length np) pk :: RecR (.slice ar [putRec f23].length nr) [putRec f23] :: FA bt 2 20 [f23] :: ChL cb ⟨13, [⟨4, 9, 1⟩], List.replicate 13 4, 1⟩ vl vt (Cells gA (plC 0 0 0 (.slice none 0 0) (.slice none 0 0)) 43 :: Cells g3 #[.int .u32 1, .int .u32 2, .int .i64 6, .int .i64 3, .int .i64 4] 24 :: R))) := Lib.hid hN9
        clear hN9 rr
        refine hK.out _ _ ⟨cell_of (HU9.out.block 7 rfl) rfl, cell_of (HU9.out.block 7 rfl) rfl, cell_of (HU9.out.block 7 rfl) rfl, cell_of (HU9.out.block 7 rfl) rfl, cell_of (HU9.out.block 7 rfl) rfl⟩ (fun hS => ?_)
        clear hK K'
        try simp only [Act.put, List.setIfInBounds_toArray, List.set_cons_zero, List.set_cons_succ]
        refine e_last (i := 7) rfl (by kernel_rfl) (fun K' hK => ?_)
        have hF := HU9.out.setFull 6 rfl (xs := (plC 2 0 4 (.slice ap pk.length np) (.slice ar [putRec f23].length nr)).toList) (b := gA) (C := (plC 0 0 0 (.slice none 0 0) (.slice none 0 0))) (T := 43) rfl
        refine store_step (by rfl) 43 (.tmp 4) (.tmp 17) (by rfl) gA 0 (plC 2 0 4 (.slice ap pk.length np) (.slice ar [putRec f23].length nr)) (by rfl) (by rfl) (there_of (C := (plC 0 0 0 (.slice none 0 0) (.slice none 0 0))) (T := 43) (HU9.out.block 6 rfl)) (by kernel_rfl) (plC_all _ _ _ _ _ _ _ _ _) ?_
        refine hK.out _ _ ?_
        clear hK K' hS
        go_wp2_with fail
        go_meet
        exact ⟨gA, _, _, rfl, hF.sel2 (R1 := [_, _, _, _, _, _, _, _]) [6, 0, 1, 2, 3, 4, 5, 7] (by decide) rfl⟩
    · go_simp
      have hA10 := HD.out.cells (plC 0 0 0 (.slice none 0 0) (.slice none 0 0)) 43
      generalize VD.heap.size = gA at *
      generalize (VD.alloc (.cells (plC 0 0 0 (.slice none 0 0) (.slice none 0 0)) 43)) = u10 at *
      have HU10 : Hid (In F0 w0 u10 (FA bt 2 20 [] :: ChL cb ⟨13, [⟨4, 9, 1⟩], List.replicate 13 4, 1⟩ vl vt (Cells gA (plC 0 0 0 (.slice none 0 0) (.slice none 0 0)) 43 :: Cells g3 #[.int .u32 1, .int .u32 2, .int .i64 6, .int .i64 3, .int .i64 4] 24 :: R))) := Lib.hid (hA10.sel2 (R1 := [_, _, _, _, _, _]) [1, 2, 3, 4, 0, 5] (by decide) rfl)
      clear hA10
      refine hK.out _ _ ⟨cell_of (HU10.out.block 5 rfl) rfl, cell_of (HU10.out.block 5 rfl) rfl, cell_of (HU10.out.block 5 rfl) rfl, cell_of (HU10.out.block 5 rfl) rfl, cell_of (HU10.out.block 5 rfl) rfl⟩ (fun hS => ?_)
      clear hK K'
      try simp only [Act.put, List.setIfInBounds_toArray, List.set_cons_zero, List.set_cons_succ]
      refine e_pin (i := 0) rfl (by kernel_rfl) (fun K' hK => ?_)
      go_simp
      go_at_call 13
      refine (KC.out _ _ HU10.out).mono ?_
      rintro e u11 ⟨rfl, hN11⟩
      have HU11 : Hid (In F0 w0 u11 (FA bt 2 20 [] :: ChL cb ⟨13, [⟨4, 9, 1⟩], List.replicate 13 4, 1⟩ vl vt (Cells gA (plC 0 0 0 (.slice none 0 0) (.slice none 0 0)) 43 :: Cells g3 #[.int .u32 1, .int .u32 2, .int .i64 6, .int .i64 3, .int .i64 4] 24 :: R))) := Lib.hid hN11
      clear hN11
      refine hK.out _ _ ⟨cell_of (HU11.out.block 5 rfl) rfl, cell_of (HU11.out.block 5 rfl) rfl, cell_of (HU11.out.block 5 rfl) rfl, cell_of (HU11.out.block 5 rfl) rfl, cell_of (HU11.out.block 5 rfl) rfl⟩ (fun hS => ?_)
      clear hK K'
      try simp only [Act.put, List.setIfInBounds_toArray, List.set_cons_zero, List.set_cons_succ]
      refine e_pin (i := 4) rfl (by kernel_rfl) (fun K' hK => ?_)
      go_simp
      go_at_call 10
      refine (KM.out _ _ HU11.out).mono ?_
      rintro e u12 ⟨vM, rfl, hN12⟩
      obtain ⟨aM, nM, rfl⟩ := ByR.shape hN12
      have HU12 : Hid (In F0 w0 u12 (ByR (.slice aM m.length nM) m :: FA bt 2 20 [] :: ChL cb ⟨13, [⟨4, 9, 1⟩], List.replicate 13 4, 1⟩ vl vt (Cells gA (plC 0 0 0 (.slice none 0 0) (.slice none 0 0)) 43 :: Cells g3 #[.int .u32 1, .int .u32 2, .int .i64 6, .int .i64 3, .int .i64 4] 24 :: R))) := Lib.hid hN12
      clear hN12
      refine hK.out _ _ ⟨cell_of (HU12.out.block 6 rfl) rfl, cell_of (HU12.out.block 6 rfl) rfl, cell_of (HU12.out.block 6 rfl) rfl, cell_of (HU12.out.block 6 rfl) rfl, cell_of (HU12.out.block 6 rfl) rfl⟩ (fun hS => ?_)
      clear hK K'
      try simp only [Act.put, List.setIfInBounds_toArray, List.set_cons_zero, List.set_cons_succ]
      refine e_pin (i := 5) rfl (by kernel_rfl) (fun K' hK => ?_)
      go_simp
      go_at_call 12
      refine (KP.out _ _ _ _ HU12.out).mono ?_
      rintro e u13 ⟨vp, vr, rfl, hN13⟩
      obtain ⟨ap, np, rfl⟩ := ByR.shape hN13
      obtain ⟨Fr, rr⟩ := hN13.get 1 rfl
      obtain ⟨ar, nr, rfl, -, -, -⟩ := RowA.shape rr
      have HU13 : Hid (In F0 w0 u13 (ByR (.slice ap pk.length np) pk :: RecR (.slice ar [putRec f23].length nr) [putRec f23] :: FA bt 2 20 [f23] :: ChL cb ⟨13, [⟨4, 9, 1⟩], List.replicate 13 4, 1⟩ vl vt (Cells gA (plC 0 0 0 (.slice none 0 0) (.slice none 0 0)) 43 :: Cells g3 #[.int .u32 1, .int .u32 2, .int .i64 6, .int .i64 3, .int .i64 4] 24 :: R))) := Lib.hid hN13
      clear hN13 rr
      refine hK.out _ _ ⟨cell_of (HU13.out.block 7 rfl) rfl, cell_of (HU13.out.block 7 rfl) rfl, cell_of (HU13.out.block 7 rfl) rfl, cell_of (HU13.out.block 7 rfl) rfl, cell_of (HU13.out.block 7 rfl) rfl⟩ (fun hS => ?_)
      clear hK K'
      try simp only [Act.put, List.setIfInBounds_toArray, List.set_cons_zero, List.set_cons_succ]
      refine e_last (i := 7) rfl (by kernel_rfl) (fun K' hK => ?_)
      have hF := HU13.out.setFull 6 rfl (xs := (plC 2 0 4 (.slice ap pk.length np) (.slice ar [putRec f23].length nr)).toList) (b := gA) (C := (plC 0 0 0 (.slice none 0 0) (.slice none 0 0))) (T := 43) rfl
      refine store_step (by rfl) 43 (.tmp 4) (.tmp 17) (by rfl) gA 0 (plC 2 0 4 (.slice ap pk.length np) (.slice ar [putRec f23].length nr)) (by rfl) (by rfl) (there_of (C := (plC 0 0 0 (.slice none 0 0) (.slice none 0 0))) (T := 43) (HU13.out.block 6 rfl)) (by kernel_rfl) (plC_all _ _ _ _ _ _ _ _ _) ?_
      refine hK.out _ _ ?_
      clear hK K' hS
      go_wp2_with fail
      go_meet
      exact ⟨gA, _, _, rfl, hF.sel2 (R1 := [_, _, _, _, _, _, _, _]) [6, 0, 1, 2, 3, 4, 5, 7] (by decide) rfl⟩
  case rest =>
    obtain ⟨g4, vp, vr, rfl, ho⟩ := hcut
    obtain ⟨F8, r8⟩ := ho.get 2 rfl
    obtain ⟨ar, nr, rfl, -, -, -⟩ := RowA.shape r8
    have hb := ho.block 0 rfl
    have p0 : wc.cell? ⟨g4, 0, none⟩ = some (.int .i64 2) := cell_of hb rfl
    have p2 : wc.cell? ⟨g4, 2, none⟩ = some (.int .i64 4) := cell_of hb rfl
    have p4 : wc.cell? ⟨g4, 4, none⟩ = some (.slice ar 1 nr) := cell_of hb rfl
    have K5 := Lib.hid (o_flen ho 3 rfl)
    have G := Lib.hid (ho.sel2 (R1 := [_, _, _, _, _, _, _, _]) [] (by decide) rfl)
    clear ho hb r8 KM KP
    go_wp2_with fail
    refine K5.out.mono ?_
    rintro e w5 ⟨rfl, rfl⟩
    clear K5
    go_wp2_with fail
    go_ret
    exact ⟨rfl, G.out⟩
end
section
variable {P : Program} {Q : Exit → Act → World → Prop} {S : World → Prop} {l : List Oper}
def threeB (l : List Oper) (i j k : Nat) (listed : Array Bool) : Bool := decide (Region.ready .any l.toArray listed = [i, j, k]) && (decide (i + 1 < l.toArray.size) && (decide (j + 1 < l.toArray.size) && decide (k + 1 < l.toArray.size)))
end
theorem exec_load_row {P : Program} {o : Oper} {a : Act} {w : World} (ty : TypeId) (x : Operand) (ho : o.op = .load ty x)
    (g : Nat) (hx : a.eval x = .pointer (some ⟨g, 0, none⟩)) (t : TypeId) (cs : Array Value) (fr : Nat × Nat) (d : TypeDesc) (hg : w.heap[g]? = some (.cells cs t fr))
    (hu : P.underlying ty = some d) (hd : (match d with | .struct _ | .array _ _ => true | _ => false) = true) (hi : (P.info? ty).map (·.size) = some cs.size) : (execOp a.eval o).run P w = .ok (.value (.agg cs)) w := by
  unfold execOp
  simp only [ho, hx, Instr.loadAt, Instr.sureAddr, Sem.run_bind, Sem.run_pure, Result.andThen_ok, run_loadVar_row w g t ty cs fr d hg hu hd hi]
section
variable {F0 : List Nat} {w0 w : World} {R : List Asrt}
abbrev rC (k0 k1 k2 k3 k4 bk gen seen : Int) : Array Value := #[.int .i64 1, .int .u32 k0, .int .u32 k1, .int .i64 k2, .int .i64 k3, .int .i64 k4, .int .i64 bk, .int .i64 gen, .int .i64 seen, .int .i64 0, .slice none 0 0, .int .i64 0, .int .i64 0, .int .i64 0]
theorem rC_all (k0 k1 k2 k3 k4 bk gen seen : Int) : (rC k0 k1 k2 k3 k4 bk gen seen).all (·.oneCell') = true := by simp [Value.oneCell']
theorem o_plain1 (k0 k1 k2 k3 k4 bk gen seen : Int) (h : In F0 w0 w R) : Calls Tryz.prog 45 #[.agg (rC k0 k1 k2 k3 k4 bk gen seen)] w fun e w' => e = .returned (.agg (rC k0 k1 k2 k3 k4 bk gen seen)) ∧ In F0 w0 w' R := by
  have HH := Lib.hid h
  clear h
  go_enter Tryz.func45, Tryz.ntmps45
  go_wp2_with fail
  exact bodyPost_ret (results_cell_row Tryz.results45 _ _ (w.heap.size + 1) 54 _ (0, 0) _ rfl (heap3_mid w _ _ _) Tryz.underlying54 rfl (by kernel_rfl)) rfl ⟨rfl, ((HH.out.alloc _).alloc _).alloc _⟩
theorem o_samebk0 (w : World) : Calls Tryz.prog 46 #[.slice none 0 0, .slice none 0 0] w fun e w' => e = .returned (.bool true) ∧ w' = w := by
  go_enter Tryz.func46, Tryz.ntmps46
  go_wp2_with fail
  go_loopw [13] (fun v wr => v = .int .i64 0 ∧ wr = w) (fun _ _ => 0)
  case atStart => exact ⟨rfl, rfl⟩
  case round =>
    obtain ⟨rfl, rfl⟩ := hrel
    go_wp2_with fail
    go_ret
    exact ⟨rfl, rfl⟩
theorem o_samerec (k0 k1 k2 k3 k4 bk gen seen : Int) (h : In F0 w0 w R) : Calls Tryz.prog 15 #[.agg (rC k0 k1 k2 k3 k4 bk gen seen), .agg (rC k0 k1 k2 k3 k4 bk gen seen)] w fun e w' => e = .returned (.bool true) ∧ In F0 w0 w' R := by
  have h1 := (h.cells (rC k0 k1 k2 k3 k4 bk gen seen) 54).cells (rC k0 k1 k2 k3 k4 bk gen seen) 54
  rw [World.size_alloc] at h1
  have KP := Lib.hid (fun w' (R' : List Asrt) (h' : In F0 w0 w' R') => o_plain1 k0 k1 k2 k3 k4 bk gen seen h')
  have KB := Lib.hid o_samebk0
  have HD := Lib.hid (h1.drewN 1)
  clear h h1
  go_enter Tryz.func15, Tryz.ntmps15
  go_upto_region 1 with fail
  generalize hC : rC k0 k1 k2 k3 k4 bk gen seen = C at *
  generalize w.heap.size = g at *
  have hsz : C.size = 14 := by rw [← hC]; rfl
  have hinf : (Tryz.prog.info? 54).map (·.size) = some C.size := by rw [hsz]; kernel_rfl
  have hall : C.all (·.oneCell') = true := by rw [← hC]; exact rC_all _ _ _ _ _ _ _ _
  refine e_start (fun w' => w'.heap[g]? = some (.cells C 54 (0, 0)) ∧ w'.heap[g + 1]? = some (.cells C 54 (0, 0))) (by kernel_rfl) ⟨HD.out.block 1 rfl, HD.out.block 0 rfl⟩ (fun hS => ?_)
  refine e_take (i := 0) (v := .agg C) rfl (by kernel_rfl) (fun _ _ _ h => h) (by rfl) (fun w hSw => exec_load_row 54 (.tmp 2) rfl g rfl 54 C (0, 0) _ hSw.1 Tryz.underlying54 rfl hinf) hS ?_
  try simp only [Act.put, List.setIfInBounds_toArray, List.set_cons_zero, List.set_cons_succ]
  refine e_take (i := 2) (v := .agg C) rfl (by kernel_rfl) (fun _ _ _ h => h) (by rfl) (fun w hSw => exec_load_row 54 (.tmp 3) rfl (g + 1) rfl 54 C (0, 0) _ hSw.2 Tryz.underlying54 rfl hinf) hS ?_
  try simp only [Act.put, List.setIfInBounds_toArray, List.set_cons_zero, List.set_cons_succ]
  refine e_pin (i := 1) rfl (by kernel_rfl) (fun K' hK => ?_)
  go_simp
  go_at_call 45
  have KP1 := KP.out _ _ HD.out
  refine KP1.mono ?_
  rintro e w3 ⟨rfl, ho3⟩
  have HO3 := Lib.hid ho3
  clear hS
  refine hK.out _ _ ⟨HO3.out.block 1 rfl, HO3.out.block 0 rfl⟩ (fun hS => ?_)
  clear hK K' ho3 KP1
  try simp only [Act.put, List.setIfInBounds_toArray, List.set_cons_zero, List.set_cons_succ]
  refine e_pin (i := 3) rfl (by kernel_rfl) (fun K' hK => ?_)
  go_simp
  go_at_call 45
  have KP1 := KP.out _ _ HO3.out
  refine KP1.mono ?_
  rintro e w4 ⟨rfl, ho4⟩
  have HO4 := Lib.hid ho4
  have h5 := ho4.setFull 1 rfl (xs := C.toList) (b := g) (C := C) (T := 54) (by simp)
  have h6 := h5.setFull 0 rfl (xs := C.toList) (b := g + 1) (C := C) (T := 54) (by simp)
  simp only [Array.toArray_toList] at h5 h6
  have HO5 := Lib.hid h5
  have HO6 := Lib.hid h6
  clear hS
  refine hK.out _ _ ⟨HO4.out.block 1 rfl, HO4.out.block 0 rfl⟩ (fun hS => ?_)
  clear hK K' ho4 KP1 h5 h6
  try simp only [Act.put, List.setIfInBounds_toArray, List.set_cons_zero, List.set_cons_succ]
  refine e_pin (i := 4) rfl (by kernel_rfl) (fun K' hK => ?_)
  refine store_step (by rfl) 54 (.tmp 2) (.tmp 6) (by rfl) g 0 C (by rfl) (by rfl) (there_of (HO4.out.block 1 rfl)) hinf hall ?_
  clear hS
  refine hK.out _ _ ⟨HO5.out.block 1 rfl, HO5.out.block 0 rfl⟩ (fun hS => ?_)
  clear hK K'
  try simp only [Act.put, List.setIfInBounds_toArray, List.set_cons_zero, List.set_cons_succ]
  refine e_last (i := 5) rfl (by kernel_rfl) (fun K' hK => ?_)
  refine store_step (by rfl) 54 (.tmp 3) (.tmp 8) (by rfl) (g + 1) 0 C (by rfl) (by rfl) (there_of (HO5.out.block 0 rfl)) hinf hall ?_
  refine hK.out _ _ ?_
  clear hK K' hS
  generalize ((w4.setCells g 0 C.toList).setCells (g + 1) 0 C.toList) = W2 at *
  have h2 : In F0 w0 W2 (Cells (g + 1) (rC k0 k1 k2 k3 k4 bk gen seen) 54 :: Cells g (rC k0 k1 k2 k3 k4 bk gen seen) 54 :: R) := by rw [hC]; exact HO6.out
  have p0 : W2.cell? ⟨g, 0, none⟩ = some (.int .i64 1) := cell_of (h2.block 1 rfl) rfl
  have p1 : W2.cell? ⟨g, 1, none⟩ = some (.int .u32 k0) := cell_of (h2.block 1 rfl) rfl
  have p2 : W2.cell? ⟨g, 2, none⟩ = some (.int .u32 k1) := cell_of (h2.block 1 rfl) rfl
  have p3 : W2.cell? ⟨g, 3, none⟩ = some (.int .i64 k2) := cell_of (h2.block 1 rfl) rfl
  have p4 : W2.cell? ⟨g, 4, none⟩ = some (.int .i64 k3) := cell_of (h2.block 1 rfl) rfl
  have p5 : W2.cell? ⟨g, 5, none⟩ = some (.int .i64 k4) := cell_of (h2.block 1 rfl) rfl
  have p6 : W2.cell? ⟨g, 6, none⟩ = some (.int .i64 bk) := cell_of (h2.block 1 rfl) rfl
  have p7 : W2.cell? ⟨g, 7, none⟩ = some (.int .i64 gen) := cell_of (h2.block 1 rfl) rfl
  have p8 : W2.cell? ⟨g, 8, none⟩ = some (.int .i64 seen) := cell_of (h2.block 1 rfl) rfl
  have p9 : W2.cell? ⟨g, 9, none⟩ = some (.int .i64 0) := cell_of (h2.block 1 rfl) rfl
  have p10 : W2.cell? ⟨g, 10, none⟩ = some (.slice none 0 0) := cell_of (h2.block 1 rfl) rfl
  have p11 : W2.cell? ⟨g, 11, none⟩ = some (.int .i64 0) := cell_of (h2.block 1 rfl) rfl
  have p12 : W2.cell? ⟨g, 12, none⟩ = some (.int .i64 0) := cell_of (h2.block 1 rfl) rfl
  have p13 : W2.cell? ⟨g, 13, none⟩ = some (.int .i64 0) := cell_of (h2.block 1 rfl) rfl
  have q0 : W2.cell? ⟨g + 1, 0, none⟩ = some (.int .i64 1) := cell_of (h2.block 0 rfl) rfl
  have q1 : W2.cell? ⟨g + 1, 1, none⟩ = some (.int .u32 k0) := cell_of (h2.block 0 rfl) rfl
  have q2 : W2.cell? ⟨g + 1, 2, none⟩ = some (.int .u32 k1) := cell_of (h2.block 0 rfl) rfl
  have q3 : W2.cell? ⟨g + 1, 3, none⟩ = some (.int .i64 k2) := cell_of (h2.block 0 rfl) rfl
  have q4 : W2.cell? ⟨g + 1, 4, none⟩ = some (.int .i64 k3) := cell_of (h2.block 0 rfl) rfl
  have q5 : W2.cell? ⟨g + 1, 5, none⟩ = some (.int .i64 k4) := cell_of (h2.block 0 rfl) rfl
  have q6 : W2.cell? ⟨g + 1, 6, none⟩ = some (.int .i64 bk) := cell_of (h2.block 0 rfl) rfl
  have q7 : W2.cell? ⟨g + 1, 7, none⟩ = some (.int .i64 gen) := cell_of (h2.block 0 rfl) rfl
  have q8 : W2.cell? ⟨g + 1, 8, none⟩ = some (.int .i64 seen) := cell_of (h2.block 0 rfl) rfl
  have q9 : W2.cell? ⟨g + 1, 9, none⟩ = some (.int .i64 0) := cell_of (h2.block 0 rfl) rfl
  have q10 : W2.cell? ⟨g + 1, 10, none⟩ = some (.slice none 0 0) := cell_of (h2.block 0 rfl) rfl
  have q11 : W2.cell? ⟨g + 1, 11, none⟩ = some (.int .i64 0) := cell_of (h2.block 0 rfl) rfl
  have q12 : W2.cell? ⟨g + 1, 12, none⟩ = some (.int .i64 0) := cell_of (h2.block 0 rfl) rfl
  have q13 : W2.cell? ⟨g + 1, 13, none⟩ = some (.int .i64 0) := cell_of (h2.block 0 rfl) rfl
  have G := Lib.hid h2.drop.drop
  have KB2 := Lib.hid (KB.out W2)
  clear h2 HO3 HO4 HO5 HO6 HD KP KB hinf hall hsz hC
  go_wp2_with fail
  refine KB2.out.mono ?_
  rintro e w5 ⟨rfl, rfl⟩
  clear KB2
  go_wp2_with fail
  go_ret
  exact ⟨rfl, G.out⟩
end
end Go.Proofs.YtgapbecddgfkmaaGreat
