/- Rows.PathStaysSaid -/
import Derived.Test.YtgapbecddgfkmaaGreatPS22
import Derived.Test.YtgapbecddgfkmaaGreatPS12
import Derived.Test.YtgapbecddgfkmaaGreatPS18
import Derived.Test.YtgapbecddgfkmaaGreatPS8
namespace Go.Proofs.YtgapbecddgfkmaaGreat
open Go.RowKit
set_option linter.unusedVariables false
set_option maxHeartbeats 64000000
set_option maxRecDepth 100000
def k23 : Tup := ⟨1, 2, 6, 3, 4⟩
def f23 : Fl := ⟨k23, 4, 1, 5⟩
theorem k23_wf : WfT k23 := ⟨by decide, by decide, by decide, by decide, by decide, by decide, by decide, by decide, by decide, by decide⟩
theorem k23_may : MayT k23 := by decide
def c23 : ChD := ⟨13, [⟨4, 9, 1⟩], List.replicate 13 4, 1⟩
theorem set23 : setCh (newCh 13) [⟨4, 9, 1⟩] noneOut = (c23, 0) := by
  have h : gensMay [⟨4, 9, 1⟩] = true := by decide
  unfold setCh
  rw [if_pos h, withoutL_none]
  show (_, _) = _
  rw [show (newCh 13).slots = 13 from rfl, table4]
  rfl
theorem chOk23 : ChOk c23 := ⟨by decide, by decide, by decide, fun x hx => by simp [c23] at hx; subst hx; decide⟩
theorem put23 : putF 2 [] f23 = ([f23], true, 0) := by decide +kernel
theorem pkt23 : ∃ pk, pktD 168364297 1500 2 [] c23 1 5 (madeD k23 9 0 []) = (⟨2, 0, 4, pk, [putRec f23]⟩, [f23]) := by
  have hc : choiceD [] c23 k23 = some ⟨4, 9, 1⟩ := pick_one rfl rfl rfl k23_may
  obtain ⟨pk, h⟩ := made_goes (self := 168364297) (mtu := 1500) (most := 2) (gen := 1) (now := 5) (L := []) (c := c23) k23_wf k23_may 9 0 [] (by decide) (by decide) hc (by decide) (by rw [innerL_length]; decide)
  refine ⟨pk, h.trans ?_⟩
  have e : keepD 2 [] ⟨k23, 4, 1, 5⟩ (atF [] k23).isSome (wasD [] k23) (decide (k23.proto = 6) && decide (u64 0 % 256 &&& 5 ≠ 0)) = ([putRec f23], [f23]) := by
    have e1 : (decide (k23.proto = 6) && decide (u64 0 % 256 &&& 5 ≠ 0)) = false := by decide
    rw [e1]
    have e2 : (atF [] k23).isSome = false := rfl
    rw [e2]
    unfold keepD
    rw [if_neg (by decide), if_neg (by simp)]
    have := put23
    unfold f23 at this ⊢
    rw [this]; rfl
  rw [e]
section
variable {F0 : List Nat} {w0 w : World} {R : List Asrt}
theorem o_awake23 (h : In F0 w0 w R) : Calls Tryz.prog 7 #[] w fun e w' => e = .returned (.bool true) ∧ In F0 w0 w' R := by
  obtain ⟨pk, hpk⟩ := pkt23
  have K0 := Lib.hid (o_fnew h 2 20)
  have K1 := Lib.hid (fun w' (R' : List Asrt) (h' : In F0 w0 w' R') => o_chnew may13 cov13 h')
  have K2 := Lib.hid (fun w' cb g vl vt (R' : List Asrt) (h' : In F0 w0 w' (Cells g (encBa ⟨4, 9, 1⟩) 33 :: ChL cb (newCh 13) vl vt R')) => o_chset1 (x := ⟨4, 9, 1⟩) (by decide) rfl h')
  have KC := Lib.hid (fun w' (R' : List Asrt) (h' : In F0 w0 w' R') => o_config 2 h')
  have HML : Hid ((madeD k23 9 0 []).length ≤ 100000000) := Lib.hid (by decide +kernel)
  have KM0 := fun w' (R' : List Asrt) (h' : In F0 w0 w' R') => o_made h' k23_wf 9 0 (A := none) (c := 0) (body := []) bytes_nil (by decide)
  have KP0 := fun bt cb vl vt w' (R' : List Asrt) a n (h' : In F0 w0 w' (ByR (.slice a (madeD k23 9 0 []).length n) (madeD k23 9 0 []) :: FA bt 2 20 [] :: ChL cb c23 vl vt R')) => o_pktown (self := 168364297) (sl := 13) (fl := 2) (idle0 := 20) (mtu := 1500) (sg := 200) (qu := 20000) (ve := 3) (by decide) chOk23 (gen := 1) (now := 5) HML.out h'
  rw [hpk] at KP0
  generalize madeD k23 9 0 [] = m at *
  have KM1 := Lib.hid KM0
  have KP1 := Lib.hid KP0
  have HW := Lib.hid set23
  clear KM0 KP0 hpk h
  go_enter Tryz.func7, Tryz.ntmps7
  go_wp2_with fail
  refine K0.out.mono ?_
  rintro e w1 ⟨bt, rfl, ho⟩
  have h1 : In F0 w0 w1 (FA bt 2 20 [] :: R) := ho
  have K1H := Lib.hid (K1.out _ _ h1)
  clear ho h1 K0 K1
  go_wp2_with fail
  refine K1H.out.mono ?_
  rintro e w2 ⟨cb, a2, n2, rfl, ho⟩
  have h2 := ho.cells (encBa ⟨4, 9, 1⟩) 33
  have K2H := K2.out _ _ _ _ _ _ h2
  rw [HW.out] at K2H
  have K2G := Lib.hid K2H
  clear ho h2 K2 K1H K2H
  go_wp2_with fail
  refine K2G.out.mono ?_
  rintro e w3 ⟨vl, vt, rfl, ho⟩
  obtain ⟨F8, r8⟩ := ho.get 1 rfl
  obtain ⟨al, nl, rfl, -, -, -⟩ := RowA.shape r8
  obtain ⟨F9, r9⟩ := ho.get 2 rfl
  obtain ⟨at', nt, rfl, -, -, -⟩ := RowA.shape r9
  generalize hvl : Value.slice al c23.l.length nl = vl at *
  generalize hvt : Value.slice at' c23.t.length nt = vt at *
  have h3 := ho.cells #[.int .u32 1, .int .u32 2, .int .i64 6, .int .i64 3, .int .i64 4] 24
  clear K2G r8 r9 ho
  go_upto_region 4 with fail
  generalize w3.heap.size = g3 at *
  generalize (w3.alloc (.cells #[.int .u32 1, .int .u32 2, .int .i64 6, .int .i64 3, .int .i64 4] 24)) = V at *
  have HD0 : In F0 w0 V (FA bt 2 20 [] :: ChL cb ⟨13, [⟨4, 9, 1⟩], List.replicate 13 4, 1⟩ vl vt (Cells g3 #[.int .u32 1, .int .u32 2, .int .i64 6, .int .i64 3, .int .i64 4] 24 :: R)) := h3.sel2 (R1 := [_, _, _, _, _]) [4, 1, 2, 3, 0] (by decide) rfl
  have HD1 := HD0.drewN 1
  have KM := Lib.hid (fun w' (R' : List Asrt) (h' : In F0 w0 w' R') => KM1.out w' R' h')
  have KP := Lib.hid (fun w' (R' : List Asrt) a n (h' : In F0 w0 w' (ByR (.slice a m.length n) m :: FA bt 2 20 [] :: ChL cb ⟨13, [⟨4, 9, 1⟩], List.replicate 13 4, 1⟩ vl vt R')) => KP1.out bt cb vl vt w' R' a n h')
  clear h3 HD0 KM1 KP1
  go_cut [4] (fun x4 wx => ∃ g4 vp vr, x4 = .pointer (some ⟨g4, 0, none⟩) ∧ In F0 w0 wx (Cells g4 (plC 2 0 4 vp vr) 43 :: ByR vp pk :: RecR vr [putRec f23] :: FA bt 2 20 [f23] :: ChL cb ⟨13, [⟨4, 9, 1⟩], List.replicate 13 4, 1⟩ vl vt (Cells g3 #[.int .u32 1, .int .u32 2, .int .i64 6, .int .i64 3, .int .i64 4] 24 :: R)))
  case first =>
    have HD : Hid (In F0 w0 V.drew (FA bt 2 20 [] :: ChL cb ⟨13, [⟨4, 9, 1⟩], List.replicate 13 4, 1⟩ vl vt (Cells g3 #[.int .u32 1, .int .u32 2, .int .i64 6, .int .i64 3, .int .i64 4] 24 :: R))) := Lib.hid HD1
    clear HD1
    unfold k23 at KM
    refine e_start (fun w' => w'.cell? ⟨g3, 0, none⟩ = some (.int .u32 1) ∧ w'.cell? ⟨g3, 1, none⟩ = some (.int .u32 2) ∧ w'.cell? ⟨g3, 2, none⟩ = some (.int .i64 6) ∧ w'.cell? ⟨g3, 3, none⟩ = some (.int .i64 3) ∧ w'.cell? ⟨g3, 4, none⟩ = some (.int .i64 4)) (by kernel_rfl) ⟨cell_of (HD.out.block 4 rfl) rfl, cell_of (HD.out.block 4 rfl) rfl, cell_of (HD.out.block 4 rfl) rfl, cell_of (HD.out.block 4 rfl) rfl, cell_of (HD.out.block 4 rfl) rfl⟩ (fun hS => ?_)
    generalize V.drew = VD at *
    refine e_take (i := 1) (v := ?_) rfl (by kernel_rfl) (fun _ _ _ h => h) (by rfl) ?_ hS ?_
    rotate_left
    · (intro w hSw; (try dsimp only at hSw); go_simp; try with_reducible rfl)
    try simp only [Act.put, List.setIfInBounds_toArray, List.set_cons_zero, List.set_cons_succ]
    refine e_take (i := 2) (v := ?_) rfl (by kernel_rfl) (fun _ _ _ h => h) (by rfl) ?_ hS ?_
    rotate_left
    · (intro w hSw; (try dsimp only at hSw); go_simp; try with_reducible rfl)
    try simp only [Act.put, List.setIfInBounds_toArray, List.set_cons_zero, List.set_cons_succ]
    refine e_take (i := 3) (v := ?_) rfl (by kernel_rfl) (fun _ _ _ h => h) (by rfl) ?_ hS ?_
    rotate_left
    · (intro w hSw; (try dsimp only at hSw); go_simp; try with_reducible rfl)
    try simp only [Act.put, List.setIfInBounds_toArray, List.set_cons_zero, List.set_cons_succ]
    refine e_two (i := 0) (j := 6) rfl rfl (by kernel_rfl) (fun K' hK => ?_) (fun K' hK => ?_)
    · go_simp
      go_at_call 13
      refine (KC.out _ _ HD.out).mono ?_
      rintro e u1 ⟨rfl, hN1⟩
      have HU1 : Hid (In F0 w0 u1 (FA bt 2 20 [] :: ChL cb ⟨13, [⟨4, 9, 1⟩], List.replicate 13 4, 1⟩ vl vt (Cells g3 #[.int .u32 1, .int .u32 2, .int .i64 6, .int .i64 3, .int .i64 4] 24 :: R))) := Lib.hid hN1
      clear hN1
      refine hK.out _ _ ⟨cell_of (HU1.out.block 4 rfl) rfl, cell_of (HU1.out.block 4 rfl) rfl, cell_of (HU1.out.block 4 rfl) rfl, cell_of (HU1.out.block 4 rfl) rfl, cell_of (HU1.out.block 4 rfl) rfl⟩ (fun hS => ?_)
      clear hK K'
      try simp only [Act.put, List.setIfInBounds_toArray, List.set_cons_zero, List.set_cons_succ]
      refine e_two (i := 4) (j := 6) rfl rfl (by kernel_rfl) (fun K' hK => ?_) (fun K' hK => ?_)
      · go_simp
        go_at_call 10
        refine (KM.out _ _ HU1.out).mono ?_
        rintro e u2 ⟨vM, rfl, hN2⟩
        obtain ⟨aM, nM, rfl⟩ := ByR.shape hN2
        have HU2 : Hid (In F0 w0 u2 (ByR (.slice aM m.length nM) m :: FA bt 2 20 [] :: ChL cb ⟨13, [⟨4, 9, 1⟩], List.replicate 13 4, 1⟩ vl vt (Cells g3 #[.int .u32 1, .int .u32 2, .int .i64 6, .int .i64 3, .int .i64 4] 24 :: R))) := Lib.hid hN2
        clear hN2
        refine hK.out _ _ ⟨cell_of (HU2.out.block 5 rfl) rfl, cell_of (HU2.out.block 5 rfl) rfl, cell_of (HU2.out.block 5 rfl) rfl, cell_of (HU2.out.block 5 rfl) rfl, cell_of (HU2.out.block 5 rfl) rfl⟩ (fun hS => ?_)
        clear hK K'
        try simp only [Act.put, List.setIfInBounds_toArray, List.set_cons_zero, List.set_cons_succ]
        refine e_two (i := 5) (j := 6) rfl rfl (by kernel_rfl) (fun K' hK => ?_) (fun K' hK => ?_)
        · go_simp
          go_at_call 12
          refine (KP.out _ _ _ _ HU2.out).mono ?_
          rintro e u3 ⟨vp, vr, rfl, hN3⟩
          obtain ⟨ap, np, rfl⟩ := ByR.shape hN3
          obtain ⟨Fr, rr⟩ := hN3.get 1 rfl
          obtain ⟨ar, nr, rfl, -, -, -⟩ := RowA.shape rr
          have HU3 : Hid (In F0 w0 u3 (ByR (.slice ap pk.length np) pk :: RecR (.slice ar [putRec f23].length nr) [putRec f23] :: FA bt 2 20 [f23] :: ChL cb ⟨13, [⟨4, 9, 1⟩], List.replicate 13 4, 1⟩ vl vt (Cells g3 #[.int .u32 1, .int .u32 2, .int .i64 6, .int .i64 3, .int .i64 4] 24 :: R))) := Lib.hid hN3
          clear hN3 rr
          refine hK.out _ _ ⟨cell_of (HU3.out.block 6 rfl) rfl, cell_of (HU3.out.block 6 rfl) rfl, cell_of (HU3.out.block 6 rfl) rfl, cell_of (HU3.out.block 6 rfl) rfl, cell_of (HU3.out.block 6 rfl) rfl⟩ (fun hS => ?_)
          clear hK K'
          try simp only [Act.put, List.setIfInBounds_toArray, List.set_cons_zero, List.set_cons_succ]
          refine e_pin (i := 6) rfl (by kernel_rfl) (fun K' hK => ?_)
          go_simp
          have hA4 := HU3.out.cells (plC 0 0 0 (.slice none 0 0) (.slice none 0 0)) 43
          generalize u3.heap.size = gA at *
          generalize (u3.alloc (.cells (plC 0 0 0 (.slice none 0 0) (.slice none 0 0)) 43)) = u4 at *
          have HU4 : Hid (In F0 w0 u4 (ByR (.slice ap pk.length np) pk :: RecR (.slice ar [putRec f23].length nr) [putRec f23] :: FA bt 2 20 [f23] :: ChL cb ⟨13, [⟨4, 9, 1⟩], List.replicate 13 4, 1⟩ vl vt (Cells gA (plC 0 0 0 (.slice none 0 0) (.slice none 0 0)) 43 :: Cells g3 #[.int .u32 1, .int .u32 2, .int .i64 6, .int .i64 3, .int .i64 4] 24 :: R))) := Lib.hid (hA4.sel2 (R1 := [_, _, _, _, _, _, _, _]) [1, 2, 3, 4, 5, 6, 0, 7] (by decide) rfl)
          clear hA4
          refine hK.out _ _ ⟨cell_of (HU4.out.block 7 rfl) rfl, cell_of (HU4.out.block 7 rfl) rfl, cell_of (HU4.out.block 7 rfl) rfl, cell_of (HU4.out.block 7 rfl) rfl, cell_of (HU4.out.block 7 rfl) rfl⟩ (fun hS => ?_)
          clear hK K'
          try simp only [Act.put, List.setIfInBounds_toArray, List.set_cons_zero, List.set_cons_succ]
          refine e_last (i := 7) rfl (by kernel_rfl) (fun K' hK => ?_)
          have hF := HU4.out.setFull 6 rfl (xs := (plC 2 0 4 (.slice ap pk.length np) (.slice ar [putRec f23].length nr)).toList) (b := gA) (C := (plC 0 0 0 (.slice none 0 0) (.slice none 0 0))) (T := 43) rfl
          refine store_step (by rfl) 43 (.tmp 4) (.tmp 17) (by rfl) gA 0 (plC 2 0 4 (.slice ap pk.length np) (.slice ar [putRec f23].length nr)) (by rfl) (by rfl) (there_of (C := (plC 0 0 0 (.slice none 0 0) (.slice none 0 0))) (T := 43) (HU4.out.block 6 rfl)) (by kernel_rfl) (plC_all _ _ _ _ _ _ _ _ _) ?_
          refine hK.out _ _ ?_
          clear hK K' hS
          go_wp2_with fail
          go_meet
          exact ⟨gA, _, _, rfl, hF.sel2 (R1 := [_, _, _, _, _, _, _, _]) [6, 0, 1, 2, 3, 4, 5, 7] (by decide) rfl⟩
        · go_simp
          have hA5 := HU2.out.cells (plC 0 0 0 (.slice none 0 0) (.slice none 0 0)) 43
          generalize u2.heap.size = gA at *
          generalize (u2.alloc (.cells (plC 0 0 0 (.slice none 0 0) (.slice none 0 0)) 43)) = u5 at *
          have HU5 : Hid (In F0 w0 u5 (ByR (.slice aM m.length nM) m :: FA bt 2 20 [] :: ChL cb ⟨13, [⟨4, 9, 1⟩], List.replicate 13 4, 1⟩ vl vt (Cells gA (plC 0 0 0 (.slice none 0 0) (.slice none 0 0)) 43 :: Cells g3 #[.int .u32 1, .int .u32 2, .int .i64 6, .int .i64 3, .int .i64 4] 24 :: R))) := Lib.hid (hA5.sel2 (R1 := [_, _, _, _, _, _, _]) [1, 2, 3, 4, 5, 0, 6] (by decide) rfl)
          clear hA5
          refine hK.out _ _ ⟨cell_of (HU5.out.block 6 rfl) rfl, cell_of (HU5.out.block 6 rfl) rfl, cell_of (HU5.out.block 6 rfl) rfl, cell_of (HU5.out.block 6 rfl) rfl, cell_of (HU5.out.block 6 rfl) rfl⟩ (fun hS => ?_)
          clear hK K'
          try simp only [Act.put, List.setIfInBounds_toArray, List.set_cons_zero, List.set_cons_succ]
          refine e_pin (i := 5) rfl (by kernel_rfl) (fun K' hK => ?_)
          go_simp
          go_at_call 12
          refine (KP.out _ _ _ _ HU5.out).mono ?_
          rintro e u6 ⟨vp, vr, rfl, hN6⟩
          obtain ⟨ap, np, rfl⟩ := ByR.shape hN6
          obtain ⟨Fr, rr⟩ := hN6.get 1 rfl
          obtain ⟨ar, nr, rfl, -, -, -⟩ := RowA.shape rr
          have HU6 : Hid (In F0 w0 u6 (ByR (.slice ap pk.length np) pk :: RecR (.slice ar [putRec f23].length nr) [putRec f23] :: FA bt 2 20 [f23] :: ChL cb ⟨13, [⟨4, 9, 1⟩], List.replicate 13 4, 1⟩ vl vt (Cells gA (plC 0 0 0 (.slice none 0 0) (.slice none 0 0)) 43 :: Cells g3 #[.int .u32 1, .int .u32 2, .int .i64 6, .int .i64 3, .int .i64 4] 24 :: R))) := Lib.hid hN6
          clear hN6 rr
          refine hK.out _ _ ⟨cell_of (HU6.out.block 7 rfl) rfl, cell_of (HU6.out.block 7 rfl) rfl, cell_of (HU6.out.block 7 rfl) rfl, cell_of (HU6.out.block 7 rfl) rfl, cell_of (HU6.out.block 7 rfl) rfl⟩ (fun hS => ?_)
          clear hK K'
          try simp only [Act.put, List.setIfInBounds_toArray, List.set_cons_zero, List.set_cons_succ]
          refine e_last (i := 7) rfl (by kernel_rfl) (fun K' hK => ?_)
          have hF := HU6.out.setFull 6 rfl (xs := (plC 2 0 4 (.slice ap pk.length np) (.slice ar [putRec f23].length nr)).toList) (b := gA) (C := (plC 0 0 0 (.slice none 0 0) (.slice none 0 0))) (T := 43) rfl
          refine store_step (by rfl) 43 (.tmp 4) (.tmp 17) (by rfl) gA 0 (plC 2 0 4 (.slice ap pk.length np) (.slice ar [putRec f23].length nr)) (by rfl) (by rfl) (there_of (C := (plC 0 0 0 (.slice none 0 0) (.slice none 0 0))) (T := 43) (HU6.out.block 6 rfl)) (by kernel_rfl) (plC_all _ _ _ _ _ _ _ _ _) ?_
          refine hK.out _ _ ?_
          clear hK K' hS
          go_wp2_with fail
          go_meet
          exact ⟨gA, _, _, rfl, hF.sel2 (R1 := [_, _, _, _, _, _, _, _]) [6, 0, 1, 2, 3, 4, 5, 7] (by decide) rfl⟩
      · go_simp
        have hA7 := HU1.out.cells (plC 0 0 0 (.slice none 0 0) (.slice none 0 0)) 43
        generalize u1.heap.size = gA at *
        generalize (u1.alloc (.cells (plC 0 0 0 (.slice none 0 0) (.slice none 0 0)) 43)) = u7 at *
        have HU7 : Hid (In F0 w0 u7 (FA bt 2 20 [] :: ChL cb ⟨13, [⟨4, 9, 1⟩], List.replicate 13 4, 1⟩ vl vt (Cells gA (plC 0 0 0 (.slice none 0 0) (.slice none 0 0)) 43 :: Cells g3 #[.int .u32 1, .int .u32 2, .int .i64 6, .int .i64 3, .int .i64 4] 24 :: R))) := Lib.hid (hA7.sel2 (R1 := [_, _, _, _, _, _]) [1, 2, 3, 4, 0, 5] (by decide) rfl)
        clear hA7
        refine hK.out _ _ ⟨cell_of (HU7.out.block 5 rfl) rfl, cell_of (HU7.out.block 5 rfl) rfl, cell_of (HU7.out.block 5 rfl) rfl, cell_of (HU7.out.block 5 rfl) rfl, cell_of (HU7.out.block 5 rfl) rfl⟩ (fun hS => ?_)
        clear hK K'
        try simp only [Act.put, List.setIfInBounds_toArray, List.set_cons_zero, List.set_cons_succ]
        refine e_pin (i := 4) rfl (by kernel_rfl) (fun K' hK => ?_)
        go_simp
        go_at_call 10
        refine (KM.out _ _ HU7.out).mono ?_
        rintro e u8 ⟨vM, rfl, hN8⟩
        obtain ⟨aM, nM, rfl⟩ := ByR.shape hN8
        have HU8 : Hid (In F0 w0 u8 (ByR (.slice aM m.length nM) m :: FA bt 2 20 [] :: ChL cb ⟨13, [⟨4, 9, 1⟩], List.replicate 13 4, 1⟩ vl vt (Cells gA (plC 0 0 0 (.slice none 0 0) (.slice none 0 0)) 43 :: Cells g3 #[.int .u32 1, .int .u32 2, .int .i64 6, .int .i64 3, .int .i64 4] 24 :: R))) := Lib.hid hN8
        clear hN8
        refine hK.out _ _ ⟨cell_of (HU8.out.block 6 rfl) rfl, cell_of (HU8.out.block 6 rfl) rfl, cell_of (HU8.out.block 6 rfl) rfl, cell_of (HU8.out.block 6 rfl) rfl, cell_of (HU8.out.block 6 rfl) rfl⟩ (fun hS => ?_)
        clear hK K'
        try simp only [Act.put, List.setIfInBounds_toArray, List.set_cons_zero, List.set_cons_succ]
        refine e_pin (i := 5) rfl (by kernel_rfl) (fun K' hK => ?_)
        go_simp
        go_at_call 12
        refine (KP.out _ _ _ _ HU8.out).mono ?_
        rintro e u9 ⟨vp, vr, rfl, hN9⟩
        obtain ⟨ap, np, rfl⟩ := ByR.shape hN9
        obtain ⟨Fr, rr⟩ := hN9.get 1 rfl
        obtain ⟨ar, nr, rfl, -, -, -⟩ := RowA.shape rr
        have HU9 : Hid (In F0 w0 u9 (ByR (.slice ap pk.length np) pk :: RecR (.slice ar [putRec f23].length nr) [putRec f23] :: FA bt 2 20 [f23] :: ChL cb ⟨13, [⟨4, 9, 1⟩], List.replicate 13 4, 1⟩ vl vt (Cells gA (plC 0 0 0 (.slice none 0 0) (.slice none 0 0)) 43 :: Cells g3 #[.int .u32 1, .int .u32 2, .int .i64 6, .int .i64 3, .int .i64 4] 24 :: R))) := Lib.hid hN9
        clear hN9 rr
        refine hK.out _ _ ⟨cell_of (HU9.out.block 7 rfl) rfl, cell_of (HU9.out.block 7 rfl) rfl, cell_of (HU9.out.block 7 rfl) rfl, cell_of (HU9.out.block 7 rfl) rfl, cell_of (HU9.out.block 7 rfl) rfl⟩ (fun hS => ?_)
        clear hK K'
        try simp only [Act.put, List.setIfInBounds_toArray, List.set_cons_zero, List.set_cons_succ]
        refine e_last (i := 7) rfl (by kernel_rfl) (fun K' hK => ?_)
        have hF := HU9.out.setFull 6 rfl (xs := (plC 2 0 4 (.slice ap pk.length np) (.slice ar [putRec f23].length nr)).toList) (b := gA) (C := (plC 0 0 0 (.slice none 0 0) (.slice none 0 0))) (T := 43) rfl
        refine store_step (by rfl) 43 (.tmp 4) (.tmp 17) (by rfl) gA 0 (plC 2 0 4 (.slice ap pk.length np) (.slice ar [putRec f23].length nr)) (by rfl) (by rfl) (there_of (C := (plC 0 0 0 (.slice none 0 0) (.slice none 0 0))) (T := 43) (HU9.out.block 6 rfl)) (by kernel_rfl) (plC_all _ _ _ _ _ _ _ _ _) ?_
        refine hK.out _ _ ?_
        clear hK K' hS
        go_wp2_with fail
        go_meet
        exact ⟨gA, _, _, rfl, hF.sel2 (R1 := [_, _, _, _, _, _, _, _]) [6, 0, 1, 2, 3, 4, 5, 7] (by decide) rfl⟩
    · go_simp
      have hA10 := HD.out.cells (plC 0 0 0 (.slice none 0 0) (.slice none 0 0)) 43
      generalize VD.heap.size = gA at *
      generalize (VD.alloc (.cells (plC 0 0 0 (.slice none 0 0) (.slice none 0 0)) 43)) = u10 at *
      have HU10 : Hid (In F0 w0 u10 (FA bt 2 20 [] :: ChL cb ⟨13, [⟨4, 9, 1⟩], List.replicate 13 4, 1⟩ vl vt (Cells gA (plC 0 0 0 (.slice none 0 0) (.slice none 0 0)) 43 :: Cells g3 #[.int .u32 1, .int .u32 2, .int .i64 6, .int .i64 3, .int .i64 4] 24 :: R))) := Lib.hid (hA10.sel2 (R1 := [_, _, _, _, _, _]) [1, 2, 3, 4, 0, 5] (by decide) rfl)
      clear hA10
      refine hK.out _ _ ⟨cell_of (HU10.out.block 5 rfl) rfl, cell_of (HU10.out.block 5 rfl) rfl, cell_of (HU10.out.block 5 rfl) rfl, cell_of (HU10.out.block 5 rfl) rfl, cell_of (HU10.out.block 5 rfl) rfl⟩ (fun hS => ?_)
      clear hK K'
      try simp only [Act.put, List.setIfInBounds_toArray, List.set_cons_zero, List.set_cons_succ]
      refine e_pin (i := 0) rfl (by kernel_rfl) (fun K' hK => ?_)
      go_simp
      go_at_call 13
      refine (KC.out _ _ HU10.out).mono ?_
      rintro e u11 ⟨rfl, hN11⟩
      have HU11 : Hid (In F0 w0 u11 (FA bt 2 20 [] :: ChL cb ⟨13, [⟨4, 9, 1⟩], List.replicate 13 4, 1⟩ vl vt (Cells gA (plC 0 0 0 (.slice none 0 0) (.slice none 0 0)) 43 :: Cells g3 #[.int .u32 1, .int .u32 2, .int .i64 6, .int .i64 3, .int .i64 4] 24 :: R))) := Lib.hid hN11
      clear hN11
      refine hK.out _ _ ⟨cell_of (HU11.out.block 5 rfl) rfl, cell_of (HU11.out.block 5 rfl) rfl, cell_of (HU11.out.block 5 rfl) rfl, cell_of (HU11.out.block 5 rfl) rfl, cell_of (HU11.out.block 5 rfl) rfl⟩ (fun hS => ?_)
      clear hK K'
      try simp only [Act.put, List.setIfInBounds_toArray, List.set_cons_zero, List.set_cons_succ]
      refine e_pin (i := 4) rfl (by kernel_rfl) (fun K' hK => ?_)
      go_simp
      go_at_call 10
      refine (KM.out _ _ HU11.out).mono ?_
      rintro e u12 ⟨vM, rfl, hN12⟩
      obtain ⟨aM, nM, rfl⟩ := ByR.shape hN12
      have HU12 : Hid (In F0 w0 u12 (ByR (.slice aM m.length nM) m :: FA bt 2 20 [] :: ChL cb ⟨13, [⟨4, 9, 1⟩], List.replicate 13 4, 1⟩ vl vt (Cells gA (plC 0 0 0 (.slice none 0 0) (.slice none 0 0)) 43 :: Cells g3 #[.int .u32 1, .int .u32 2, .int .i64 6, .int .i64 3, .int .i64 4] 24 :: R))) := Lib.hid hN12
      clear hN12
      refine hK.out _ _ ⟨cell_of (HU12.out.block 6 rfl) rfl, cell_of (HU12.out.block 6 rfl) rfl, cell_of (HU12.out.block 6 rfl) rfl, cell_of (HU12.out.block 6 rfl) rfl, cell_of (HU12.out.block 6 rfl) rfl⟩ (fun hS => ?_)
      clear hK K'
      try simp only [Act.put, List.setIfInBounds_toArray, List.set_cons_zero, List.set_cons_succ]
      refine e_pin (i := 5) rfl (by kernel_rfl) (fun K' hK => ?_)
      go_simp
      go_at_call 12
      refine (KP.out _ _ _ _ HU12.out).mono ?_
      rintro e u13 ⟨vp, vr, rfl, hN13⟩
      obtain ⟨ap, np, rfl⟩ := ByR.shape hN13
      obtain ⟨Fr, rr⟩ := hN13.get 1 rfl
      obtain ⟨ar, nr, rfl, -, -, -⟩ := RowA.shape rr
      have HU13 : Hid (In F0 w0 u13 (ByR (.slice ap pk.length np) pk :: RecR (.slice ar [putRec f23].length nr) [putRec f23] :: FA bt 2 20 [f23] :: ChL cb ⟨13, [⟨4, 9, 1⟩], List.replicate 13 4, 1⟩ vl vt (Cells gA (plC 0 0 0 (.slice none 0 0) (.slice none 0 0)) 43 :: Cells g3 #[.int .u32 1, .int .u32 2, .int .i64 6, .int .i64 3, .int .i64 4] 24 :: R))) := Lib.hid hN13
      clear hN13 rr
      refine hK.out _ _ ⟨cell_of (HU13.out.block 7 rfl) rfl, cell_of (HU13.out.block 7 rfl) rfl, cell_of (HU13.out.block 7 rfl) rfl, cell_of (HU13.out.block 7 rfl) rfl, cell_of (HU13.out.block 7 rfl) rfl⟩ (fun hS => ?_)
      clear hK K'
      try simp only [Act.put, List.setIfInBounds_toArray, List.set_cons_zero, List.set_cons_succ]
      refine e_last (i := 7) rfl (by kernel_rfl) (fun K' hK => ?_)
      have hF := HU13.out.setFull 6 rfl (xs := (plC 2 0 4 (.slice ap pk.length np) (.slice ar [putRec f23].length nr)).toList) (b := gA) (C := (plC 0 0 0 (.slice none 0 0) (.slice none 0 0))) (T := 43) rfl
      refine store_step (by rfl) 43 (.tmp 4) (.tmp 17) (by rfl) gA 0 (plC 2 0 4 (.slice ap pk.length np) (.slice ar [putRec f23].length nr)) (by rfl) (by rfl) (there_of (C := (plC 0 0 0 (.slice none 0 0) (.slice none 0 0))) (T := 43) (HU13.out.block 6 rfl)) (by kernel_rfl) (plC_all _ _ _ _ _ _ _ _ _) ?_
      refine hK.out _ _ ?_
      clear hK K' hS
      go_wp2_with fail
      go_meet
      exact ⟨gA, _, _, rfl, hF.sel2 (R1 := [_, _, _, _, _, _, _, _]) [6, 0, 1, 2, 3, 4, 5, 7] (by decide) rfl⟩
  case rest =>
    obtain ⟨g4, vp, vr, rfl, ho⟩ := hcut
    obtain ⟨F8, r8⟩ := ho.get 2 rfl
    obtain ⟨ar, nr, rfl, -, -, -⟩ := RowA.shape r8
    have hb := ho.block 0 rfl
    have p0 : wc.cell? ⟨g4, 0, none⟩ = some (.int .i64 2) := cell_of hb rfl
    have p2 : wc.cell? ⟨g4, 2, none⟩ = some (.int .i64 4) := cell_of hb rfl
    have p4 : wc.cell? ⟨g4, 4, none⟩ = some (.slice ar 1 nr) := cell_of hb rfl
    have K5 := Lib.hid (o_flen ho 3 rfl)
    have G := Lib.hid (ho.sel2 (R1 := [_, _, _, _, _, _, _, _]) [] (by decide) rfl)
    clear ho hb r8 KM KP
    go_wp2_with fail
    refine K5.out.mono ?_
    rintro e w5 ⟨rfl, rfl⟩
    clear K5
    go_wp2_with fail
    go_ret
    exact ⟨rfl, G.out⟩
end
section
variable {F0 : List Nat} {w0 w : World} {R : List Asrt}
theorem o_chsetF {fv : Value} {q : Int → Bool} (hf : OutF fv q F0 w0 R) {cb : Nat} {c : ChD} {vl vt : Value} {l : List Bk} {A : Option Addr} {n : Nat} (hm : mayM (c.slots : Int) = true) (hc : ∀ s, 1 ≤ s → s < c.slots → Cov c.slots s) (hmd : 0 ≤ c.made ∧ c.made ≤ 1000000000)
    (hs : BksAt F0 w0 R A l) (hn : A = none → n = 0) (hl : l.length ≤ 1000000) (h : In F0 w0 w (ChL cb c vl vt R)) :
    Calls Tryz.prog 11 #[pC cb, .slice A l.length n, fv] w (SetPost cb (setCh c l q) F0 w0 R) := by
  have hs3 : BksAt F0 w0 (ChL cb c vl vt R) A l := ((hs.more _).more _).more _
  have K0 := Lib.hid (o_gnmay (c := n) hs3 (by omega) h)
  cases hg : gensMay l with
  | false =>
    have e : setCh c l q = (c, 1) := by unfold setCh; rw [hg]; rfl
    rw [hg] at K0
    rw [e]
    obtain ⟨f, caps, rfl, -, -⟩ := hf
    clear e h hs hs3 hm hc hmd hl hn hg
    go_enter Tryz.func11, Tryz.ntmps11
    go_wp2_with fail
    refine K0.out.mono ?_
    rintro e w1 ⟨rfl, ho⟩
    have G := Lib.hid ho
    clear ho K0
    go_wp2_with fail
    go_ret
    exact ⟨_, _, rfl, G.out⟩
  | true =>
  rw [hg] at K0
  obtain ⟨m, tl, tt, md⟩ := c
  simp only at hm hc hmd
  have HE : Hid (setCh ⟨m, tl, tt, md⟩ l q = (⟨m, l, tableM (withoutL q l) m, md + 1⟩, 0)) := Lib.hid (by unfold setCh; rw [hg]; simp only [if_true])
  have hadd : IntKind.i64.wrap (md + 1) = md + 1 := IntWalk.i64_in _ (by omega)
  have HN := Lib.hid hn
  have K1 := Lib.hid (fun w' (h' : In F0 w0 w' (ChL cb ⟨m, tl, tt, md⟩ vl vt R)) => o_bkclone (c := n) h' hn (hs3 w' h') hl)
  have K2 := Lib.hid (fun w' v (h' : In F0 w0 w' (BkR v l :: ChL cb ⟨m, tl, tt, md⟩ vl vt R)) => o_gnwithoutF (c := n) ((((hf.more _).more _).more _).more _) (hs3.more (BkR v l)) hn hl h')
  have K3 := Lib.hid (fun w' v2 v c2 (h' : In F0 w0 w' (BkR (.slice v2 (withoutL q l).length c2) (withoutL q l) :: BkR v l :: ChL cb ⟨m, tl, tt, md⟩ vl vt R)) => o_matable (c := c2) (m := m) (bks_row (v := .slice v2 (withoutL q l).length c2) (l := withoutL q l) (n := (withoutL q l).length) (c := c2) rfl 0 rfl) (Nat.le_trans (List.length_filter_le _ _) hl) h' hm hc)
  obtain ⟨f, caps, rfl, -, -⟩ := hf
  generalize withoutL q l = lo at *
  clear h hs hs3 hm hc hmd hl hn hg
  go_enter Tryz.func11, Tryz.ntmps11
  go_wp2_with fail
  refine K0.out.mono ?_
  rintro e w1 ⟨rfl, ho⟩
  clear K0
  go_upto_region 3 with fail
  have hd := ho.drewN 1
  have HD := Lib.hid hd
  have hS : w1.drew.cell? ⟨cb, 0, none⟩ = some (.int .i64 m) := cell_of (hd.block 0 rfl) rfl
  clear hd ho
  refine e_start (fun w' => w'.cell? ⟨cb, 0, none⟩ = some (.int .i64 m)) (by kernel_rfl) hS (fun hS => ?_)
  refine e_take (i := 0) (v := ?_) rfl (by kernel_rfl) (fun _ _ _ h => h) (by rfl) ?_ hS ?_
  rotate_left
  · (intro w hSw; (try dsimp only at hSw); go_simp; try with_reducible rfl)
  try simp only [Act.put, List.setIfInBounds_toArray, List.set_cons_zero, List.set_cons_succ]
  refine e_take (i := 1) (v := ?_) rfl (by kernel_rfl) (fun _ _ _ h => h) (by rfl) ?_ hS ?_
  rotate_left
  · (intro w hSw; (try dsimp only at hSw); go_simp; try with_reducible rfl)
  try simp only [Act.put, List.setIfInBounds_toArray, List.set_cons_zero, List.set_cons_succ]
  refine e_take (i := 2) (v := ?_) rfl (by kernel_rfl) (fun _ _ _ h => h) (by rfl) ?_ hS ?_
  rotate_left
  · (intro w hSw; (try dsimp only at hSw); go_simp; try with_reducible rfl)
  try simp only [Act.put, List.setIfInBounds_toArray, List.set_cons_zero, List.set_cons_succ]
  refine e_take (i := 4) (v := ?_) rfl (by kernel_rfl) (fun _ _ _ h => h) (by rfl) ?_ hS ?_
  rotate_left
  · (intro w hSw; (try dsimp only at hSw); go_simp; try with_reducible rfl)
  try simp only [Act.put, List.setIfInBounds_toArray, List.set_cons_zero, List.set_cons_succ]
  refine e_take (i := 5) (v := ?_) rfl (by kernel_rfl) (fun _ _ _ h => h) (by rfl) ?_ hS ?_
  rotate_left
  · (intro w hSw; (try dsimp only at hSw); go_simp; try with_reducible rfl)
  try simp only [Act.put, List.setIfInBounds_toArray, List.set_cons_zero, List.set_cons_succ]
  refine e_take (i := 7) (v := ?_) rfl (by kernel_rfl) (fun _ _ _ h => h) (by rfl) ?_ hS ?_
  rotate_left
  · (intro w hSw; (try dsimp only at hSw); go_simp; try with_reducible rfl)
  try simp only [Act.put, List.setIfInBounds_toArray, List.set_cons_zero, List.set_cons_succ]
  refine e_take (i := 8) (v := ?_) rfl (by kernel_rfl) (fun _ _ _ h => h) (by rfl) ?_ hS ?_
  rotate_left
  · (intro w hSw; (try dsimp only at hSw); go_simp; try with_reducible rfl)
  try simp only [Act.put, List.setIfInBounds_toArray, List.set_cons_zero, List.set_cons_succ]
  refine e_take (i := 9) (v := ?_) rfl (by kernel_rfl) (fun _ _ _ h => h) (by rfl) ?_ hS ?_
  rotate_left
  · (intro w hSw; (try dsimp only at hSw); go_simp; try with_reducible rfl)
  try simp only [Act.put, List.setIfInBounds_toArray, List.set_cons_zero, List.set_cons_succ]
  refine e_take (i := 10) (v := ?_) rfl (by kernel_rfl) (fun _ _ _ h => h) (by rfl) ?_ hS ?_
  rotate_left
  · (intro w hSw; (try dsimp only at hSw); go_simp; try with_reducible rfl)
  try simp only [Act.put, List.setIfInBounds_toArray, List.set_cons_zero, List.set_cons_succ]
  refine e_pin (i := 3) rfl (by kernel_rfl) (fun K' hK => ?_)
  go_simp
  go_at_call 37
  refine (K1.out _ HD.out).mono ?_
  rintro e w3 ⟨v3, rfl, ho3⟩
  obtain ⟨F3, r3⟩ := ho3.get 0 rfl
  obtain ⟨a3, n3, rfl, -, -, -⟩ := RowA.shape r3
  have HO3 := Lib.hid ho3
  have hS3 : w3.cell? ⟨cb, 0, none⟩ = some (.int .i64 m) := cell_of (ho3.block 1 rfl) rfl
  clear ho3 r3 hS
  refine hK.out _ _ hS3 (fun hS => ?_)
  clear hK K' hS3
  try simp only [Act.put, List.setIfInBounds_toArray, List.set_cons_zero, List.set_cons_succ]
  refine e_pin (i := 6) rfl (by kernel_rfl) (fun K' hK => ?_)
  go_simp
  go_at_call 38
  refine (K2.out _ _ HO3.out).mono ?_
  rintro e w4 ⟨v4, rfl, ho4⟩
  obtain ⟨F4, r4⟩ := ho4.get 0 rfl
  obtain ⟨a4, c4, rfl, -, -, -⟩ := RowA.shape r4
  have HO4 := Lib.hid ho4
  have hS4 : w4.cell? ⟨cb, 0, none⟩ = some (.int .i64 m) := cell_of (ho4.block 2 rfl) rfl
  clear ho4 r4 hS HO3
  refine hK.out _ _ hS4 (fun hS => ?_)
  clear hK K' hS4
  try simp only [Act.put, List.setIfInBounds_toArray, List.set_cons_zero, List.set_cons_succ]
  refine e_pin (i := 11) rfl (by kernel_rfl) (fun K' hK => ?_)
  go_simp
  go_at_call 33
  refine (K3.out _ _ _ _ HO4.out).mono ?_
  rintro e w5 ⟨a5, c5, rfl, ho5⟩
  have ho5 := ho5.sel2 (R1 := [_, _, _, _, _, _]) [3, 2, 0] (by decide) rfl
  have hb5 : w5.heap[cb]? = some (.cells (cC ⟨m, tl, tt, md⟩ vl vt) 96 (0, 0)) := ho5.block 0 rfl
  have h6 := ho5.put 0 rfl 1 (.slice a3 l.length n3)
  have h7 := h6.put 0 rfl 2 (.slice a5 m c5)
  have hS5 : w5.cell? ⟨cb, 0, none⟩ = some (.int .i64 m) := cell_of hb5 rfl
  have hS6 : (w5.setCell ⟨cb, 1, none⟩ (.slice a3 l.length n3)).cell? ⟨cb, 0, none⟩ = some (.int .i64 m) := cell_of (h6.block 0 rfl) rfl
  have HF1 : Hid ((w5.frozen? ⟨cb, 1, none⟩ = false) ∧ w5.cell? ⟨cb, 1, none⟩ = some vl) := Lib.hid ⟨free_of hb5, cell_of hb5 rfl⟩
  have HF2 : Hid (((w5.setCell ⟨cb, 1, none⟩ (.slice a3 l.length n3)).frozen? ⟨cb, 2, none⟩ = false) ∧ (w5.setCell ⟨cb, 1, none⟩ (.slice a3 l.length n3)).cell? ⟨cb, 2, none⟩ = some vt) := Lib.hid ⟨free_of (h6.block 0 rfl), cell_of (h6.block 0 rfl) rfl⟩
  have HF7 := Lib.hid h7
  have HS6 := Lib.hid hS6
  clear ho5 hb5 h6 h7 hS HO4 hS6
  refine hK.out _ _ hS5 (fun hS => ?_)
  clear hK K' hS5
  try simp only [Act.put, List.setIfInBounds_toArray, List.set_cons_zero, List.set_cons_succ]
  refine e_take (i := 12) (v := ?_) rfl (by kernel_rfl) (fun _ _ _ h => h) (by rfl) ?_ hS ?_
  rotate_left
  · (intro w hSw; (try dsimp only at hSw); go_simp; try with_reducible rfl)
  try simp only [Act.put, List.setIfInBounds_toArray, List.set_cons_zero, List.set_cons_succ]
  refine e_take (i := 13) (v := ?_) rfl (by kernel_rfl) (fun _ _ _ h => h) (by rfl) ?_ hS ?_
  rotate_left
  · (intro w hSw; (try dsimp only at hSw); go_simp; try with_reducible rfl)
  try simp only [Act.put, List.setIfInBounds_toArray, List.set_cons_zero, List.set_cons_succ]
  refine e_pin (i := 14) rfl (by kernel_rfl) (fun K' hK => ?_)
  have hf := HF1.out.1
  have hc1 := HF1.out.2
  go_simp
  refine hK.out _ _ HS6.out (fun hS => ?_)
  clear hK K' HS6 hf hc1
  try simp only [Act.put, List.setIfInBounds_toArray, List.set_cons_zero, List.set_cons_succ]
  refine e_take (i := 15) (v := ?_) rfl (by kernel_rfl) (fun _ _ _ h => h) (by rfl) ?_ hS ?_
  rotate_left
  · (intro w hSw; (try dsimp only at hSw); go_simp; try with_reducible rfl)
  try simp only [Act.put, List.setIfInBounds_toArray, List.set_cons_zero, List.set_cons_succ]
  refine e_take (i := 16) (v := ?_) rfl (by kernel_rfl) (fun _ _ _ h => h) (by rfl) ?_ hS ?_
  rotate_left
  · (intro w hSw; (try dsimp only at hSw); go_simp; try with_reducible rfl)
  try simp only [Act.put, List.setIfInBounds_toArray, List.set_cons_zero, List.set_cons_succ]
  refine e_last (i := 17) rfl (by kernel_rfl) (fun K' hK => ?_)
  have hf := HF2.out.1
  have hc1 := HF2.out.2
  go_simp
  refine hK.out _ _ ?_
  clear hK K' hS hf hc1
  have c3 : ((w5.setCell ⟨cb, 1, none⟩ (.slice a3 l.length n3)).setCell ⟨cb, 2, none⟩ (.slice a5 m c5)).cell? ⟨cb, 3, none⟩ = some (.int .i64 md) := cell_of (HF7.out.block 0 rfl) rfl
  have f3 : ((w5.setCell ⟨cb, 1, none⟩ (.slice a3 l.length n3)).setCell ⟨cb, 2, none⟩ (.slice a5 m c5)).frozen? ⟨cb, 3, none⟩ = false := free_of (HF7.out.block 0 rfl)
  have G := Lib.hid (HF7.out.put 0 rfl 3 (.int .i64 (md + 1)))
  have HLT : Hid ((tableM lo m).length = m) := Lib.hid (by
    obtain ⟨F, r⟩ := HF7.out.get 2 rfl
    obtain ⟨a', c', e, h2, h3, h4⟩ := RowA.shape r
    rw [Value.slice.injEq] at e
    exact e.2.1.symm)
  generalize ((w5.setCell ⟨cb, 1, none⟩ (.slice a3 l.length n3)).setCell ⟨cb, 2, none⟩ (.slice a5 m c5)) = w7 at *
  clear HF7 HF1 HF2 HD K1 K2 K3
  go_wp2_with fail
  go_ret
  rw [HE.out]
  exact ⟨.slice a3 l.length n3, .slice a5 m c5, rfl, G.out⟩
end
section
variable {F0 : List Nat} {w0 w : World} {R : List Asrt} {rb : Nat} {bs : List UInt8}
abbrev RrC (rb : Nat) (A : Option Addr) (m c : Nat) : Asrt := Cells rb #[.slice A m c, .int .i64 0] 163
def RrPost (v : Value → Prop) (rb : Nat) (A : Option Addr) (m c : Nat) (F0 : List Nat) (w0 : World) (R : List Asrt) (e : Ending) (w' : World) : Prop := ∃ u, e = .returned u ∧ v u ∧ In F0 w0 w' (RrC rb A m c :: R)
theorem o_rrraw {g o c n : Nat} (hs : Src w (some ⟨g, o, none⟩) bs.length 1 (u8s bs)) (hn : n ≤ bs.length) (hc : bs.length ≤ c) (hm : c ≤ maxLen) (h8 : n ≤ 8) (h : In F0 w0 w (RrC rb (some ⟨g, o, none⟩) bs.length c :: R)) :
    Calls Tryz.prog 156 #[.pointer (some ⟨rb, 0, none⟩), .int .i64 n] w fun e w' => ∃ a k, e = .returned (.slice a n k) ∧ In F0 w0 w' (ByR (.slice a n k) (bs.take n) :: RrC rb (sufA (some ⟨g, o, none⟩) c n 1) (bs.length - n) (c - n) :: R) := by
  have hb := h.block 0 rfl
  have c0 : w.cell? ⟨rb, 0, none⟩ = some (.slice (some ⟨g, o, none⟩) bs.length c) := cell_of hb rfl
  have c1 : w.cell? ⟨rb, 1, none⟩ = some (.int .i64 0) := cell_of hb rfl
  have hg : decide ((n : Int) > (bs.length : Int)) = false := decide_eq_false (by omega)
  have hg2 : ¬ ((bs.length : Int) < (n : Int)) := by omega
  have hl0 : ¬ ((n : Int) < 0) := by omega
  have H := Lib.hid h
  have HS : Hid (Src w (some ⟨g, o, none⟩) n 1 (u8s (bs.take n))) := Lib.hid (src_take hs rfl hn)
  have hlt : (bs.take n).length = n := by rw [List.length_take]; omega
  have HL := Lib.hid hlt
  have hpre : ∀ w, (Instr.slice 35 (.slice (some ⟨g, o, none⟩) bs.length c) none (some (.int .i64 n)) none).run Tryz.prog w = .ok (.slice (some ⟨g, o, none⟩) n c) w := fun w => run_pre_at g o bs.length c n (by omega) w
  have hsuf : ∀ w, (Instr.slice 35 (.slice (some ⟨g, o, none⟩) bs.length c) (some (.int .i64 n)) none none).run Tryz.prog w = .ok (.slice (sufA (some ⟨g, o, none⟩) c n 1) (bs.length - n) (c - n)) w := fun w => run_suffix Tryz.underlying35 infoByte _ _ _ _ (by omega) w
  have h0 := h.rownil 5 1
  have H0 := Lib.hid h0
  have hnn : n ≤ 8 := h8
  clear h h0 hb hs hn hc hm h8 hlt
  go_enter Tryz.func156, Tryz.ntmps156
  go_wp2_with (at_builtin; refine app_list rfl H0.out 0 rfl (.const (.slice none 0 0)) (.tmp 33) 35 (by rfl) Tryz.underlying35 infoByte (by decide) (by decide) (by rfl) (by rfl) HS.out (u8s_one _) (by omega) ?_)
  intro v' w3 ho hg
  have h3 : In F0 w0 w3 (RowA 5 1 v' n (u8s (bs.take n)) :: RrC rb (some ⟨g, o, none⟩) bs.length c :: R) := by simpa using ho
  obtain ⟨F3, r3⟩ := h3.get 0 rfl
  obtain ⟨a3, k3, rfl, -, -, -⟩ := RowA.shape r3
  have d0 : w3.cell? ⟨rb, 0, none⟩ = some (.slice (some ⟨g, o, none⟩) bs.length c) := cell_of (h3.block 1 rfl) rfl
  have f0 : w3.frozen? ⟨rb, 0, none⟩ = false := free_of (h3.block 1 rfl)
  have G := Lib.hid (h3.put 1 rfl 0 (.slice (sufA (some ⟨g, o, none⟩) c n 1) (bs.length - n) (c - n)))
  clear ho hg h3 r3 H H0 HS
  generalize hse : sufA (some ⟨g, o, none⟩) c n 1 = sa at *
  have HSE := Lib.hid hse
  clear hse
  go_wp2_with fail
  go_ret
  refine ⟨a3, k3, rfl, ?_⟩
  have := G.out
  unfold ByR
  rw [HL.out, HSE.out]
  exact this
theorem o_rrnum {g o c n : Nat} (hs : Src w (some ⟨g, o, none⟩) bs.length 1 (u8s bs)) (hn : n ≤ bs.length) (hc : bs.length ≤ c) (hm : c ≤ maxLen) (h8 : n ≤ 8) (h : In F0 w0 w (RrC rb (some ⟨g, o, none⟩) bs.length c :: R)) :
    Calls Tryz.prog 135 #[.pointer (some ⟨rb, 0, none⟩), .int .i64 n] w fun e w' => e = .returned (.int .u64 (num (bs.take n))) ∧ In F0 w0 w' (RrC rb (sufA (some ⟨g, o, none⟩) c n 1) (bs.length - n) (c - n) :: R) := by
  have HC := Lib.hid (o_rrraw hs hn hc hm h8 h)
  have hlt : (bs.take n).length = n := by rw [List.length_take]; omega
  generalize hb : bs.take n = t at *
  generalize sufA (some ⟨g, o, none⟩) c n 1 = sa at *
  generalize bs.length - n = ln at *
  generalize c - n = cn at *
  clear hs hn hc hm h hb
  subst hlt
  go_enter Tryz.func135, Tryz.ntmps135
  go_wp2_with fail
  refine HC.out.mono ?_
  rintro e' w1 ⟨a, k, rfl, ho⟩
  have SS := Lib.hid (ByR.src ho 0 rfl)
  have G := Lib.hid ho.drop
  clear ho HC
  go_wp2_with fail
  go_loop [5, 12] (NumRel t) (fun _ k => t.length - (intOf k).toNat)
  case atStart => exact ⟨0, Nat.zero_le _, rfl, rfl⟩
  case round =>
    obtain ⟨j, hj, rfl, rfl⟩ := hrel
    by_cases hlt : j < t.length
    · obtain ⟨x, hx⟩ : ∃ x, t[j]? = some x := ⟨t[j], List.getElem?_eq_getElem hlt⟩
      obtain ⟨ad, rfl, hc⟩ := SS.out.at' (by omega)
      have c0 := hc j (.int .u8 x.toNat) (by simp [u8s, hx])
      have hlt' : (j : Int) < (t.length : Int) := by omega
      have hm := num_take_lt t j h8 hlt
      have HX : Hid (num (t.take (j + 1)) = num (t.take j) * 256 + x.toNat) := Lib.hid (by rw [List.take_add_one, hx]; exact num_snoc _ _)
      have hq := or_byte x hm
      have hxl := x.toNat_lt
      clear hx hc
      generalize num (t.take j) = m at *
      generalize x.toNat = xn at *
      have q1 : IntKind.u64.wrap ((m : Int) * 256) = ((m * 256 : Nat) : Int) := by rw [IntKind.wrap_u64]; omega
      go_wp2_with fail
      go_round
      case rel => exact ⟨j + 1, by omega, by go_num, by rw [HX.out]; go_num⟩
      case measure => simp [intOf]; omega
    · have hjl : j = t.length := by omega
      subst hjl
      rw [List.take_length]
      go_wp2_with fail
      go_ret
      exact ⟨rfl, G.out⟩
theorem o_rru32 {g o c : Nat} (hs : Src w (some ⟨g, o, none⟩) bs.length 1 (u8s bs)) (hn : 4 ≤ bs.length) (hc : bs.length ≤ c) (hm : c ≤ maxLen) (h : In F0 w0 w (RrC rb (some ⟨g, o, none⟩) bs.length c :: R)) :
    Calls Tryz.prog 101 #[.pointer (some ⟨rb, 0, none⟩)] w fun e w' => e = .returned (.int .u32 (num (bs.take 4))) ∧ In F0 w0 w' (RrC rb (sufA (some ⟨g, o, none⟩) c 4 1) (bs.length - 4) (c - 4) :: R) := by
  have HC := Lib.hid (o_rrnum hs hn hc hm (by decide) h)
  have hlt := num_lt_of (bs := bs.take 4) (k := 4) (by rw [List.length_take]; omega)
  have hw : IntKind.u32.wrap ((num (bs.take 4) : Nat) : Int) = ((num (bs.take 4) : Nat) : Int) := by rw [show ∀ n, IntKind.u32.wrap n = n % 4294967296 from fun n => by simp [IntKind.wrap, IntKind.bits, IntKind.signed]]; omega
  clear hs hn hc hm h
  generalize num (bs.take 4) = m at *
  go_enter Tryz.func101, Tryz.ntmps101
  go_wp2_with fail
  refine HC.out.mono ?_
  rintro e' w1 ⟨rfl, ho⟩
  have G := Lib.hid ho
  clear ho HC hlt
  go_wp2_with fail
  go_ret
  exact ⟨rfl, G.out⟩
end
end Go.Proofs.YtgapbecddgfkmaaGreat
