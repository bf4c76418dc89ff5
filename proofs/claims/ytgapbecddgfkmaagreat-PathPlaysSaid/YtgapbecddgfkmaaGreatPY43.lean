/- Rows.PathPlaysSaid -/
import Derived.Test.YtgapbecddgfkmaaGreatPY42
import Derived.Test.YtgapbecddgfkmaaGreatPY26
import Derived.Test.YtgapbecddgfkmaaGreatPY18
import Derived.Test.YtgapbecddgfkmaaGreatPY24
import Derived.Deep.CutBlock
import Derived.Test.YtgapbecddgfkmaaGreatPY28
import Derived.Test.YtgapbecddgfkmaaGreatPY27
import Derived.Test.YtgapbecddgfkmaaGreatPY22
import Derived.Test.YtgapbecddgfkmaaGreatPY29
import Derived.Deep.DeepCutAuto
namespace Go.Proofs.YtgapbecddgfkmaaGreat
open Go.RowKit
set_option linter.unusedVariables false
set_option maxHeartbeats 64000000
set_option maxRecDepth 100000
def k23 : Tup := ⟨1, 2, 6, 3, 4⟩
def f23 : Fl := ⟨k23, 4, 1, 5⟩
theorem k23_wf : WfT k23 := ⟨by decide, by decide, by decide, by decide, by decide, by decide, by decide, by decide, by decide, by decide⟩
theorem k23_may : MayT k23 := by decide
def c23 : ChD := ⟨13, [⟨4, 9, 1⟩], List.replicate 13 4, 1⟩
theorem set23 : setCh (newCh 13) [⟨4, 9, 1⟩] noneOut = (c23, 0) := by
  have h : gensMay [⟨4, 9, 1⟩] = true := by decide
  unfold setCh
  rw [if_pos h, withoutL_none]
  show (_, _) = _
  rw [show (newCh 13).slots = 13 from rfl, table4]
  rfl
theorem chOk23 : ChOk c23 := ⟨by decide, by decide, by decide, fun x hx => by simp [c23] at hx; subst hx; decide⟩
theorem put23 : putF 2 [] f23 = ([f23], true, 0) := by decide +kernel
theorem pkt23 : ∃ pk, pktD 168364297 1500 2 [] c23 1 5 (madeD k23 9 0 []) = (⟨2, 0, 4, pk, [putRec f23]⟩, [f23]) := by
  have hc : choiceD [] c23 k23 = some ⟨4, 9, 1⟩ := pick_one rfl rfl rfl k23_may
  obtain ⟨pk, h⟩ := made_goes (self := 168364297) (mtu := 1500) (most := 2) (gen := 1) (now := 5) (L := []) (c := c23) k23_wf k23_may 9 0 [] (by decide) (by decide) hc (by decide) (by rw [innerL_length]; decide)
  refine ⟨pk, h.trans ?_⟩
  have e : keepD 2 [] ⟨k23, 4, 1, 5⟩ (atF [] k23).isSome (wasD [] k23) (decide (k23.proto = 6) && decide (u64 0 % 256 &&& 5 ≠ 0)) = ([putRec f23], [f23]) := by
    have e1 : (decide (k23.proto = 6) && decide (u64 0 % 256 &&& 5 ≠ 0)) = false := by decide
    rw [e1]
    have e2 : (atF [] k23).isSome = false := rfl
    rw [e2]
    unfold keepD
    rw [if_neg (by decide), if_neg (by simp)]
    have := put23
    unfold f23 at this ⊢
    rw [this]; rfl
  rw [e]
section
variable {F0 : List Nat} {w0 w : World} {R : List Asrt}
theorem o_awake23 (h : In F0 w0 w R) : Calls Tryz.prog 7 #[] w fun e w' => e = .returned (.bool true) ∧ In F0 w0 w' R := by
  obtain ⟨pk, hpk⟩ := pkt23
  have K0 := Lib.hid (o_fnew h 2 20)
  have K1 := Lib.hid (fun w' (R' : List Asrt) (h' : In F0 w0 w' R') => o_chnew may13 cov13 h')
  have K2 := Lib.hid (fun w' cb g vl vt (R' : List Asrt) (h' : In F0 w0 w' (Cells g (encBa ⟨4, 9, 1⟩) 33 :: ChL cb (newCh 13) vl vt R')) => o_chset1 (x := ⟨4, 9, 1⟩) (by decide) rfl h')
  have KC := Lib.hid (fun w' (R' : List Asrt) (h' : In F0 w0 w' R') => o_config 2 h')
  have HML : Hid ((madeD k23 9 0 []).length ≤ 100000000) := Lib.hid (by decide +kernel)
  have KM0 := fun w' (R' : List Asrt) (h' : In F0 w0 w' R') => o_made h' k23_wf 9 0 (A := none) (c := 0) (body := []) bytes_nil (by decide)
  have KP0 := fun bt cb vl vt w' (R' : List Asrt) a n (h' : In F0 w0 w' (ByR (.slice a (madeD k23 9 0 []).length n) (madeD k23 9 0 []) :: FA bt 2 20 [] :: ChL cb c23 vl vt R')) => o_pktown (self := 168364297) (sl := 13) (fl := 2) (idle0 := 20) (mtu := 1500) (sg := 200) (qu := 20000) (ve := 3) (by decide) chOk23 (gen := 1) (now := 5) HML.out h'
  rw [hpk] at KP0
  generalize madeD k23 9 0 [] = m at *
  have KM1 := Lib.hid KM0
  have KP1 := Lib.hid KP0
  have HW := Lib.hid set23
  clear KM0 KP0 hpk h
  go_enter Tryz.func7, Tryz.ntmps7
  go_wp2_with fail
  refine K0.out.mono ?_
  rintro e w1 ⟨bt, rfl, ho⟩
  have h1 : In F0 w0 w1 (FA bt 2 20 [] :: R) := ho
  have K1H := Lib.hid (K1.out _ _ h1)
  clear ho h1 K0 K1
  go_wp2_with fail
  refine K1H.out.mono ?_
  rintro e w2 ⟨cb, a2, n2, rfl, ho⟩
  have h2 := ho.cells (encBa ⟨4, 9, 1⟩) 33
  have K2H := K2.out _ _ _ _ _ _ h2
  rw [HW.out] at K2H
  have K2G := Lib.hid K2H
  clear ho h2 K2 K1H K2H
  go_wp2_with fail
  refine K2G.out.mono ?_
  rintro e w3 ⟨vl, vt, rfl, ho⟩
  obtain ⟨F8, r8⟩ := ho.get 1 rfl
  obtain ⟨al, nl, rfl, -, -, -⟩ := RowA.shape r8
  obtain ⟨F9, r9⟩ := ho.get 2 rfl
  obtain ⟨at', nt, rfl, -, -, -⟩ := RowA.shape r9
  generalize hvl : Value.slice al c23.l.length nl = vl at *
  generalize hvt : Value.slice at' c23.t.length nt = vt at *
  have h3 := ho.cells #[.int .u32 1, .int .u32 2, .int .i64 6, .int .i64 3, .int .i64 4] 24
  clear K2G r8 r9 ho
  go_upto_region 4 with fail
  generalize w3.heap.size = g3 at *
  generalize (w3.alloc (.cells #[.int .u32 1, .int .u32 2, .int .i64 6, .int .i64 3, .int .i64 4] 24)) = V at *
  have HD0 : In F0 w0 V (FA bt 2 20 [] :: ChL cb ⟨13, [⟨4, 9, 1⟩], List.replicate 13 4, 1⟩ vl vt (Cells g3 #[.int .u32 1, .int .u32 2, .int .i64 6, .int .i64 3, .int .i64 4] 24 :: R)) := h3.sel2 (R1 := [_, _, _, _, _]) [4, 1, 2, 3, 0] (by decide) rfl
  have HD1 := HD0.drewN 1
  have KM := Lib.hid (fun w' (R' : List Asrt) (h' : In F0 w0 w' R') => KM1.out w' R' h')
  have KP := Lib.hid (fun w' (R' : List Asrt) a n (h' : In F0 w0 w' (ByR (.slice a m.length n) m :: FA bt 2 20 [] :: ChL cb ⟨13, [⟨4, 9, 1⟩], List.replicate 13 4, 1⟩ vl vt R')) => KP1.out bt cb vl vt w' R' a n h')
  clear h3 HD0 KM1 KP1
  go_cut [4] (fun x4 wx => ∃ g4 vp vr, x4 = .pointer (some ⟨g4, 0, none⟩) ∧ In F0 w0 wx (Cells g4 (plC 2 0 4 vp vr) 43 :: ByR vp pk :: RecR vr [putRec f23] :: FA bt 2 20 [f23] :: ChL cb ⟨13, [⟨4, 9, 1⟩], List.replicate 13 4, 1⟩ vl vt (Cells g3 #[.int .u32 1, .int .u32 2, .int .i64 6, .int .i64 3, .int .i64 4] 24 :: R)))
  case first =>
    have HD : Hid (In F0 w0 V.drew (FA bt 2 20 [] :: ChL cb ⟨13, [⟨4, 9, 1⟩], List.replicate 13 4, 1⟩ vl vt (Cells g3 #[.int .u32 1, .int .u32 2, .int .i64 6, .int .i64 3, .int .i64 4] 24 :: R))) := Lib.hid HD1
    clear HD1
    unfold k23 at KM
    refine e_start (fun w' => w'.cell? ⟨g3, 0, none⟩ = some (.int .u32 1) ∧ w'.cell? ⟨g3, 1, none⟩ = some (.int .u32 2) ∧ w'.cell? ⟨g3, 2, none⟩ = some (.int .i64 6) ∧ w'.cell? ⟨g3, 3, none⟩ = some (.int .i64 3) ∧ w'.cell? ⟨g3, 4, none⟩ = some (.int .i64 4)) (by kernel_rfl) ⟨cell_of (HD.out.block 4 rfl) rfl, cell_of (HD.out.block 4 rfl) rfl, cell_of (HD.out.block 4 rfl) rfl, cell_of (HD.out.block 4 rfl) rfl, cell_of (HD.out.block 4 rfl) rfl⟩ (fun hS => ?_)
    generalize V.drew = VD at *
    refine e_take (i := 1) (v := ?_) rfl (by kernel_rfl) (fun _ _ _ h => h) (by rfl) ?_ hS ?_
    rotate_left
    · (intro w hSw; (try dsimp only at hSw); go_simp; try with_reducible rfl)
    try simp only [Act.put, List.setIfInBounds_toArray, List.set_cons_zero, List.set_cons_succ]
    refine e_take (i := 2) (v := ?_) rfl (by kernel_rfl) (fun _ _ _ h => h) (by rfl) ?_ hS ?_
    rotate_left
    · (intro w hSw; (try dsimp only at hSw); go_simp; try with_reducible rfl)
    try simp only [Act.put, List.setIfInBounds_toArray, List.set_cons_zero, List.set_cons_succ]
    refine e_take (i := 3) (v := ?_) rfl (by kernel_rfl) (fun _ _ _ h => h) (by rfl) ?_ hS ?_
    rotate_left
    · (intro w hSw; (try dsimp only at hSw); go_simp; try with_reducible rfl)
    try simp only [Act.put, List.setIfInBounds_toArray, List.set_cons_zero, List.set_cons_succ]
    refine e_two (i := 0) (j := 6) rfl rfl (by kernel_rfl) (fun K' hK => ?_) (fun K' hK => ?_)
    · go_simp
      go_at_call 13
      refine (KC.out _ _ HD.out).mono ?_
      rintro e u1 ⟨rfl, hN1⟩
      have HU1 : Hid (In F0 w0 u1 (FA bt 2 20 [] :: ChL cb ⟨13, [⟨4, 9, 1⟩], List.replicate 13 4, 1⟩ vl vt (Cells g3 #[.int .u32 1, .int .u32 2, .int .i64 6, .int .i64 3, .int .i64 4] 24 :: R))) := Lib.hid hN1
      clear hN1
      refine hK.out _ _ ⟨cell_of (HU1.out.block 4 rfl) rfl, cell_of (HU1.out.block 4 rfl) rfl, cell_of (HU1.out.block 4 rfl) rfl, cell_of (HU1.out.block 4 rfl) rfl, cell_of (HU1.out.block 4 rfl) rfl⟩ (fun hS => ?_)
      clear hK K'
      try simp only [Act.put, List.setIfInBounds_toArray, List.set_cons_zero, List.set_cons_succ]
      refine e_two (i := 4) (j := 6) rfl rfl (by kernel_rfl) (fun K' hK => ?_) (fun K' hK => ?_)
      · go_simp
        go_at_call 10
        refine (KM.out _ _ HU1.out).mono ?_
        rintro e u2 ⟨vM, rfl, hN2⟩
        obtain ⟨aM, nM, rfl⟩ := ByR.shape hN2
        have HU2 : Hid (In F0 w0 u2 (ByR (.slice aM m.length nM) m :: FA bt 2 20 [] :: ChL cb ⟨13, [⟨4, 9, 1⟩], List.replicate 13 4, 1⟩ vl vt (Cells g3 #[.int .u32 1, .int .u32 2, .int .i64 6, .int .i64 3, .int .i64 4] 24 :: R))) := Lib.hid hN2
        clear hN2
        refine hK.out _ _ ⟨cell_of (HU2.out.block 5 rfl) rfl, cell_of (HU2.out.block 5 rfl) rfl, cell_of (HU2.out.block 5 rfl) rfl, cell_of (HU2.out.block 5 rfl) rfl, cell_of (HU2.out.block 5 rfl) rfl⟩ (fun hS => ?_)
        clear hK K'
        try simp only [Act.put, List.setIfInBounds_toArray, List.set_cons_zero, List.set_cons_succ]
        refine e_two (i := 5) (j := 6) rfl rfl (by kernel_rfl) (fun K' hK => ?_) (fun K' hK => ?_)
        · go_simp
          go_at_call 12
          refine (KP.out _ _ _ _ HU2.out).mono ?_
          rintro e u3 ⟨vp, vr, rfl, hN3⟩
          obtain ⟨ap, np, rfl⟩ := ByR.shape hN3
          obtain ⟨Fr, rr⟩ := hN3.get 1 rfl
          obtain ⟨ar, nr, rfl, -, -, -⟩ := RowA.shape rr
          have HU3 : Hid (In F0 w0 u3 (ByR (.slice ap pk.length np) pk :: RecR (.slice ar [putRec f23].length nr) [putRec f23] :: FA bt 2 20 [f23] :: ChL cb ⟨13, [⟨4, 9, 1⟩], List.replicate 13 4, 1⟩ vl vt (Cells g3 #[.int .u32 1, .int .u32 2, .int .i64 6, .int .i64 3, .int .i64 4] 24 :: R))) := Lib.hid hN3
          clear hN3 rr
          refine hK.out _ _ ⟨cell_of (HU3.out.block 6 rfl) rfl, cell_of (HU3.out.block 6 rfl) rfl, cell_of (HU3.out.block 6 rfl) rfl, cell_of (HU3.out.block 6 rfl) rfl, cell_of (HU3.out.block 6 rfl) rfl⟩ (fun hS => ?_)
          clear hK K'
          try simp only [Act.put, List.setIfInBounds_toArray, List.set_cons_zero, List.set_cons_succ]
          refine e_pin (i := 6) rfl (by kernel_rfl) (fun K' hK => ?_)
          go_simp
          have hA4 := HU3.out.cells (plC 0 0 0 (.slice none 0 0) (.slice none 0 0)) 43
          generalize u3.heap.size = gA at *
          generalize (u3.alloc (.cells (plC 0 0 0 (.slice none 0 0) (.slice none 0 0)) 43)) = u4 at *
          have HU4 : Hid (In F0 w0 u4 (ByR (.slice ap pk.length np) pk :: RecR (.slice ar [putRec f23].length nr) [putRec f23] :: FA bt 2 20 [f23] :: ChL cb ⟨13, [⟨4, 9, 1⟩], List.replicate 13 4, 1⟩ vl vt (Cells gA (plC 0 0 0 (.slice none 0 0) (.slice none 0 0)) 43 :: Cells g3 #[.int .u32 1, .int .u32 2, .int .i64 6, .int .i64 3, .int .i64 4] 24 :: R))) := Lib.hid (hA4.sel2 (R1 := [_, _, _, _, _, _, _, _]) [1, 2, 3, 4, 5, 6, 0, 7] (by decide) rfl)
          clear hA4
          refine hK.out _ _ ⟨cell_of (HU4.out.block 7 rfl) rfl, cell_of (HU4.out.block 7 rfl) rfl, cell_of (HU4.out.block 7 rfl) rfl, cell_of (HU4.out.block 7 rfl) rfl, cell_of (HU4.out.block 7 rfl) rfl⟩ (fun hS => ?_)
          clear hK K'
          try simp only [Act.put, List.setIfInBounds_toArray, List.set_cons_zero, List.set_cons_succ]
          refine e_last (i := 7) rfl (by kernel_rfl) (fun K' hK => ?_)
          have hF := HU4.out.setFull 6 rfl (xs := (plC 2 0 4 (.slice ap pk.length np) (.slice ar [putRec f23].length nr)).toList) (b := gA) (C := (plC 0 0 0 (.slice none 0 0) (.slice none 0 0))) (T := 43) rfl
          refine store_step (by rfl) 43 (.tmp 4) (.tmp 17) (by rfl) gA 0 (plC 2 0 4 (.slice ap pk.length np) (.slice ar [putRec f23].length nr)) (by rfl) (by rfl) (there_of (C := (plC 0 0 0 (.slice none 0 0) (.slice none 0 0))) (T := 43) (HU4.out.block 6 rfl)) (by kernel_rfl) (plC_all _ _ _ _ _ _ _ _ _) ?_
          refine hK.out _ _ ?_
          clear hK K' hS
          go_wp2_with fail
          go_meet
          exact ⟨gA, _, _, rfl, hF.sel2 (R1 := [_, _, _, _, _, _, _, _]) [6, 0, 1, 2, 3, 4, 5, 7] (by decide) rfl⟩
        · go_simp
          have hA5 := HU2.out.cells (plC 0 0 0 (.slice none 0 0) (.slice none 0 0)) 43
          generalize u2.heap.size = gA at *
          generalize (u2.alloc (.cells (plC 0 0 0 (.slice none 0 0) (.slice none 0 0)) 43)) = u5 at *
          have HU5 : Hid (In F0 w0 u5 (ByR (.slice aM m.length nM) m :: FA bt 2 20 [] :: ChL cb ⟨13, [⟨4, 9, 1⟩], List.replicate 13 4, 1⟩ vl vt (Cells gA (plC 0 0 0 (.slice none 0 0) (.slice none 0 0)) 43 :: Cells g3 #[.int .u32 1, .int .u32 2, .int .i64 6, .int .i64 3, .int .i64 4] 24 :: R))) := Lib.hid (hA5.sel2 (R1 := [_, _, _, _, _, _, _]) [1, 2, 3, 4, 5, 0, 6] (by decide) rfl)
          clear hA5
          refine hK.out _ _ ⟨cell_of (HU5.out.block 6 rfl) rfl, cell_of (HU5.out.block 6 rfl) rfl, cell_of (HU5.out.block 6 rfl) rfl, cell_of (HU5.out.block 6 rfl) rfl, cell_of (HU5.out.block 6 rfl) rfl⟩ (fun hS => ?_)
          clear hK K'
          try simp only [Act.put, List.setIfInBounds_toArray, List.set_cons_zero, List.set_cons_succ]
          refine e_pin (i := 5) rfl (by kernel_rfl) (fun K' hK => ?_)
          go_simp
          go_at_call 12
          refine (KP.out _ _ _ _ HU5.out).mono ?_
          rintro e u6 ⟨vp, vr, rfl, hN6⟩
          obtain ⟨ap, np, rfl⟩ := ByR.shape hN6
          obtain ⟨Fr, rr⟩ := hN6.get 1 rfl
          obtain ⟨ar, nr, rfl, -, -, -⟩ := RowA.shape rr
          have HU6 : Hid (In F0 w0 u6 (ByR (.slice ap pk.length np) pk :: RecR (.slice ar [putRec f23].length nr) [putRec f23] :: FA bt 2 20 [f23] :: ChL cb ⟨13, [⟨4, 9, 1⟩], List.replicate 13 4, 1⟩ vl vt (Cells gA (plC 0 0 0 (.slice none 0 0) (.slice none 0 0)) 43 :: Cells g3 #[.int .u32 1, .int .u32 2, .int .i64 6, .int .i64 3, .int .i64 4] 24 :: R))) := Lib.hid hN6
          clear hN6 rr
          refine hK.out _ _ ⟨cell_of (HU6.out.block 7 rfl) rfl, cell_of (HU6.out.block 7 rfl) rfl, cell_of (HU6.out.block 7 rfl) rfl, cell_of (HU6.out.block 7 rfl) rfl, cell_of (HU6.out.block 7 rfl) rfl⟩ (fun hS => ?_)
          clear hK K'
          try simp only [Act.put, List.setIfInBounds_toArray, List.set_cons_zero, List.set_cons_succ]
          refine e_last (i := 7) rfl (by kernel_rfl) (fun K' hK => ?_)
          have hF := HU6.out.setFull 6 rfl (xs := (plC 2 0 4 (.slice ap pk.length np) (.slice ar [putRec f23].length nr)).toList) (b := gA) (C := (plC 0 0 0 (.slice none 0 0) (.slice none 0 0))) (T := 43) rfl
          refine store_step (by rfl) 43 (.tmp 4) (.tmp 17) (by rfl) gA 0 (plC 2 0 4 (.slice ap pk.length np) (.slice ar [putRec f23].length nr)) (by rfl) (by rfl) (there_of (C := (plC 0 0 0 (.slice none 0 0) (.slice none 0 0))) (T := 43) (HU6.out.block 6 rfl)) (by kernel_rfl) (plC_all _ _ _ _ _ _ _ _ _) ?_
          refine hK.out _ _ ?_
          clear hK K' hS
          go_wp2_with fail
          go_meet
          exact ⟨gA, _, _, rfl, hF.sel2 (R1 := [_, _, _, _, _, _, _, _]) [6, 0, 1, 2, 3, 4, 5, 7] (by decide) rfl⟩
      · go_simp
        have hA7 := HU1.out.cells (plC 0 0 0 (.slice none 0 0) (.slice none 0 0)) 43
        generalize u1.heap.size = gA at *
        generalize (u1.alloc (.cells (plC 0 0 0 (.slice none 0 0) (.slice none 0 0)) 43)) = u7 at *
        have HU7 : Hid (In F0 w0 u7 (FA bt 2 20 [] :: ChL cb ⟨13, [⟨4, 9, 1⟩], List.replicate 13 4, 1⟩ vl vt (Cells gA (plC 0 0 0 (.slice none 0 0) (.slice none 0 0)) 43 :: Cells g3 #[.int .u32 1, .int .u32 2, .int .i64 6, .int .i64 3, .int .i64 4] 24 :: R))) := Lib.hid (hA7.sel2 (R1 := [_, _, _, _, _, _]) [1, 2, 3, 4, 0, 5] (by decide) rfl)
        clear hA7
        refine hK.out _ _ ⟨cell_of (HU7.out.block 5 rfl) rfl, cell_of (HU7.out.block 5 rfl) rfl, cell_of (HU7.out.block 5 rfl) rfl, cell_of (HU7.out.block 5 rfl) rfl, cell_of (HU7.out.block 5 rfl) rfl⟩ (fun hS => ?_)
        clear hK K'
        try simp only [Act.put, List.setIfInBounds_toArray, List.set_cons_zero, List.set_cons_succ]
        refine e_pin (i := 4) rfl (by kernel_rfl) (fun K' hK => ?_)
        go_simp
        go_at_call 10
        refine (KM.out _ _ HU7.out).mono ?_
        rintro e u8 ⟨vM, rfl, hN8⟩
        obtain ⟨aM, nM, rfl⟩ := ByR.shape hN8
        have HU8 : Hid (In F0 w0 u8 (ByR (.slice aM m.length nM) m :: FA bt 2 20 [] :: ChL cb ⟨13, [⟨4, 9, 1⟩], List.replicate 13 4, 1⟩ vl vt (Cells gA (plC 0 0 0 (.slice none 0 0) (.slice none 0 0)) 43 :: Cells g3 #[.int .u32 1, .int .u32 2, .int .i64 6, .int .i64 3, .int .i64 4] 24 :: R))) := Lib.hid hN8
        clear hN8
        refine hK.out _ _ ⟨cell_of (HU8.out.block 6 rfl) rfl, cell_of (HU8.out.block 6 rfl) rfl, cell_of (HU8.out.block 6 rfl) rfl, cell_of (HU8.out.block 6 rfl) rfl, cell_of (HU8.out.block 6 rfl) rfl⟩ (fun hS => ?_)
        clear hK K'
        try simp only [Act.put, List.setIfInBounds_toArray, List.set_cons_zero, List.set_cons_succ]
        refine e_pin (i := 5) rfl (by kernel_rfl) (fun K' hK => ?_)
        go_simp
        go_at_call 12
        refine (KP.out _ _ _ _ HU8.out).mono ?_
        rintro e u9 ⟨vp, vr, rfl, hN9⟩
        obtain ⟨ap, np, rfl⟩ := ByR.shape hN9
        obtain ⟨Fr, rr⟩ := hN9.get 1 rfl
        obtain ⟨ar, nr, rfl, -, -, -⟩ := RowA.shape rr
        have HU9 : Hid (In F0 w0 u9 (ByR (.slice ap pk.length np) pk :: RecR (.slice ar [putRec f23].length nr) [putRec f23] :: FA bt 2 20 [f23] :: ChL cb ⟨13, [⟨4, 9, 1⟩], List.replicate 13 4, 1⟩ vl vt (Cells gA (plC 0 0 0 (.slice none 0 0) (.slice none 0 0)) 43 :: Cells g3 #[.int .u32 1, .int .u32 2, .int .i64 6, .int .i64 3, .int .i64 4] 24 :: R))) := Lib.hid hN9
        clear hN9 rr
        refine hK.out _ _ ⟨cell_of (HU9.out.block 7 rfl) rfl, cell_of (HU9.out.block 7 rfl) rfl, cell_of (HU9.out.block 7 rfl) rfl, cell_of (HU9.out.block 7 rfl) rfl, cell_of (HU9.out.block 7 rfl) rfl⟩ (fun hS => ?_)
        clear hK K'
        try simp only [Act.put, List.setIfInBounds_toArray, List.set_cons_zero, List.set_cons_succ]
        refine e_last (i := 7) rfl (by kernel_rfl) (fun K' hK => ?_)
        have hF := HU9.out.setFull 6 rfl (xs := (plC 2 0 4 (.slice ap pk.length np) (.slice ar [putRec f23].length nr)).toList) (b := gA) (C := (plC 0 0 0 (.slice none 0 0) (.slice none 0 0))) (T := 43) rfl
        refine store_step (by rfl) 43 (.tmp 4) (.tmp 17) (by rfl) gA 0 (plC 2 0 4 (.slice ap pk.length np) (.slice ar [putRec f23].length nr)) (by rfl) (by rfl) (there_of (C := (plC 0 0 0 (.slice none 0 0) (.slice none 0 0))) (T := 43) (HU9.out.block 6 rfl)) (by kernel_rfl) (plC_all _ _ _ _ _ _ _ _ _) ?_
        refine hK.out _ _ ?_
        clear hK K' hS
        go_wp2_with fail
        go_meet
        exact ⟨gA, _, _, rfl, hF.sel2 (R1 := [_, _, _, _, _, _, _, _]) [6, 0, 1, 2, 3, 4, 5, 7] (by decide) rfl⟩
    · go_simp
      have hA10 := HD.out.cells (plC 0 0 0 (.slice none 0 0) (.slice none 0 0)) 43
      generalize VD.heap.size = gA at *
      generalize (VD.alloc (.cells (plC 0 0 0 (.slice none 0 0) (.slice none 0 0)) 43)) = u10 at *
      have HU10 : Hid (In F0 w0 u10 (FA bt 2 20 [] :: ChL cb ⟨13, [⟨4, 9, 1⟩], List.replicate 13 4, 1⟩ vl vt (Cells gA (plC 0 0 0 (.slice none 0 0) (.slice none 0 0)) 43 :: Cells g3 #[.int .u32 1, .int .u32 2, .int .i64 6, .int .i64 3, .int .i64 4] 24 :: R))) := Lib.hid (hA10.sel2 (R1 := [_, _, _, _, _, _]) [1, 2, 3, 4, 0, 5] (by decide) rfl)
      clear hA10
      refine hK.out _ _ ⟨cell_of (HU10.out.block 5 rfl) rfl, cell_of (HU10.out.block 5 rfl) rfl, cell_of (HU10.out.block 5 rfl) rfl, cell_of (HU10.out.block 5 rfl) rfl, cell_of (HU10.out.block 5 rfl) rfl⟩ (fun hS => ?_)
      clear hK K'
      try simp only [Act.put, List.setIfInBounds_toArray, List.set_cons_zero, List.set_cons_succ]
      refine e_pin (i := 0) rfl (by kernel_rfl) (fun K' hK => ?_)
      go_simp
      go_at_call 13
      refine (KC.out _ _ HU10.out).mono ?_
      rintro e u11 ⟨rfl, hN11⟩
      have HU11 : Hid (In F0 w0 u11 (FA bt 2 20 [] :: ChL cb ⟨13, [⟨4, 9, 1⟩], List.replicate 13 4, 1⟩ vl vt (Cells gA (plC 0 0 0 (.slice none 0 0) (.slice none 0 0)) 43 :: Cells g3 #[.int .u32 1, .int .u32 2, .int .i64 6, .int .i64 3, .int .i64 4] 24 :: R))) := Lib.hid hN11
      clear hN11
      refine hK.out _ _ ⟨cell_of (HU11.out.block 5 rfl) rfl, cell_of (HU11.out.block 5 rfl) rfl, cell_of (HU11.out.block 5 rfl) rfl, cell_of (HU11.out.block 5 rfl) rfl, cell_of (HU11.out.block 5 rfl) rfl⟩ (fun hS => ?_)
      clear hK K'
      try simp only [Act.put, List.setIfInBounds_toArray, List.set_cons_zero, List.set_cons_succ]
      refine e_pin (i := 4) rfl (by kernel_rfl) (fun K' hK => ?_)
      go_simp
      go_at_call 10
      refine (KM.out _ _ HU11.out).mono ?_
      rintro e u12 ⟨vM, rfl, hN12⟩
      obtain ⟨aM, nM, rfl⟩ := ByR.shape hN12
      have HU12 : Hid (In F0 w0 u12 (ByR (.slice aM m.length nM) m :: FA bt 2 20 [] :: ChL cb ⟨13, [⟨4, 9, 1⟩], List.replicate 13 4, 1⟩ vl vt (Cells gA (plC 0 0 0 (.slice none 0 0) (.slice none 0 0)) 43 :: Cells g3 #[.int .u32 1, .int .u32 2, .int .i64 6, .int .i64 3, .int .i64 4] 24 :: R))) := Lib.hid hN12
      clear hN12
      refine hK.out _ _ ⟨cell_of (HU12.out.block 6 rfl) rfl, cell_of (HU12.out.block 6 rfl) rfl, cell_of (HU12.out.block 6 rfl) rfl, cell_of (HU12.out.block 6 rfl) rfl, cell_of (HU12.out.block 6 rfl) rfl⟩ (fun hS => ?_)
      clear hK K'
      try simp only [Act.put, List.setIfInBounds_toArray, List.set_cons_zero, List.set_cons_succ]
      refine e_pin (i := 5) rfl (by kernel_rfl) (fun K' hK => ?_)
      go_simp
      go_at_call 12
      refine (KP.out _ _ _ _ HU12.out).mono ?_
      rintro e u13 ⟨vp, vr, rfl, hN13⟩
      obtain ⟨ap, np, rfl⟩ := ByR.shape hN13
      obtain ⟨Fr, rr⟩ := hN13.get 1 rfl
      obtain ⟨ar, nr, rfl, -, -, -⟩ := RowA.shape rr
      have HU13 : Hid (In F0 w0 u13 (ByR (.slice ap pk.length np) pk :: RecR (.slice ar [putRec f23].length nr) [putRec f23] :: FA bt 2 20 [f23] :: ChL cb ⟨13, [⟨4, 9, 1⟩], List.replicate 13 4, 1⟩ vl vt (Cells gA (plC 0 0 0 (.slice none 0 0) (.slice none 0 0)) 43 :: Cells g3 #[.int .u32 1, .int .u32 2, .int .i64 6, .int .i64 3, .int .i64 4] 24 :: R))) := Lib.hid hN13
      clear hN13 rr
      refine hK.out _ _ ⟨cell_of (HU13.out.block 7 rfl) rfl, cell_of (HU13.out.block 7 rfl) rfl, cell_of (HU13.out.block 7 rfl) rfl, cell_of (HU13.out.block 7 rfl) rfl, cell_of (HU13.out.block 7 rfl) rfl⟩ (fun hS => ?_)
      clear hK K'
      try simp only [Act.put, List.setIfInBounds_toArray, List.set_cons_zero, List.set_cons_succ]
      refine e_last (i := 7) rfl (by kernel_rfl) (fun K' hK => ?_)
      have hF := HU13.out.setFull 6 rfl (xs := (plC 2 0 4 (.slice ap pk.length np) (.slice ar [putRec f23].length nr)).toList) (b := gA) (C := (plC 0 0 0 (.slice none 0 0) (.slice none 0 0))) (T := 43) rfl
      refine store_step (by rfl) 43 (.tmp 4) (.tmp 17) (by rfl) gA 0 (plC 2 0 4 (.slice ap pk.length np) (.slice ar [putRec f23].length nr)) (by rfl) (by rfl) (there_of (C := (plC 0 0 0 (.slice none 0 0) (.slice none 0 0))) (T := 43) (HU13.out.block 6 rfl)) (by kernel_rfl) (plC_all _ _ _ _ _ _ _ _ _) ?_
      refine hK.out _ _ ?_
      clear hK K' hS
      go_wp2_with fail
      go_meet
      exact ⟨gA, _, _, rfl, hF.sel2 (R1 := [_, _, _, _, _, _, _, _]) [6, 0, 1, 2, 3, 4, 5, 7] (by decide) rfl⟩
  case rest =>
    obtain ⟨g4, vp, vr, rfl, ho⟩ := hcut
    obtain ⟨F8, r8⟩ := ho.get 2 rfl
    obtain ⟨ar, nr, rfl, -, -, -⟩ := RowA.shape r8
    have hb := ho.block 0 rfl
    have p0 : wc.cell? ⟨g4, 0, none⟩ = some (.int .i64 2) := cell_of hb rfl
    have p2 : wc.cell? ⟨g4, 2, none⟩ = some (.int .i64 4) := cell_of hb rfl
    have p4 : wc.cell? ⟨g4, 4, none⟩ = some (.slice ar 1 nr) := cell_of hb rfl
    have K5 := Lib.hid (o_flen ho 3 rfl)
    have G := Lib.hid (ho.sel2 (R1 := [_, _, _, _, _, _, _, _]) [] (by decide) rfl)
    clear ho hb r8 KM KP
    go_wp2_with fail
    refine K5.out.mono ?_
    rintro e w5 ⟨rfl, rfl⟩
    clear K5
    go_wp2_with fail
    go_ret
    exact ⟨rfl, G.out⟩
end
def insB (out : List Bk) (b : Bk) : List Bk :=
  let k := (out.takeWhile (fun y => decide (y.id < b.id))).length
  if (out[k]?).map (·.id) = some b.id then out.set k b else out.take k ++ b :: out.drop k
def sortN (l : List Bk) (i : Nat) : List Bk := (l.take i).foldl insB []
def sortBk (l : List Bk) : List Bk := sortN l 16
def LowB (out : List Bk) (b : Bk) (k : Nat) : Prop := k ≤ out.length ∧ ∀ y ∈ out.take k, y.id < b.id
section
variable {F0 : List Nat} {w0 w : World} {R : List Asrt}
def SbRel (l : List Bk) (F0 : List Nat) (w0 : World) (R : List Asrt) (vo vi : Value) (wr : World) : Prop := ∃ i : Nat, vi = .int .i64 i ∧ i ≤ l.length ∧ i ≤ 16 ∧ In F0 w0 wr (BkR vo (sortN l i) :: R)
def SbIn (g5 : Nat) (b : Bk) (vo : Value) (out : List Bk) (F0 : List Nat) (w0 : World) (R : List Asrt) (vk : Value) (wr : World) : Prop := ∃ k : Nat, vk = .int .i64 k ∧ LowB out b k ∧ In F0 w0 wr (Cells g5 (encBa b) 33 :: BkR vo out :: R)
def SbMid (g5 : Nat) (b : Bk) (vo : Value) (out : List Bk) (F0 : List Nat) (w0 : World) (R : List Asrt) (vk : Value) (wr : World) : Prop := ∃ k : Nat, vk = .int .i64 k ∧ LowB out b k ∧ (∀ y, out[k]? = some y → ¬ y.id < b.id) ∧ In F0 w0 wr (Cells g5 (encBa b) 33 :: BkR vo out :: R)
end
def cM1 : ChD := ⟨13, [⟨1, 1, 1⟩], List.replicate 13 1, 1⟩
def cM2 : ChD := ⟨13, [⟨2, 2, 1⟩], List.replicate 13 2, 2⟩
section
variable {k : Tup} (wk : WfT k) (mk : MayT k) {gen : Int} (g0 : 0 ≤ gen) (g1 : gen < 1000000)
include wk mk g0 g1
end
theorem fillM_length (ks : List Nat) (m : Nat) (rs : List MRow) : ∀ n, (fillM ks m rs n).1.length = m
  | 0 => by simp [fillM]
  | n + 1 => by
    rw [fillM_succ]
    have := fillM_length ks m rs n
    unfold stepM nextT
    rw [List.length_set]; exact this
theorem tableM_length (l : List Bk) (m : Nat) : (tableM l m).length = m := by
  unfold tableM
  split
  · exact fillM_length _ _ _ _
  · simp
structure StInv (k : Tup) (home : Int) (n : Nat) (L : List Fl) (c : ChD) : Prop where
  at' : ∃ f, atF L k = some f ∧ f.bk = home
  fi : ∃ be, findBk c.l home = some be
  ok : ChOk c
  s : c.slots = 13
  md : 0 ≤ c.made ∧ c.made ≤ (n : Int) + 1
def firstS : List Bk := [⟨1, 1, 1⟩, ⟨2, 2, 2⟩, ⟨3, 3, 1⟩]
def chS : ChD := ⟨13, firstS, tableM firstS 13, 1⟩
def zC23 : Array Value := #[.int .i64 0, .int .i64 0, .int .i64 0, .int .u32 0, .int .u32 0, .int .i64 0, .int .i64 0, .int .i64 0, .slice none 0 0, .int .i64 0, .slice none 0 0, .slice none 0 0]
theorem c23V_one {c : Call23} {ab al ao : Option Addr} {cb cl co : Nat} : (c23V c ab cb al cl ao co).toArray.all (·.oneCell') = true := by simp [c23V, Value.oneCell']
theorem range_old23 {w0 w : World} {R : List Asrt} (h : Own w0 w R) {b o : Nat} {cs : List Value} (hc : ∀ j u, cs[j]? = some u → w0.cell? ⟨b, o + j, none⟩ = some u) : w.rangeAt b o cs := fun j u hu => cell_old h (hc j u hu)
theorem range_at {w : World} {b : Nat} {C : Array Value} {T : TypeId} (h : w.heap[b]? = some (.cells C T (0, 0))) : w.rangeAt b 0 C.toList := fun j u hu => by
  rw [Nat.zero_add]; exact cell_of h (by rw [← Array.getElem?_toList]; exact hu)
section
variable {F0 : List Nat} {w0 w : World} {R : List Asrt}
theorem c23_box (h : In F0 w0 w R) (c : Call23) (ab : Option Addr) (cb : Nat) (al : Option Addr) (cl : Nat) (ao : Option Addr) (co : Nat) : (w.alloc (.cells zC23 65)).there w.heap.size 0 12 ∧ In F0 w0 ((w.alloc (.cells zC23 65)).setCells w.heap.size 0 (c23V c ab cb al cl ao co).toArray.toList) (Cells w.heap.size (c23V c ab cb al cl ao co).toArray 65 :: R) := by
  have g1 := h.cells zC23 65
  exact ⟨there_of (g1.block 0 rfl), g1.setFull 0 rfl (xs := c23V c ab cb al cl ao co) (b := w.heap.size) (C := zC23) (T := 65) rfl⟩
def StRel (n : Nat) (k : Tup) (home : Int) (bt cb gt : Nat) (w : World) (vi : Value) (wr : World) : Prop := ∃ (i : Nat) (L : List Fl) (c : ChD) (vl vt : Value), vi = .int .i64 i ∧ i ≤ n ∧ i ≤ 40 ∧ StInv k home i L c ∧ In [] w wr (FA bt 8 1000 L :: ChL cb c vl vt (Cells gt (encT k) 24 :: []))
def StMid (k : Tup) (home : Int) (m : Nat) (bt cb gt : Nat) (w : World) (wr : World) : Prop := ∃ (L : List Fl) (c : ChD) (vl vt : Value), StInv k home m L c ∧ In [] w wr (FA bt 8 1000 L :: ChL cb c vl vt (Cells gt (encT k) 24 :: []))
end
def condAt (n : Nat) : Code → Option Code
  | .cond c a b => match c with
    | .tmp t => match Nat.beq t n with
      | true => some (.cond (.tmp t) a b)
      | false => match condAt n a with
        | some c => some c
        | none => condAt n b
    | _ => match condAt n a with
      | some c => some c
      | none => condAt n b
  | .seq a b => match condAt n a with
    | some c => some c
    | none => condAt n b
  | .block _ c => condAt n c
  | .loop c => condAt n c
  | .scope c => condAt n c
  | _ => none
def regAt (n : Nat) : Code → Option Code
  | .region m os d => match Nat.beq m n with
    | true => some (.region m os d)
    | false => none
  | .cond _ a b => match regAt n a with
    | some c => some c
    | none => regAt n b
  | .seq a b => match regAt n a with
    | some c => some c
    | none => regAt n b
  | .block _ c => regAt n c
  | .loop c => regAt n c
  | .scope c => regAt n c
  | _ => none
noncomputable def stC81 : Code := (Tryz.f5.body.bind (condAt 81)).getD .skip
noncomputable def stR7 : Code := (Tryz.f5.body.bind (regAt 7)).getD .skip
noncomputable def stR31 : Code := (Tryz.f5.body.bind (regAt 31)).getD .skip
def nthV : List Value → Nat → Value
  | [], _ => .tuple #[]
  | v :: _, 0 => v
  | _ :: l, n + 1 => nthV l n
theorem meet_f {J : Act → World → Prop} {X : (Nat → Value) → World → Prop} {fr : (Nat → Value) → Act} (hJ : ∀ a' w', (∃ f, X f w' ∧ a' = fr f) → J a' w') {l : List Value} {w : World} (h : X (nthV l) w) (e : (⟨l.toArray, []⟩ : Act) = fr (nthV l)) : Met J ⟨l.toArray, []⟩ w := hJ _ _ ⟨_, h, e⟩
theorem In.closeR {F0 : List Nat} {w0 w : World} {R : List Asrt} {bt : Nat} {most wait : Int} {v : Value} {L : List Fl} (h : In F0 w0 w (RFr bt most wait v L ++ R)) : In F0 w0 w (RFA bt most wait L :: R) :=
  (In.join (A1 := RFr bt most wait v L) h).imp 0 rfl (RFA.framed _ _ _ _) (fun F hs => ⟨v, hs⟩)
structure PlInv (n : Nat) (c : ChD) : Prop where
  ok : ChOk c
  s : c.slots = 13
  ids : ∀ b ∈ c.l, 0 ≤ b.id
  md : 0 ≤ c.made ∧ c.made ≤ (n : Int)
theorem PlInv.new : PlInv 0 (newCh 13) := ⟨chOk_new, rfl, fun b hb => by simp [newCh] at hb, by decide, by decide⟩
theorem PlInv.more {n : Nat} {c : ChD} (h : PlInv n c) : PlInv (n + 1) c := ⟨h.ok, h.s, h.ids, h.md.1, by have := h.md; push_cast; omega⟩
theorem PlInv.set {n : Nat} {c : ChD} (h : PlInv n c) (l : List Bk) (hl : l.length ≤ 1000) (hw : ∀ x ∈ l, 0 ≤ x.addr ∧ x.addr < 4294967296) (q : Int → Bool) : PlInv (n + 1) (setCh c l q).1 := by
  unfold setCh
  split
  · rename_i hg
    refine ⟨⟨by show 1 ≤ c.slots ∧ c.slots ≤ 251; rw [h.s]; decide, tableM_length _ _, by show l.length ≤ 1000000; omega, hw⟩, h.s, fun b hb => ?_, by show (0 : Int) ≤ c.made + 1; have := h.md; omega, by show c.made + 1 ≤ _; have := h.md; push_cast; omega⟩
    unfold gensMay at hg
    simp only [Bool.and_eq_true, List.all_eq_true] at hg
    have := hg.2.1 b hb
    unfold mayBk at this
    simp only [Bool.and_eq_true, decide_eq_true_eq] at this
    exact this.1.1
  · exact h.more
noncomputable def plR12 : Code := (Tryz.f4.body.bind (regAt 12)).getD .skip
noncomputable def plR20 : Code := (Tryz.f4.body.bind (regAt 20)).getD .skip
def PlIn (bt cb bt2 cb2 g9 : Nat) (mo mf mt : Int) (M : List Fl) (c : ChD) (w : World) (wr : World) : Prop := ∃ vl vt vl2 vt2, In [] w wr (FA bt mo 20 M :: ChL cb c vl vt (RFA bt2 mo 20 (sortF M) :: RChL cb2 c vl2 vt2 (Cells g9 (cfC 168364297 13 mf 20 mt 200 20000 3) 46 :: [])))
theorem pl_set {w w1 : World} {bt cb bt2 cb2 g9 : Nat} {mo mf mt : Int} {M : List Fl} {c : ChD} {x : Call23} {ab al ao : Option Addr} {nb nl no gx : Nat} {vl vt vl2 vt2 : Value} (harg : ArgBy w (.slice ab x.body.length nb) x.body ∧ ArgBks w (.slice al x.l.length nl) x.l ∧ ArgIs w (.slice ao x.out.length no) x.out ∧ Wf23 x) (hi : PlInv 1000 c) (hq : x.l.length ≤ 40 ∧ x.out.length ≤ 20) (h : In [] w w1 (Cells gx (c23V x ab nb al nl ao no).toArray 65 :: FA bt mo 20 M :: ChL cb c vl vt (RFA bt2 mo 20 (sortF M) :: RChL cb2 c vl2 vt2 (Cells g9 (cfC 168364297 13 mf 20 mt 200 20000 3) 46 :: []))))
    {z0 z1 z2 z3 z4 z5 z6 z7 z8 z9 z10 z11 z14 z16 z17 z18 z19 z20 z21 z22 z23 z24 z25 z26 z27 z28 z29 z30 z31 z32 z33 z34 z35 z36 z37 z38 z39 z40 z41 z42 z43 z44 z45 z46 z47 z48 z49 z50 z51 z52 z53 z54 z55 z56 z57 z58 z59 z60 z61 z62 z63 z64 z65 z66 z67 z68 z69 z70 z71 z72 z73 z74 z75 z76 z77 z78 z79 z80 z81 z82 z83 z84 z85 z86 z87 z88 z89 z90 z91 z92 z93 z94 z95 z96 z97 z98 z99 z100 z101 z102 z103 z104 z105 z106 z107 z108 z109 z110 z111 z112 z113 z114 z115 z116 z117 z118 z119 z120 z121 z122 z123 z124 z125 z126 z127 z128 z129 z130 z131 z132 z133 z134 z135 z136 z137 z138 z139 z140 z141 z142 : Value} {Q : Exit → Act → World → Prop} (hpan : ∀ ch a' d v w', Q (.panic ch) (Act.put a' (some d) v) w' → Q (.panic ch) a' w')
    (hK : ∀ (f : Nat → Value) (wz : World), (PlIn bt cb bt2 cb2 g9 mo mf mt M (setCh c x.l (outQ x.out)).1 w wz) → Q .normal ⟨#[z0, z1, z2, z3, z4, z5, z6, z7, z8, z9, z10, z11, pC cb, pC cb2, z14, .pointer (some ⟨gx, 0, none⟩), z16, z17, z18, z19, z20, z21, z22, z23, z24, z25, z26, z27, z28, z29, z30, z31, z32, z33, z34, z35, z36, z37, z38, z39, z40, z41, z42, z43, z44, z45, z46, z47, z48, z49, z50, z51, z52, z53, z54, z55, z56, z57, z58, z59, z60, z61, z62, z63, z64, z65, z66, z67, z68, z69, z70, f 71, f 72, f 73, f 74, f 75, f 76, f 77, f 78, f 79, f 80, f 81, f 82, f 83, .bool false, z85, z86, z87, z88, z89, z90, z91, z92, z93, z94, z95, z96, z97, z98, z99, z100, z101, z102, z103, z104, z105, z106, z107, z108, z109, z110, z111, z112, z113, z114, z115, z116, z117, z118, z119, z120, z121, z122, z123, z124, z125, z126, z127, z128, z129, z130, z131, z132, z133, z134, z135, z136, z137, z138, z139, z140, z141, z142], []⟩ wz) :
    Code.wp Tryz.prog plR12 Q ⟨#[z0, z1, z2, z3, z4, z5, z6, z7, z8, z9, z10, z11, pC cb, pC cb2, z14, .pointer (some ⟨gx, 0, none⟩), z16, z17, z18, z19, z20, z21, z22, z23, z24, z25, z26, z27, z28, z29, z30, z31, z32, z33, z34, z35, z36, z37, z38, z39, z40, z41, z42, z43, z44, z45, z46, z47, z48, z49, z50, z51, z52, z53, z54, z55, z56, z57, z58, z59, z60, z61, z62, z63, z64, z65, z66, z67, z68, z69, z70, z71, z72, z73, z74, z75, z76, z77, z78, z79, z80, z81, z82, z83, z84, z85, z86, z87, z88, z89, z90, z91, z92, z93, z94, z95, z96, z97, z98, z99, z100, z101, z102, z103, z104, z105, z106, z107, z108, z109, z110, z111, z112, z113, z114, z115, z116, z117, z118, z119, z120, z121, z122, z123, z124, z125, z126, z127, z128, z129, z130, z131, z132, z133, z134, z135, z136, z137, z138, z139, z140, z141, z142], []⟩ w1 := by
  refine wp_piece (fun a' w' => ∃ f : Nat → Value, (PlIn bt cb bt2 cb2 g9 mo mf mt M (setCh c x.l (outQ x.out)).1 w w') ∧ a' = (⟨#[z0, z1, z2, z3, z4, z5, z6, z7, z8, z9, z10, z11, pC cb, pC cb2, z14, .pointer (some ⟨gx, 0, none⟩), z16, z17, z18, z19, z20, z21, z22, z23, z24, z25, z26, z27, z28, z29, z30, z31, z32, z33, z34, z35, z36, z37, z38, z39, z40, z41, z42, z43, z44, z45, z46, z47, z48, z49, z50, z51, z52, z53, z54, z55, z56, z57, z58, z59, z60, z61, z62, z63, z64, z65, z66, z67, z68, z69, z70, f 71, f 72, f 73, f 74, f 75, f 76, f 77, f 78, f 79, f 80, f 81, f 82, f 83, .bool false, z85, z86, z87, z88, z89, z90, z91, z92, z93, z94, z95, z96, z97, z98, z99, z100, z101, z102, z103, z104, z105, z106, z107, z108, z109, z110, z111, z112, z113, z114, z115, z116, z117, z118, z119, z120, z121, z122, z123, z124, z125, z126, z127, z128, z129, z130, z131, z132, z133, z134, z135, z136, z137, z138, z139, z140, z141, z142], []⟩ : Act)) (fun a' w' hc => ?_) ?_
  · obtain ⟨f, hc, rfl⟩ := hc
    exact hK f w' hc
  intro J K' hJ hM
  clear hK
  obtain ⟨a1, c1, e1, s1, _, _, n1⟩ := harg.2.1.ex
  obtain ⟨a2, c2, e2, s2, _, _, _⟩ := harg.2.2.1.ex
  rw [Value.slice.injEq] at e1 e2
  obtain ⟨rfl, -, rfl⟩ := e1
  obtain ⟨rfl, -, rfl⟩ := e2
  have HINT : ∀ (R' : List Asrt) W, In [] w W R' → Src W ao x.out.length 1 (intV x.out) := fun R' W hW => s2.old hW
  have hbk : ∀ R', BksAt [] w R' al x.l := fun R' W hW => s1.old hW
  have hd := h.drewN 1
  have HD : Hid (In [] w w1.drew (Cells gx (c23V x ab nb al nl ao no).toArray 65 :: FA bt mo 20 M :: ChL cb c vl vt (RFA bt2 mo 20 (sortF M) :: RChL cb2 c vl2 vt2 (Cells g9 (cfC 168364297 13 mf 20 mt 200 20000 3) 46 :: [])))) := Lib.hid hd
  have K7 := Lib.hid (fun W (R' : List Asrt) (h' : In [] w W R') => o_gone ao x.out.length no h')
  have K8 := Lib.hid (fun W gg (R' : List Asrt) (h' : In [] w W (ChL cb c vl vt (Cells gg #[.slice ao x.out.length no] 63 :: R'))) => o_chsetF (fv := .func (.func 48) #[] #[.pointer (some ⟨gg, 0, none⟩)]) (q := outQ x.out) (outF_of (HINT _) (by omega)) (n := nl) (by rw [hi.s]; exact may13) (by rw [hi.s]; exact cov13) (by have := hi.md; omega) (hbk _) n1 (by omega) h')
  have K9 := Lib.hid (fun W (R' : List Asrt) (h' : In [] w W (RChL cb2 c vl2 vt2 R')) => o_r10chset (n := nl) (no := no) (by rw [hi.s]; exact may13) (by rw [hi.s]; exact cov13) (by have := hi.md; omega) (hbk R') (by omega) HINT (by omega) h')
  clear h hd harg hi hq s1 s2 n1 HINT hbk
  generalize hsc : (setCh c x.l (outQ x.out)) = sc at *
  obtain ⟨c9, er⟩ := sc
  conv => arg 2; whnf
  refine e_start (fun w' => w'.cell? ⟨gx, 10, none⟩ = some (.slice al x.l.length nl) ∧ w'.cell? ⟨gx, 11, none⟩ = some (.slice ao x.out.length no)) (by kernel_rfl) ⟨cell_of (HD.out.block 0 rfl) rfl, cell_of (HD.out.block 0 rfl) rfl⟩ (fun hS => ?_)
  generalize w1.drew = VD at *
  refine e_take (i := 0) (v := ?_) rfl (by kernel_rfl) (fun _ _ _ h => hpan _ _ _ _ _ h) (by rfl) ?_ hS ?_
  rotate_left
  · (intro w hSw; (try dsimp only at hSw); go_simp; try with_reducible rfl)
  try simp only [Act.put, List.setIfInBounds_toArray, List.set_cons_zero, List.set_cons_succ]
  refine e_take (i := 1) (v := ?_) rfl (by kernel_rfl) (fun _ _ _ h => hpan _ _ _ _ _ h) (by rfl) ?_ hS ?_
  rotate_left
  · (intro w hSw; (try dsimp only at hSw); go_simp; try with_reducible rfl)
  try simp only [Act.put, List.setIfInBounds_toArray, List.set_cons_zero, List.set_cons_succ]
  refine e_take (i := 2) (v := ?_) rfl (by kernel_rfl) (fun _ _ _ h => hpan _ _ _ _ _ h) (by rfl) ?_ hS ?_
  rotate_left
  · (intro w hSw; (try dsimp only at hSw); go_simp; try with_reducible rfl)
  try simp only [Act.put, List.setIfInBounds_toArray, List.set_cons_zero, List.set_cons_succ]
  refine e_take (i := 3) (v := ?_) rfl (by kernel_rfl) (fun _ _ _ h => hpan _ _ _ _ _ h) (by rfl) ?_ hS ?_
  rotate_left
  · (intro w hSw; (try dsimp only at hSw); go_simp; try with_reducible rfl)
  try simp only [Act.put, List.setIfInBounds_toArray, List.set_cons_zero, List.set_cons_succ]
  refine e_take (i := 4) (v := ?_) rfl (by kernel_rfl) (fun _ _ _ h => hpan _ _ _ _ _ h) (by rfl) ?_ hS ?_
  rotate_left
  · (intro w hSw; (try dsimp only at hSw); go_simp; try with_reducible rfl)
  try simp only [Act.put, List.setIfInBounds_toArray, List.set_cons_zero, List.set_cons_succ]
  refine e_take (i := 7) (v := ?_) rfl (by kernel_rfl) (fun _ _ _ h => hpan _ _ _ _ _ h) (by rfl) ?_ hS ?_
  rotate_left
  · (intro w hSw; (try dsimp only at hSw); go_simp; try with_reducible rfl)
  try simp only [Act.put, List.setIfInBounds_toArray, List.set_cons_zero, List.set_cons_succ]
  refine e_take (i := 8) (v := ?_) rfl (by kernel_rfl) (fun _ _ _ h => hpan _ _ _ _ _ h) (by rfl) ?_ hS ?_
  rotate_left
  · (intro w hSw; (try dsimp only at hSw); go_simp; try with_reducible rfl)
  try simp only [Act.put, List.setIfInBounds_toArray, List.set_cons_zero, List.set_cons_succ]
  refine e_take (i := 9) (v := ?_) rfl (by kernel_rfl) (fun _ _ _ h => hpan _ _ _ _ _ h) (by rfl) ?_ hS ?_
  rotate_left
  · (intro w hSw; (try dsimp only at hSw); go_simp; try with_reducible rfl)
  try simp only [Act.put, List.setIfInBounds_toArray, List.set_cons_zero, List.set_cons_succ]
  refine e_take (i := 10) (v := ?_) rfl (by kernel_rfl) (fun _ _ _ h => hpan _ _ _ _ _ h) (by rfl) ?_ hS ?_
  rotate_left
  · (intro w hSw; (try dsimp only at hSw); go_simp; try with_reducible rfl)
  try simp only [Act.put, List.setIfInBounds_toArray, List.set_cons_zero, List.set_cons_succ]
  refine e_take (i := 11) (v := ?_) rfl (by kernel_rfl) (fun _ _ _ h => hpan _ _ _ _ _ h) (by rfl) ?_ hS ?_
  rotate_left
  · (intro w hSw; (try dsimp only at hSw); go_simp; try with_reducible rfl)
  try simp only [Act.put, List.setIfInBounds_toArray, List.set_cons_zero, List.set_cons_succ]
  refine e_pin (i := 5) rfl (by kernel_rfl) (fun K' hK => ?_)
  go_simp
  go_at_call 20
  refine (K7.out _ _ HD.out).mono ?_
  rintro e w2 ⟨gg, rfl, ho⟩
  have H8 : Hid (In [] w w2 (ChL cb c vl vt (Cells gg #[.slice ao x.out.length no] 63 :: Cells gx (c23V x ab nb al nl ao no).toArray 65 :: FA bt mo 20 M :: RFA bt2 mo 20 (sortF M) :: RChL cb2 c vl2 vt2 (Cells g9 (cfC 168364297 13 mf 20 mt 200 20000 3) 46 :: [])))) := Lib.hid (ho.sel2 (R1 := [_, _, _, _, _, _, _, _, _, _, _]) (R2 := []) [3, 4, 5, 0, 1, 2, 6, 7, 8, 9, 10] (by decide) rfl)
  refine hK.out _ _ ⟨cell_of (H8.out.block 4 rfl) rfl, cell_of (H8.out.block 4 rfl) rfl⟩ (fun hS => ?_)
  clear hK K' ho HD
  try simp only [Act.put, List.setIfInBounds_toArray, List.set_cons_zero, List.set_cons_succ]
  refine e_pin (i := 6) rfl (by kernel_rfl) (fun K' hK => ?_)
  go_simp
  go_at_call 11
  refine (K8.out _ _ _ H8.out).mono ?_
  rintro e w3 ⟨vl9, vt9, rfl, ho⟩
  have H9 : Hid (In [] w w3 (RChL cb2 c vl2 vt2 (ChL cb c9 vl9 vt9 (Cells gg #[.slice ao x.out.length no] 63 :: Cells gx (c23V x ab nb al nl ao no).toArray 65 :: FA bt mo 20 M :: RFA bt2 mo 20 (sortF M) :: Cells g9 (cfC 168364297 13 mf 20 mt 200 20000 3) 46 :: [])))) := Lib.hid (ho.sel2 (R1 := [_, _, _, _, _, _, _, _, _, _, _]) (R2 := []) [7, 8, 9, 0, 1, 2, 3, 4, 5, 6, 10] (by decide) rfl)
  refine hK.out _ _ ⟨cell_of (H9.out.block 7 rfl) rfl, cell_of (H9.out.block 7 rfl) rfl⟩ (fun hS => ?_)
  clear hK K' ho H8
  try simp only [Act.put, List.setIfInBounds_toArray, List.set_cons_zero, List.set_cons_succ]
  refine e_pin (i := 12) rfl (by kernel_rfl) (fun K' hK => ?_)
  go_simp
  go_at_call 21
  have KX := K9.out _ _ H9.out
  refine KX.mono ?_
  rintro e w4 ⟨vl8, vt8, rfl, ho⟩
  have HF : Hid (PlIn bt cb bt2 cb2 g9 mo mf mt M c9 w w4) := Lib.hid ⟨vl9, vt9, vl8, vt8, ho.sel2 (R1 := [_, _, _, _, _, _, _, _, _, _, _]) (R2 := []) [8, 3, 4, 5, 9, 0, 1, 2, 10] (by decide) rfl⟩
  refine hK.out _ _ ⟨cell_of (ho.block 7 rfl) rfl, cell_of (ho.block 7 rfl) rfl⟩ (fun hS => ?_)
  clear hK K' ho H9 KX
  try simp only [Act.put, List.setIfInBounds_toArray, List.set_cons_zero, List.set_cons_succ]
  have hee : (er != er) = false := by simp
  refine e_last (i := 13) rfl (by kernel_rfl) (fun K' hK => ?_)
  go_simp
  refine hK.out _ _ ?_
  clear hK K' hS hee K7 K8 K9
  go_wp2_with fail
  refine meet_f hJ ?_ (by kernel_rfl)
  exact HF.out
end Go.Proofs.YtgapbecddgfkmaaGreat
