/- Rows.PathStaysSaid -/
import Derived.Test.YtgapbecddgfkmaaGreatPS29
import Derived.Deep.DeepCutAuto
import Derived.Deep.CutBlock
import Derived.Test.YtgapbecddgfkmaaGreatPS30
import Derived.Test.YtgapbecddgfkmaaGreatPS31
import Derived.Test.YtgapbecddgfkmaaGreatPS8
namespace Go.Proofs.YtgapbecddgfkmaaGreat
open Go.RowKit
open Go.RowKit Go.ChangeShapes Go.WideShapes Go.Deep
set_option linter.unusedVariables false
set_option maxHeartbeats 64000000
set_option maxRecDepth 100000
theorem stays_r31 {w wd : World} {k0 k1 k2 k3 k4 home : Int} {bt cb gt : Nat} {L L' : List Fl} {c : ChD} {vl vt : Value} {pk : List UInt8} {rc : List Rec} (wk : WfT ⟨k0, k1, k2, k3, k4⟩) (hok : ChOk c) (hpk : pktD 168364297 1500 8 L c 1 0 (madeD ⟨k0, k1, k2, k3, k4⟩ 9 0 []) = (⟨2, 0, home, pk, rc⟩, L')) (h : In [] w wd (FA bt 8 1000 L :: ChL cb c vl vt (Cells gt #[.int .u32 k0, .int .u32 k1, .int .i64 k2, .int .i64 k3, .int .i64 k4] 24 :: [])))
    {z0 z1 z3 z4 z7 z8 z9 z10 z11 z12 z13 z14 z15 z16 z17 z18 z19 z20 z21 z22 z23 z24 z25 z26 z27 z28 z29 z30 z31 z32 z33 z34 z35 z36 z37 z38 z39 z40 z41 z42 z43 z44 z45 z46 z47 z48 z49 z50 z51 z52 z53 z54 z55 z56 z57 z58 z59 z60 z61 z62 z63 z64 z65 z66 z67 z68 z69 z70 z71 z72 z73 z74 z75 z76 z77 z78 z79 z80 z81 z82 z83 z84 z85 z86 z87 z88 z89 z90 z91 z92 z93 z94 z95 z96 z97 z98 z99 z100 z101 z102 z103 z104 z105 z106 z107 z108 z109 z110 z111 z112 z113 z114 z115 z116 z117 z118 z119 z120 z121 z122 z123 z124 z125 z126 z127 z128 z129 z130 z131 z132 z133 z134 z135 z136 z137 z138 z139 z140 z141 z142 z143 z144 z145 z146 z147 z148 z149 z150 z151 z152 z153 z154 z155 z156 z157 z158 z159 z160 z161 z162 z163 z164 z165 z166 z167 z168 z169 z170 z171 z172 z173 z174 z175 z176 z177 z178 z179 z180 z181 z182 z183 z184 z185 : Value} {K : Act → World → Prop} {Q' : Exit → Act → World → Prop} (hpan : ∀ ch a' d v w', Q' (.panic ch) (Act.put a' (some d) v) w' → Q' (.panic ch) a' w')
    (hK : ∀ (f : Nat → Value) (g8 : Nat) (vp vr : Value) (wz : World), In [] w wz (Cells g8 (plC 2 0 home vp vr) 43 :: ByR vp pk :: RecR vr rc :: FA bt 8 1000 L' :: ChL cb c vl vt (Cells gt #[.int .u32 k0, .int .u32 k1, .int .i64 k2, .int .i64 k3, .int .i64 k4] 24 :: [])) → K ⟨#[z0, z1, .pointer (some ⟨gt, 0, none⟩), z3, z4, .pointer (some ⟨bt, 0, none⟩), pC cb, z7, z8, z9, z10, z11, z12, f 13, z14, z15, z16, z17, z18, f 19, z20, .pointer (some ⟨g8, 0, none⟩), z22, z23, z24, z25, z26, z27, z28, z29, z30, z31, z32, z33, z34, z35, z36, z37, z38, z39, z40, z41, z42, z43, z44, z45, z46, z47, z48, f 49, f 50, f 51, f 52, f 53, f 54, f 55, f 56, f 57, f 58, f 59, f 60, f 61, f 62, f 63, f 64, f 65, f 66, f 67, f 68, f 69, f 70, f 71, f 72, f 73, f 74, f 75, f 76, f 77, f 78, f 79, f 80, f 81, f 82, f 83, f 84, f 85, f 86, f 87, f 88, f 89, f 90, f 91, f 92, f 93, f 94, f 95, f 96, f 97, f 98, f 99, f 100, f 101, f 102, f 103, f 104, f 105, f 106, f 107, f 108, f 109, f 110, f 111, f 112, f 113, f 114, f 115, f 116, f 117, f 118, f 119, f 120, f 121, f 122, f 123, f 124, f 125, f 126, f 127, f 128, f 129, f 130, f 131, f 132, f 133, f 134, f 135, f 136, f 137, f 138, f 139, f 140, f 141, f 142, f 143, f 144, f 145, f 146, f 147, f 148, f 149, f 150, f 151, f 152, f 153, f 154, f 155, f 156, f 157, f 158, f 159, f 160, f 161, f 162, f 163, f 164, f 165, f 166, f 167, f 168, f 169, f 170, f 171, f 172, f 173, f 174, f 175, f 176, f 177, f 178, f 179, f 180, f 181, f 182, f 183, f 184, z185], []⟩ wz) :
    Code.wp Tryz.prog stR31 (Exit.then K Q') ⟨#[z0, z1, .pointer (some ⟨gt, 0, none⟩), z3, z4, .pointer (some ⟨bt, 0, none⟩), pC cb, z7, z8, z9, z10, z11, z12, z13, z14, z15, z16, z17, z18, z19, z20, z21, z22, z23, z24, z25, z26, z27, z28, z29, z30, z31, z32, z33, z34, z35, z36, z37, z38, z39, z40, z41, z42, z43, z44, z45, z46, z47, z48, z49, z50, z51, z52, z53, z54, z55, z56, z57, z58, z59, z60, z61, z62, z63, z64, z65, z66, z67, z68, z69, z70, z71, z72, z73, z74, z75, z76, z77, z78, z79, z80, z81, z82, z83, z84, z85, z86, z87, z88, z89, z90, z91, z92, z93, z94, z95, z96, z97, z98, z99, z100, z101, z102, z103, z104, z105, z106, z107, z108, z109, z110, z111, z112, z113, z114, z115, z116, z117, z118, z119, z120, z121, z122, z123, z124, z125, z126, z127, z128, z129, z130, z131, z132, z133, z134, z135, z136, z137, z138, z139, z140, z141, z142, z143, z144, z145, z146, z147, z148, z149, z150, z151, z152, z153, z154, z155, z156, z157, z158, z159, z160, z161, z162, z163, z164, z165, z166, z167, z168, z169, z170, z171, z172, z173, z174, z175, z176, z177, z178, z179, z180, z181, z182, z183, z184, z185], []⟩ wd := by
  refine wp_cut (fun a' w' => ∃ (f : Nat → Value), (∃ g8 vp vr, f 21 = .pointer (some ⟨g8, 0, none⟩) ∧ In [] w w' (Cells g8 (plC 2 0 home vp vr) 43 :: ByR vp pk :: RecR vr rc :: FA bt 8 1000 L' :: ChL cb c vl vt (Cells gt #[.int .u32 k0, .int .u32 k1, .int .i64 k2, .int .i64 k3, .int .i64 k4] 24 :: []))) ∧ a' = (⟨#[z0, z1, .pointer (some ⟨gt, 0, none⟩), z3, z4, .pointer (some ⟨bt, 0, none⟩), pC cb, z7, z8, z9, z10, z11, z12, f 13, z14, z15, z16, z17, z18, f 19, z20, f 21, z22, z23, z24, z25, z26, z27, z28, z29, z30, z31, z32, z33, z34, z35, z36, z37, z38, z39, z40, z41, z42, z43, z44, z45, z46, z47, z48, f 49, f 50, f 51, f 52, f 53, f 54, f 55, f 56, f 57, f 58, f 59, f 60, f 61, f 62, f 63, f 64, f 65, f 66, f 67, f 68, f 69, f 70, f 71, f 72, f 73, f 74, f 75, f 76, f 77, f 78, f 79, f 80, f 81, f 82, f 83, f 84, f 85, f 86, f 87, f 88, f 89, f 90, f 91, f 92, f 93, f 94, f 95, f 96, f 97, f 98, f 99, f 100, f 101, f 102, f 103, f 104, f 105, f 106, f 107, f 108, f 109, f 110, f 111, f 112, f 113, f 114, f 115, f 116, f 117, f 118, f 119, f 120, f 121, f 122, f 123, f 124, f 125, f 126, f 127, f 128, f 129, f 130, f 131, f 132, f 133, f 134, f 135, f 136, f 137, f 138, f 139, f 140, f 141, f 142, f 143, f 144, f 145, f 146, f 147, f 148, f 149, f 150, f 151, f 152, f 153, f 154, f 155, f 156, f 157, f 158, f 159, f 160, f 161, f 162, f 163, f 164, f 165, f 166, f 167, f 168, f 169, f 170, f 171, f 172, f 173, f 174, f 175, f 176, f 177, f 178, f 179, f 180, f 181, f 182, f 183, f 184, z185], []⟩ : Act)) (fun a' w' hc => ?_) ?_
  · obtain ⟨f, ⟨g8, vp, vr, e, hc⟩, rfl⟩ := hc
    rw [e]
    exact hK f g8 vp vr w' hc
  intro J K' hJ hM
  clear hK
  have KC := Lib.hid (fun w' (R' : List Asrt) (h' : In [] w w' R') => o_config 8 h')
  have hml : (madeD ⟨k0, k1, k2, k3, k4⟩ 9 0 []).length ≤ 100000000 := by
    unfold madeD
    rw [List.length_append, buildD_length, innerL_length]
    split <;> simp
  have KM0 := fun w' (R' : List Asrt) (h' : In [] w w' R') => o_made h' wk 9 0 (A := none) (c := 0) (body := []) bytes_nil (by decide)
  have KP0 := fun w' (R' : List Asrt) a n (h' : In [] w w' (ByR (.slice a (madeD ⟨k0, k1, k2, k3, k4⟩ 9 0 []).length n) (madeD ⟨k0, k1, k2, k3, k4⟩ 9 0 []) :: FA bt 8 1000 L :: ChL cb c vl vt R')) => o_pktown (self := 168364297) (sl := 13) (fl := 8) (idle0 := 20) (mtu := 1500) (sg := 200) (qu := 20000) (ve := 3) (by decide) hok (gen := 1) (now := 0) hml h'
  rw [hpk] at KP0
  clear hpk
  generalize madeD ⟨k0, k1, k2, k3, k4⟩ 9 0 [] = m at *
  have KM := Lib.hid KM0
  have KP := Lib.hid KP0
  have HD := Lib.hid (h.drewN 1)
  have HD : Hid (In [] w wd.drew (FA bt 8 1000 L :: ChL cb c vl vt (Cells gt #[.int .u32 k0, .int .u32 k1, .int .i64 k2, .int .i64 k3, .int .i64 k4] 24 :: []))) := HD
  clear KM0 KP0 h hok wk hml
  conv => arg 2; whnf
  refine e_start (fun w' => w'.cell? ⟨gt, 0, none⟩ = some (.int .u32 k0) ∧ w'.cell? ⟨gt, 1, none⟩ = some (.int .u32 k1) ∧ w'.cell? ⟨gt, 2, none⟩ = some (.int .i64 k2) ∧ w'.cell? ⟨gt, 3, none⟩ = some (.int .i64 k3) ∧ w'.cell? ⟨gt, 4, none⟩ = some (.int .i64 k4)) (by kernel_rfl) ⟨cell_of (HD.out.block 4 rfl) rfl, cell_of (HD.out.block 4 rfl) rfl, cell_of (HD.out.block 4 rfl) rfl, cell_of (HD.out.block 4 rfl) rfl, cell_of (HD.out.block 4 rfl) rfl⟩ (fun hS => ?_)
  generalize wd.drew = VD at *
  refine e_take (i := 1) (v := ?_) rfl (by kernel_rfl) (fun _ _ _ h => hpan _ _ _ _ _ h) (by rfl) ?_ hS ?_
  rotate_left
  · (intro w hSw; (try dsimp only at hSw); go_simp; try with_reducible rfl)
  try simp only [Act.put, List.setIfInBounds_toArray, List.set_cons_zero, List.set_cons_succ]
  refine e_take (i := 2) (v := ?_) rfl (by kernel_rfl) (fun _ _ _ h => hpan _ _ _ _ _ h) (by rfl) ?_ hS ?_
  rotate_left
  · (intro w hSw; (try dsimp only at hSw); go_simp; try with_reducible rfl)
  try simp only [Act.put, List.setIfInBounds_toArray, List.set_cons_zero, List.set_cons_succ]
  refine e_take (i := 3) (v := ?_) rfl (by kernel_rfl) (fun _ _ _ h => hpan _ _ _ _ _ h) (by rfl) ?_ hS ?_
  rotate_left
  · (intro w hSw; (try dsimp only at hSw); go_simp; try with_reducible rfl)
  try simp only [Act.put, List.setIfInBounds_toArray, List.set_cons_zero, List.set_cons_succ]
  refine e_two (i := 0) (j := 6) rfl rfl (by kernel_rfl) (fun K' hK => ?_) (fun K' hK => ?_)
  · go_simp
    go_at_call 13
    refine (KC.out _ _ HD.out).mono ?_
    rintro e u1 ⟨rfl, hN1⟩
    have HU1 : Hid (In [] w u1 (FA bt 8 1000 L :: ChL cb c vl vt (Cells gt #[.int .u32 k0, .int .u32 k1, .int .i64 k2, .int .i64 k3, .int .i64 k4] 24 :: []))) := Lib.hid hN1
    clear hN1
    refine hK.out _ _ ⟨cell_of (HU1.out.block 4 rfl) rfl, cell_of (HU1.out.block 4 rfl) rfl, cell_of (HU1.out.block 4 rfl) rfl, cell_of (HU1.out.block 4 rfl) rfl, cell_of (HU1.out.block 4 rfl) rfl⟩ (fun hS => ?_)
    clear hK K'
    try simp only [Act.put, List.setIfInBounds_toArray, List.set_cons_zero, List.set_cons_succ]
    refine e_two (i := 4) (j := 6) rfl rfl (by kernel_rfl) (fun K' hK => ?_) (fun K' hK => ?_)
    · go_simp
      go_at_call 10
      refine (KM.out _ _ HU1.out).mono ?_
      rintro e u2 ⟨vM, rfl, hN2⟩
      obtain ⟨aM, nM, rfl⟩ := ByR.shape hN2
      have HU2 : Hid (In [] w u2 (ByR (.slice aM m.length nM) m :: FA bt 8 1000 L :: ChL cb c vl vt (Cells gt #[.int .u32 k0, .int .u32 k1, .int .i64 k2, .int .i64 k3, .int .i64 k4] 24 :: []))) := Lib.hid hN2
      clear hN2
      refine hK.out _ _ ⟨cell_of (HU2.out.block 5 rfl) rfl, cell_of (HU2.out.block 5 rfl) rfl, cell_of (HU2.out.block 5 rfl) rfl, cell_of (HU2.out.block 5 rfl) rfl, cell_of (HU2.out.block 5 rfl) rfl⟩ (fun hS => ?_)
      clear hK K'
      try simp only [Act.put, List.setIfInBounds_toArray, List.set_cons_zero, List.set_cons_succ]
      refine e_two (i := 5) (j := 6) rfl rfl (by kernel_rfl) (fun K' hK => ?_) (fun K' hK => ?_)
      · go_simp
        go_at_call 12
        refine (KP.out _ _ _ _ HU2.out).mono ?_
        rintro e u3 ⟨vp, vr, rfl, hN3⟩
        obtain ⟨ap, np, rfl⟩ := ByR.shape hN3
        obtain ⟨Fr, rr⟩ := hN3.get 1 rfl
        obtain ⟨ar, nr, rfl, -, -, -⟩ := RowA.shape rr
        have HU3 : Hid (In [] w u3 (ByR (.slice ap pk.length np) pk :: RecR (.slice ar rc.length nr) rc :: FA bt 8 1000 L' :: ChL cb c vl vt (Cells gt #[.int .u32 k0, .int .u32 k1, .int .i64 k2, .int .i64 k3, .int .i64 k4] 24 :: []))) := Lib.hid hN3
        clear hN3 rr
        refine hK.out _ _ ⟨cell_of (HU3.out.block 6 rfl) rfl, cell_of (HU3.out.block 6 rfl) rfl, cell_of (HU3.out.block 6 rfl) rfl, cell_of (HU3.out.block 6 rfl) rfl, cell_of (HU3.out.block 6 rfl) rfl⟩ (fun hS => ?_)
        clear hK K'
        try simp only [Act.put, List.setIfInBounds_toArray, List.set_cons_zero, List.set_cons_succ]
        refine e_pin (i := 6) rfl (by kernel_rfl) (fun K' hK => ?_)
        go_simp
        have hA4 := HU3.out.cells (plC 0 0 0 (.slice none 0 0) (.slice none 0 0)) 43
        generalize u3.heap.size = gA at *
        generalize (u3.alloc (.cells (plC 0 0 0 (.slice none 0 0) (.slice none 0 0)) 43)) = u4 at *
        have HU4 : Hid (In [] w u4 (ByR (.slice ap pk.length np) pk :: RecR (.slice ar rc.length nr) rc :: FA bt 8 1000 L' :: ChL cb c vl vt (Cells gA (plC 0 0 0 (.slice none 0 0) (.slice none 0 0)) 43 :: Cells gt #[.int .u32 k0, .int .u32 k1, .int .i64 k2, .int .i64 k3, .int .i64 k4] 24 :: []))) := Lib.hid (hA4.sel2 (R1 := [_, _, _, _, _, _, _, _]) [1, 2, 3, 4, 5, 6, 0, 7] (by decide) rfl)
        clear hA4
        refine hK.out _ _ ⟨cell_of (HU4.out.block 7 rfl) rfl, cell_of (HU4.out.block 7 rfl) rfl, cell_of (HU4.out.block 7 rfl) rfl, cell_of (HU4.out.block 7 rfl) rfl, cell_of (HU4.out.block 7 rfl) rfl⟩ (fun hS => ?_)
        clear hK K'
        try simp only [Act.put, List.setIfInBounds_toArray, List.set_cons_zero, List.set_cons_succ]
        refine e_last (i := 7) rfl (by kernel_rfl) (fun K' hK => ?_)
        have hF := HU4.out.setFull 6 rfl (xs := (plC 2 0 home (.slice ap pk.length np) (.slice ar rc.length nr)).toList) (b := gA) (C := (plC 0 0 0 (.slice none 0 0) (.slice none 0 0))) (T := 43) rfl
        refine store_step (by rfl) 43 (.tmp 21) (.tmp 167) (by rfl) gA 0 (plC 2 0 home (.slice ap pk.length np) (.slice ar rc.length nr)) (by rfl) (by rfl) (there_of (C := (plC 0 0 0 (.slice none 0 0) (.slice none 0 0))) (T := 43) (HU4.out.block 6 rfl)) (by kernel_rfl) (plC_all _ _ _ _ _ _ _ _ _) ?_
        refine hK.out _ _ ?_
        clear hK K' hS
        go_wp2_with fail
        refine meet_f hJ ?_ (by kernel_rfl)
        exact ⟨gA, _, _, rfl, hF.sel2 (R1 := [_, _, _, _, _, _, _, _]) [6, 0, 1, 2, 3, 4, 5, 7] (by decide) rfl⟩
      · go_simp
        have hA5 := HU2.out.cells (plC 0 0 0 (.slice none 0 0) (.slice none 0 0)) 43
        generalize u2.heap.size = gA at *
        generalize (u2.alloc (.cells (plC 0 0 0 (.slice none 0 0) (.slice none 0 0)) 43)) = u5 at *
        have HU5 : Hid (In [] w u5 (ByR (.slice aM m.length nM) m :: FA bt 8 1000 L :: ChL cb c vl vt (Cells gA (plC 0 0 0 (.slice none 0 0) (.slice none 0 0)) 43 :: Cells gt #[.int .u32 k0, .int .u32 k1, .int .i64 k2, .int .i64 k3, .int .i64 k4] 24 :: []))) := Lib.hid (hA5.sel2 (R1 := [_, _, _, _, _, _, _]) [1, 2, 3, 4, 5, 0, 6] (by decide) rfl)
        clear hA5
        refine hK.out _ _ ⟨cell_of (HU5.out.block 6 rfl) rfl, cell_of (HU5.out.block 6 rfl) rfl, cell_of (HU5.out.block 6 rfl) rfl, cell_of (HU5.out.block 6 rfl) rfl, cell_of (HU5.out.block 6 rfl) rfl⟩ (fun hS => ?_)
        clear hK K'
        try simp only [Act.put, List.setIfInBounds_toArray, List.set_cons_zero, List.set_cons_succ]
        refine e_pin (i := 5) rfl (by kernel_rfl) (fun K' hK => ?_)
        go_simp
        go_at_call 12
        refine (KP.out _ _ _ _ HU5.out).mono ?_
        rintro e u6 ⟨vp, vr, rfl, hN6⟩
        obtain ⟨ap, np, rfl⟩ := ByR.shape hN6
        obtain ⟨Fr, rr⟩ := hN6.get 1 rfl
        obtain ⟨ar, nr, rfl, -, -, -⟩ := RowA.shape rr
        have HU6 : Hid (In [] w u6 (ByR (.slice ap pk.length np) pk :: RecR (.slice ar rc.length nr) rc :: FA bt 8 1000 L' :: ChL cb c vl vt (Cells gA (plC 0 0 0 (.slice none 0 0) (.slice none 0 0)) 43 :: Cells gt #[.int .u32 k0, .int .u32 k1, .int .i64 k2, .int .i64 k3, .int .i64 k4] 24 :: []))) := Lib.hid hN6
        clear hN6 rr
        refine hK.out _ _ ⟨cell_of (HU6.out.block 7 rfl) rfl, cell_of (HU6.out.block 7 rfl) rfl, cell_of (HU6.out.block 7 rfl) rfl, cell_of (HU6.out.block 7 rfl) rfl, cell_of (HU6.out.block 7 rfl) rfl⟩ (fun hS => ?_)
        clear hK K'
        try simp only [Act.put, List.setIfInBounds_toArray, List.set_cons_zero, List.set_cons_succ]
        refine e_last (i := 7) rfl (by kernel_rfl) (fun K' hK => ?_)
        have hF := HU6.out.setFull 6 rfl (xs := (plC 2 0 home (.slice ap pk.length np) (.slice ar rc.length nr)).toList) (b := gA) (C := (plC 0 0 0 (.slice none 0 0) (.slice none 0 0))) (T := 43) rfl
        refine store_step (by rfl) 43 (.tmp 21) (.tmp 167) (by rfl) gA 0 (plC 2 0 home (.slice ap pk.length np) (.slice ar rc.length nr)) (by rfl) (by rfl) (there_of (C := (plC 0 0 0 (.slice none 0 0) (.slice none 0 0))) (T := 43) (HU6.out.block 6 rfl)) (by kernel_rfl) (plC_all _ _ _ _ _ _ _ _ _) ?_
        refine hK.out _ _ ?_
        clear hK K' hS
        go_wp2_with fail
        refine meet_f hJ ?_ (by kernel_rfl)
        exact ⟨gA, _, _, rfl, hF.sel2 (R1 := [_, _, _, _, _, _, _, _]) [6, 0, 1, 2, 3, 4, 5, 7] (by decide) rfl⟩
    · go_simp
      have hA7 := HU1.out.cells (plC 0 0 0 (.slice none 0 0) (.slice none 0 0)) 43
      generalize u1.heap.size = gA at *
      generalize (u1.alloc (.cells (plC 0 0 0 (.slice none 0 0) (.slice none 0 0)) 43)) = u7 at *
      have HU7 : Hid (In [] w u7 (FA bt 8 1000 L :: ChL cb c vl vt (Cells gA (plC 0 0 0 (.slice none 0 0) (.slice none 0 0)) 43 :: Cells gt #[.int .u32 k0, .int .u32 k1, .int .i64 k2, .int .i64 k3, .int .i64 k4] 24 :: []))) := Lib.hid (hA7.sel2 (R1 := [_, _, _, _, _, _]) [1, 2, 3, 4, 0, 5] (by decide) rfl)
      clear hA7
      refine hK.out _ _ ⟨cell_of (HU7.out.block 5 rfl) rfl, cell_of (HU7.out.block 5 rfl) rfl, cell_of (HU7.out.block 5 rfl) rfl, cell_of (HU7.out.block 5 rfl) rfl, cell_of (HU7.out.block 5 rfl) rfl⟩ (fun hS => ?_)
      clear hK K'
      try simp only [Act.put, List.setIfInBounds_toArray, List.set_cons_zero, List.set_cons_succ]
      refine e_pin (i := 4) rfl (by kernel_rfl) (fun K' hK => ?_)
      go_simp
      go_at_call 10
      refine (KM.out _ _ HU7.out).mono ?_
      rintro e u8 ⟨vM, rfl, hN8⟩
      obtain ⟨aM, nM, rfl⟩ := ByR.shape hN8
      have HU8 : Hid (In [] w u8 (ByR (.slice aM m.length nM) m :: FA bt 8 1000 L :: ChL cb c vl vt (Cells gA (plC 0 0 0 (.slice none 0 0) (.slice none 0 0)) 43 :: Cells gt #[.int .u32 k0, .int .u32 k1, .int .i64 k2, .int .i64 k3, .int .i64 k4] 24 :: []))) := Lib.hid hN8
      clear hN8
      refine hK.out _ _ ⟨cell_of (HU8.out.block 6 rfl) rfl, cell_of (HU8.out.block 6 rfl) rfl, cell_of (HU8.out.block 6 rfl) rfl, cell_of (HU8.out.block 6 rfl) rfl, cell_of (HU8.out.block 6 rfl) rfl⟩ (fun hS => ?_)
      clear hK K'
      try simp only [Act.put, List.setIfInBounds_toArray, List.set_cons_zero, List.set_cons_succ]
      refine e_pin (i := 5) rfl (by kernel_rfl) (fun K' hK => ?_)
      go_simp
      go_at_call 12
      refine (KP.out _ _ _ _ HU8.out).mono ?_
      rintro e u9 ⟨vp, vr, rfl, hN9⟩
      obtain ⟨ap, np, rfl⟩ := ByR.shape hN9
      obtain ⟨Fr, rr⟩ := hN9.get 1 rfl
      obtain ⟨ar, nr, rfl, -, -, -⟩ := RowA.shape rr
      have HU9 : Hid (In [] w u9 (ByR (.slice ap pk.length np) pk :: RecR (.slice ar rc.length nr) rc :: FA bt 8 1000 L' :: ChL cb c vl vt (Cells gA (plC 0 0 0 (.slice none 0 0) (.slice none 0 0)) 43 :: Cells gt #[.int .u32 k0, .int .u32 k1, .int .i64 k2, .int .i64 k3, .int .i64 k4] 24 :: []))) := Lib.hid hN9
      clear hN9 rr
      refine hK.out _ _ ⟨cell_of (HU9.out.block 7 rfl) rfl, cell_of (HU9.out.block 7 rfl) rfl, cell_of (HU9.out.block 7 rfl) rfl, cell_of (HU9.out.block 7 rfl) rfl, cell_of (HU9.out.block 7 rfl) rfl⟩ (fun hS => ?_)
      clear hK K'
      try simp only [Act.put, List.setIfInBounds_toArray, List.set_cons_zero, List.set_cons_succ]
      refine e_last (i := 7) rfl (by kernel_rfl) (fun K' hK => ?_)
      have hF := HU9.out.setFull 6 rfl (xs := (plC 2 0 home (.slice ap pk.length np) (.slice ar rc.length nr)).toList) (b := gA) (C := (plC 0 0 0 (.slice none 0 0) (.slice none 0 0))) (T := 43) rfl
      refine store_step (by rfl) 43 (.tmp 21) (.tmp 167) (by rfl) gA 0 (plC 2 0 home (.slice ap pk.length np) (.slice ar rc.length nr)) (by rfl) (by rfl) (there_of (C := (plC 0 0 0 (.slice none 0 0) (.slice none 0 0))) (T := 43) (HU9.out.block 6 rfl)) (by kernel_rfl) (plC_all _ _ _ _ _ _ _ _ _) ?_
      refine hK.out _ _ ?_
      clear hK K' hS
      go_wp2_with fail
      refine meet_f hJ ?_ (by kernel_rfl)
      exact ⟨gA, _, _, rfl, hF.sel2 (R1 := [_, _, _, _, _, _, _, _]) [6, 0, 1, 2, 3, 4, 5, 7] (by decide) rfl⟩
  · go_simp
    have hA10 := HD.out.cells (plC 0 0 0 (.slice none 0 0) (.slice none 0 0)) 43
    generalize VD.heap.size = gA at *
    generalize (VD.alloc (.cells (plC 0 0 0 (.slice none 0 0) (.slice none 0 0)) 43)) = u10 at *
    have HU10 : Hid (In [] w u10 (FA bt 8 1000 L :: ChL cb c vl vt (Cells gA (plC 0 0 0 (.slice none 0 0) (.slice none 0 0)) 43 :: Cells gt #[.int .u32 k0, .int .u32 k1, .int .i64 k2, .int .i64 k3, .int .i64 k4] 24 :: []))) := Lib.hid (hA10.sel2 (R1 := [_, _, _, _, _, _]) [1, 2, 3, 4, 0, 5] (by decide) rfl)
    clear hA10
    refine hK.out _ _ ⟨cell_of (HU10.out.block 5 rfl) rfl, cell_of (HU10.out.block 5 rfl) rfl, cell_of (HU10.out.block 5 rfl) rfl, cell_of (HU10.out.block 5 rfl) rfl, cell_of (HU10.out.block 5 rfl) rfl⟩ (fun hS => ?_)
    clear hK K'
    try simp only [Act.put, List.setIfInBounds_toArray, List.set_cons_zero, List.set_cons_succ]
    refine e_pin (i := 0) rfl (by kernel_rfl) (fun K' hK => ?_)
    go_simp
    go_at_call 13
    refine (KC.out _ _ HU10.out).mono ?_
    rintro e u11 ⟨rfl, hN11⟩
    have HU11 : Hid (In [] w u11 (FA bt 8 1000 L :: ChL cb c vl vt (Cells gA (plC 0 0 0 (.slice none 0 0) (.slice none 0 0)) 43 :: Cells gt #[.int .u32 k0, .int .u32 k1, .int .i64 k2, .int .i64 k3, .int .i64 k4] 24 :: []))) := Lib.hid hN11
    clear hN11
    refine hK.out _ _ ⟨cell_of (HU11.out.block 5 rfl) rfl, cell_of (HU11.out.block 5 rfl) rfl, cell_of (HU11.out.block 5 rfl) rfl, cell_of (HU11.out.block 5 rfl) rfl, cell_of (HU11.out.block 5 rfl) rfl⟩ (fun hS => ?_)
    clear hK K'
    try simp only [Act.put, List.setIfInBounds_toArray, List.set_cons_zero, List.set_cons_succ]
    refine e_pin (i := 4) rfl (by kernel_rfl) (fun K' hK => ?_)
    go_simp
    go_at_call 10
    refine (KM.out _ _ HU11.out).mono ?_
    rintro e u12 ⟨vM, rfl, hN12⟩
    obtain ⟨aM, nM, rfl⟩ := ByR.shape hN12
    have HU12 : Hid (In [] w u12 (ByR (.slice aM m.length nM) m :: FA bt 8 1000 L :: ChL cb c vl vt (Cells gA (plC 0 0 0 (.slice none 0 0) (.slice none 0 0)) 43 :: Cells gt #[.int .u32 k0, .int .u32 k1, .int .i64 k2, .int .i64 k3, .int .i64 k4] 24 :: []))) := Lib.hid hN12
    clear hN12
    refine hK.out _ _ ⟨cell_of (HU12.out.block 6 rfl) rfl, cell_of (HU12.out.block 6 rfl) rfl, cell_of (HU12.out.block 6 rfl) rfl, cell_of (HU12.out.block 6 rfl) rfl, cell_of (HU12.out.block 6 rfl) rfl⟩ (fun hS => ?_)
    clear hK K'
    try simp only [Act.put, List.setIfInBounds_toArray, List.set_cons_zero, List.set_cons_succ]
    refine e_pin (i := 5) rfl (by kernel_rfl) (fun K' hK => ?_)
    go_simp
    go_at_call 12
    refine (KP.out _ _ _ _ HU12.out).mono ?_
    rintro e u13 ⟨vp, vr, rfl, hN13⟩
    obtain ⟨ap, np, rfl⟩ := ByR.shape hN13
    obtain ⟨Fr, rr⟩ := hN13.get 1 rfl
    obtain ⟨ar, nr, rfl, -, -, -⟩ := RowA.shape rr
    have HU13 : Hid (In [] w u13 (ByR (.slice ap pk.length np) pk :: RecR (.slice ar rc.length nr) rc :: FA bt 8 1000 L' :: ChL cb c vl vt (Cells gA (plC 0 0 0 (.slice none 0 0) (.slice none 0 0)) 43 :: Cells gt #[.int .u32 k0, .int .u32 k1, .int .i64 k2, .int .i64 k3, .int .i64 k4] 24 :: []))) := Lib.hid hN13
    clear hN13 rr
    refine hK.out _ _ ⟨cell_of (HU13.out.block 7 rfl) rfl, cell_of (HU13.out.block 7 rfl) rfl, cell_of (HU13.out.block 7 rfl) rfl, cell_of (HU13.out.block 7 rfl) rfl, cell_of (HU13.out.block 7 rfl) rfl⟩ (fun hS => ?_)
    clear hK K'
    try simp only [Act.put, List.setIfInBounds_toArray, List.set_cons_zero, List.set_cons_succ]
    refine e_last (i := 7) rfl (by kernel_rfl) (fun K' hK => ?_)
    have hF := HU13.out.setFull 6 rfl (xs := (plC 2 0 home (.slice ap pk.length np) (.slice ar rc.length nr)).toList) (b := gA) (C := (plC 0 0 0 (.slice none 0 0) (.slice none 0 0))) (T := 43) rfl
    refine store_step (by rfl) 43 (.tmp 21) (.tmp 167) (by rfl) gA 0 (plC 2 0 home (.slice ap pk.length np) (.slice ar rc.length nr)) (by rfl) (by rfl) (there_of (C := (plC 0 0 0 (.slice none 0 0) (.slice none 0 0))) (T := 43) (HU13.out.block 6 rfl)) (by kernel_rfl) (plC_all _ _ _ _ _ _ _ _ _) ?_
    refine hK.out _ _ ?_
    clear hK K' hS
    go_wp2_with fail
    refine meet_f hJ ?_ (by kernel_rfl)
    exact ⟨gA, _, _, rfl, hF.sel2 (R1 := [_, _, _, _, _, _, _, _]) [6, 0, 1, 2, 3, 4, 5, 7] (by decide) rfl⟩
theorem walk_PathStays (w : World) (k : Tup) (wk : WfT k) {a : Option Addr} {len cap : Nat} {cs : List Call23} (hv : ArgC23 w (.slice a len cap) cs) : Calls Tryz.prog 5 #[.agg (encT k), .slice a len cap] w (TruePost w) := by
  have h00 := In.start (w := w) (R := []) (F := []) (by simp) rfl
  have h0 := h00.cells (encT k) 24
  have KT0 := o_qmayt k h0
  have KA := Lib.hid (fun w' (R' : List Asrt) (h' : In [] w w' R') => o_awake23 h')
  obtain ⟨a', cap', ev, hc1, hc2, hcn, hc⟩ := hv.ex
  rw [Value.slice.injEq] at ev
  obtain ⟨ea, el, ec⟩ := ev
  subst ea ec el
  unfold maxLen at hc2
  by_cases hmk : ¬ MayT k
  · rw [decide_eq_false hmk] at KT0
    have KT := Lib.hid KT0
    obtain ⟨k0, k1, k2, k3, k4⟩ := k
    clear KT0 h0 h00 hmk wk hv hc hcn
    go_enter Tryz.func5, Tryz.ntmps5
    go_wp2_with fail
    refine KT.out.mono ?_
    rintro e w1 ⟨rfl, ho⟩
    have K1 := Lib.hid (KA.out _ _ ho)
    clear KT ho
    go_wp2_with fail
    refine K1.out.mono ?_
    rintro e w2 ⟨rfl, ho⟩
    have G := Lib.hid ho.mod
    clear K1 ho
    go_wp2_with fail
    go_ret
    exact ⟨rfl, G.out⟩
  have mk : MayT k := Decidable.not_not.1 hmk
  rw [decide_eq_true mk] at KT0
  have KT := Lib.hid KT0
  obtain ⟨be, pk, hbm, hpk, hst⟩ := firstP wk mk
  have hhome : 0 ≤ be.id ∧ be.id ≤ 65535 := by unfold firstS at hbm; simp at hbm; rcases hbm with rfl | rfl | rfl <;> decide
  have KF0 := fun w' (R' : List Asrt) (h' : In [] w w' R') => o_fnew h' 8 1000
  rw [show clampM 8 = 8 from by decide, show clampI 1000 = 1000 from by decide] at KF0
  have KF := Lib.hid KF0
  have KN := Lib.hid (fun w' (R' : List Asrt) (h' : In [] w w' R') => o_chnew may13 cov13 h')
  have KS := Lib.hid (fun w' cb g vl vt (R' : List Asrt) (h' : In [] w w' (Cells g #[.int .i64 1, .int .u32 1, .int .i64 1, .int .i64 2, .int .u32 2, .int .i64 2, .int .i64 3, .int .u32 3, .int .i64 1] 33 :: ChL cb (newCh 13) vl vt R')) => (by
    have h0 : In [] w w' (ChL cb (newCh 13) vl vt (Cells g #[.int .i64 1, .int .u32 1, .int .i64 1, .int .i64 2, .int .u32 2, .int .i64 2, .int .i64 3, .int .u32 3, .int .i64 1] 33 :: R')) := h'.sel2 (R1 := [_, _, _, _]) [1, 2, 3, 0] (by decide) rfl
    have hsrc : BksAt [] w (Cells g #[.int .i64 1, .int .u32 1, .int .i64 1, .int .i64 2, .int .u32 2, .int .i64 2, .int .i64 3, .int .u32 3, .int .i64 1] 33 :: R') (some ⟨g, 0, none⟩) firstS := fun W hW => src_cells (m := 3) (k := 3) (hW.block 0 rfl) rfl
    have K := o_chset (l := firstS) (n := 3) may13 cov13 (by decide) hsrc (fun e => by cases e) (by decide) h0
    rw [setSt] at K
    exact K : Calls Tryz.prog 11 #[pC cb, .slice (some ⟨g, 0, none⟩) 3 3, .nilFunc] w' (SetPost cb (chS, 0) [] w (Cells g #[.int .i64 1, .int .u32 1, .int .i64 1, .int .i64 2, .int .u32 2, .int .i64 2, .int .i64 3, .int .u32 3, .int .i64 1] 33 :: R'))))
  have HOWN := Lib.hid (fun n L c (hi : StInv k be.id n L c) => hi.own wk mk)
  have HPK := Lib.hid hpk
  have HST := Lib.hid hst
  have HC := Lib.hid hc
  have WK := Lib.hid (And.intro wk mk)
  have HH := Lib.hid hhome
  generalize be.id = home at *
  obtain ⟨k0, k1, k2, k3, k4⟩ := k
  clear KT0 h0 h00 hmk wk mk hv hc hcn hpk hst hhome hbm KF0
  go_enter Tryz.func5, Tryz.ntmps5
  go_wp2_with fail
  generalize w.heap.size = gt at *
  refine KT.out.mono ?_
  rintro e w1 ⟨rfl, ho⟩
  have K1 := Lib.hid (KF.out _ _ ho)
  clear KT ho KF
  go_wp2_with fail
  refine K1.out.mono ?_
  rintro e w2 ⟨bt, rfl, ho⟩
  have h2 : In [] w w2 (FA bt 8 1000 [] :: Cells gt #[.int .u32 k0, .int .u32 k1, .int .i64 k2, .int .i64 k3, .int .i64 k4] 24 :: []) := ho
  have K2 := Lib.hid (KN.out _ _ h2)
  clear K1 ho KN h2
  go_wp2_with fail
  refine K2.out.mono ?_
  rintro e w3 ⟨cb, a3, n3, rfl, ho⟩
  have h3 := ho.cells #[.int .i64 1, .int .u32 1, .int .i64 1, .int .i64 2, .int .u32 2, .int .i64 2, .int .i64 3, .int .u32 3, .int .i64 1] 33
  have K3 := Lib.hid (KS.out _ _ _ _ _ _ h3)
  clear K2 ho h3 KS
  go_wp2_with fail
  refine K3.out.mono ?_
  rintro e w4 ⟨vl, vt, rfl, ho⟩
  have ho4 : In [] w w4 (FA bt 8 1000 [] :: ChL cb chS vl vt (Cells gt #[.int .u32 k0, .int .u32 k1, .int .i64 k2, .int .i64 k3, .int .i64 k4] 24 :: [])) := ho.sel2 (R1 := [_, _, _, _, _, _]) [4, 0, 1, 2, 5] (by decide) rfl
  clear K3 ho
  go_upto_region 7 with fail
  refine stays_r7 WK.out.1 chOkS HPK.out ho4 (fun _ _ _ _ _ h => h) (fun f7 g8 vp vr wc ho => ?_)
  clear ho4 HPK
  have p0 := cell_of (o := 0) (v := .int .i64 2) (ho.block 0 rfl) rfl
  have p2 := cell_of (o := 2) (v := .int .i64 home) (ho.block 0 rfl) rfl
  have HR0 : Hid (StRel cs.length ⟨k0, k1, k2, k3, k4⟩ home bt cb gt w (.int .i64 0) wc) := Lib.hid ⟨0, _, _, _, _, rfl, Nat.zero_le _, by omega, HST.out, ho.sel2 (R1 := [_, _, _, _, _, _, _, _]) [3, 4, 5, 6, 7] (by decide) rfl⟩
  clear ho HST
  go_wp2_with fail
  clear p0 p2
  go_loopw [10] (StRel cs.length ⟨k0, k1, k2, k3, k4⟩ home bt cb gt w) (fun v _ => cs.length - (intOf v).toNat)
  case atStart => exact HR0.out
  case round =>
    clear HR0
    obtain ⟨i, L, c, vl, vt, rfl, hi, hi40, hst, ho⟩ := hrel
    by_cases hgo : i < cs.length ∧ i < 40
    case neg =>
      have KX := Lib.hid (KA.out _ _ ho)
      have hgo2 : (decide ((i : Int) < (cs.length : Int)) = false ∧ decide (i < cs.length) = false) ∨ (decide ((i : Int) < (cs.length : Int)) = true ∧ decide (i < cs.length) = true ∧ decide ((i : Int) < 40) = false ∧ decide (i < 40) = false) := by
        by_cases h1 : i < cs.length
        · right; exact ⟨decide_eq_true (by omega), decide_eq_true h1, decide_eq_false (by omega), decide_eq_false (by omega)⟩
        · left; exact ⟨decide_eq_false (by omega), decide_eq_false h1⟩
      clear ho hst hi hi40 hgo
      rcases hgo2 with ⟨q1, q2⟩ | ⟨q1, q2, q3, q4⟩
      all_goals
        go_wp2_with fail
        refine KX.out.mono ?_
        rintro e w5 ⟨rfl, ho⟩
        have G := Lib.hid ho.mod
        clear KX ho
        go_wp2_with fail
        go_ret
        exact ⟨rfl, G.out⟩
    obtain ⟨hlt, h40⟩ := hgo
    obtain ⟨x, hx⟩ : ∃ x, cs[i]? = some x := ⟨cs[i], List.getElem?_eq_getElem hlt⟩
    obtain ⟨g, o, csx, rfl, hcr, hcell⟩ := HC.out i x hx
    obtain ⟨ab, nb, al, nl, ao, no, rfl, hab, hal, hao, hwf⟩ := hcr
    have hlt' : (i : Int) < (cs.length : Int) := by omega
    have h40' : (i : Int) < 40 := by omega
    have hw2 : wrap64 ((i : Int) + 1) = (i : Int) + 1 := by unfold wrap64; omega
    have HRG := Lib.hid (range_old23 ho hcell)
    obtain ⟨hth, h4⟩ := c23_box ho x ab nb al nl ao no
    have HTH := Lib.hid hth
    obtain ⟨w4, hw4⟩ : ∃ w4, w4 = (wr.alloc (.cells zC23 65)).setCells wr.heap.size 0 (c23V x ab nb al nl ao no).toArray.toList := ⟨_, rfl⟩
    rw [← hw4] at h4
    have H4 := Lib.hid (show In [] w w4 (Cells wr.heap.size (c23V x ab nb al nl ao no).toArray 65 :: FA bt 8 1000 L :: ChL cb c vl vt (Cells gt #[.int .u32 k0, .int .u32 k1, .int .i64 k2, .int .i64 k3, .int .i64 k4] 24 :: [])) from h4)
    have HW4 := Lib.hid hw4
    have HARG := Lib.hid (And.intro hab (And.intro hal (And.intro hao hwf)))
    have HSTI := Lib.hid hst
    have HI := Lib.hid hi40
    have HNX : Hid (∀ wz, StMid ⟨k0, k1, k2, k3, k4⟩ home (i + 1) bt cb gt w wz → StRel cs.length ⟨k0, k1, k2, k3, k4⟩ home bt cb gt w (.int .i64 ((i : Int) + 1)) wz) := Lib.hid fun wz ⟨L', c', vl', vt', h1, h2⟩ => ⟨i + 1, L', c', vl', vt', by rw [Int.natCast_add]; rfl, hlt, by omega, h1, h2⟩
    clear ho h4 hw4 hth hcell hx hab hal hao hwf hst hi hi40 hlt h40
    go_upto_region 14 with fail
    go_cut [11] (fun x11 wx => x11 = .pointer (some ⟨wr.heap.size, 0, none⟩) ∧ wx = w4)
    case first =>
      go_wp2_with (first | (refine wpList_load_mid (by rfl) 65 (.tmp 61) rfl g (o + i * 12) rfl (c23V x ab nb al nl ao no) _ HRG.out Tryz.underlying65 rfl (by kernel_rfl) ?_) | (refine wpList_store_mid (by rfl) 65 (.tmp 11) (.tmp 62) rfl wr.heap.size 0 (c23V x ab nb al nl ao no).toArray (by rfl) (by rfl) HTH.out (by kernel_rfl) c23V_one ?_))
      go_meet
      exact ⟨rfl, HW4.out.symm⟩
    case rest =>
    obtain ⟨rfl, rfl⟩ := hcut
    clear HRG HTH HW4
    generalize wr.heap.size = gx at *
    have d0 : wc.cell? ⟨gx, 0, none⟩ = some (.int .i64 x.act) := cell_of (H4.out.block 0 rfl) rfl
    have d8 : wc.cell? ⟨gx, 8, none⟩ = some (.slice ab x.body.length nb) := cell_of (H4.out.block 0 rfl) rfl
    have d10 : wc.cell? ⟨gx, 10, none⟩ = some (.slice al x.l.length nl) := cell_of (H4.out.block 0 rfl) rfl
    have d11 : wc.cell? ⟨gx, 11, none⟩ = some (.slice ao x.out.length no) := cell_of (H4.out.block 0 rfl) rfl
    have HNB : Hid (StRel cs.length ⟨k0, k1, k2, k3, k4⟩ home bt cb gt w (.int .i64 ((i : Int) + 1)) wc) := Lib.hid (HNX.out _ ⟨L, c, vl, vt, HSTI.out.more, H4.out.drop⟩)
    by_cases q1 : 1400 < x.body.length
    · have q1' : decide ((1400 : Int) < (x.body.length : Int)) = true := decide_eq_true (by omega)
      have q1N : decide (1400 < x.body.length) = true := decide_eq_true q1
      clear q1 HNX HSTI HARG H4
      go_wp2_with fail
      go_roundw
      case rel => (try rw [hw2]); exact HNB.out
      case measure => (try rw [hw2]); exact meas_lt hlt'
    have q1' : decide ((1400 : Int) < (x.body.length : Int)) = false := decide_eq_false (by omega)
    have q1N : decide (1400 < x.body.length) = false := decide_eq_false q1
    by_cases q2 : 12 < x.l.length
    · have q2' : decide ((12 : Int) < (x.l.length : Int)) = true := decide_eq_true (by omega)
      have q2N : decide (12 < x.l.length) = true := decide_eq_true q2
      clear q1 q2 HNX HSTI HARG H4
      go_wp2_with fail
      go_roundw
      case rel => (try rw [hw2]); exact HNB.out
      case measure => (try rw [hw2]); exact meas_lt hlt'
    have q2' : decide ((12 : Int) < (x.l.length : Int)) = false := decide_eq_false (by omega)
    have q2N : decide (12 < x.l.length) = false := decide_eq_false q2
    by_cases q3 : 20 < x.out.length
    · have q3' : decide ((20 : Int) < (x.out.length : Int)) = true := decide_eq_true (by omega)
      have q3N : decide (20 < x.out.length) = true := decide_eq_true q3
      clear q1 q2 q3 HNX HSTI HARG H4
      go_wp2_with fail
      go_roundw
      case rel => (try rw [hw2]); exact HNB.out
      case measure => (try rw [hw2]); exact meas_lt hlt'
    have q3' : decide ((20 : Int) < (x.out.length : Int)) = false := decide_eq_false (by omega)
    have q3N : decide (20 < x.out.length) = false := decide_eq_false q3
    have HQ := Lib.hid (And.intro q1 (And.intro q2 q3))
    clear q1 q2 q3 HNB
    go_upto_region 16 with fail
    clear q1' q1N q2' q2N q3' q3N
    go_cut [81] (fun v wx => v = .bool (x.act == 2) ∧ wx = wc)
    case first =>
      go_wp2_with fail
      go_meet
      exact ⟨rfl, rfl⟩
    case rest =>
    obtain ⟨rfl, rfl⟩ := hcut
    rename_i ha
    refine ha _ _ ?_
    clear ha
    refine stays_arms HI.out HARG.out HSTI.out HQ.out HH.out H4.out (fun _ _ h => h) (fun fA wc hcut => ?_)
    clear HARG HSTI H4 d0 d8 d10 d11 HQ HI
    obtain ⟨L5, c5, vl, vt, hst5, ho5⟩ := hcut
    obtain ⟨pk5, hp5, hst6⟩ := HOWN.out _ _ _ hst5
    have e5 : pktD 168364297 1500 8 L5 c5 1 0 (madeD ⟨k0, k1, k2, k3, k4⟩ 9 0 []) = (⟨2, 0, home, pk5, []⟩, (pktD 168364297 1500 8 L5 c5 1 0 (madeD ⟨k0, k1, k2, k3, k4⟩ 9 0 [])).2) := Prod.ext hp5 rfl
    generalize (pktD 168364297 1500 8 L5 c5 1 0 (madeD ⟨k0, k1, k2, k3, k4⟩ 9 0 [])).2 = L6 at *
    have HE5 := Lib.hid e5
    have HOK5 := Lib.hid hst5.ok
    have HST6 := Lib.hid hst6
    have HO5 := Lib.hid ho5
    clear e5 hst5 hp5 hst6 ho5
    go_upto_region 31 with fail
    refine stays_r31 WK.out.1 HOK5.out HE5.out HO5.out (fun _ _ _ _ _ h => h) (fun fB g8 vp vr wc ho => ?_)
    clear HE5 HOK5 HO5
    obtain ⟨Fr, rr⟩ := ho.get 2 rfl
    obtain ⟨ar, nr, rfl, -, -, -⟩ := RowA.shape rr
    have p0 := cell_of (o := 0) (v := .int .i64 2) (ho.block 0 rfl) rfl
    have p2 := cell_of (o := 2) (v := .int .i64 home) (ho.block 0 rfl) rfl
    have p4 := cell_of (o := 4) (v := .slice ar 0 nr) (ho.block 0 rfl) rfl
    have hq : (home != home) = false := by simp
    have HF : Hid (StRel cs.length ⟨k0, k1, k2, k3, k4⟩ home bt cb gt w (.int .i64 ((i : Int) + 1)) wc) := Lib.hid (HNX.out _ ⟨L6, c5, vl, vt, HST6.out, ho.sel2 (R1 := [_, _, _, _, _, _, _, _]) [3, 4, 5, 6, 7] (by decide) rfl⟩)
    clear ho rr HST6 HNX
    go_wp2_with fail
    go_roundw
    case rel => (try rw [hw2]); exact HF.out
    case measure => (try rw [hw2]); exact meas_lt hlt'
theorem tp_one {ns : List Int} (hl : ns.length = 5) (hw : wfK [.u32, .u32, .i64, .i64, .i64] ns) : ∃ t : Tup, encK [.u32, .u32, .i64, .i64, .i64] ns = (encT t).toList ∧ WfT t := by
  match ns, hl, hw with
  | [a, b, c, d, e], _, hw =>
    obtain ⟨a0, a1⟩ := litR_u32 (hw 0 _ _ rfl rfl)
    obtain ⟨b0, b1⟩ := litR_u32 (hw 1 _ _ rfl rfl)
    obtain ⟨c0, c1⟩ := litR_i64 (hw 2 _ _ rfl rfl)
    obtain ⟨d0, d1⟩ := litR_i64 (hw 3 _ _ rfl rfl)
    obtain ⟨e0, e1⟩ := litR_i64 (hw 4 _ _ rfl rfl)
    exact ⟨⟨a, b, c, d, e⟩, rfl, ⟨a0, a1, b0, b1, c0, by show c ≤ _; omega, d0, by show d ≤ _; omega, e0, by show e ≤ _; omega⟩⟩
theorem openTup {H : Type} {enc : TypeId × Value → H} {w : World} {base b0 : Nat} {r : Reach} {spare : Nat → Bool} {held : Bool} {v : Value} {d : DataW H} {p : List MemPlace}
    (hv : Value.okWide Tryz.prog w r b0 24 v) (h : DataW.Trod enc Tryz.prog w base spare held 24 v d p) : ∃ t : Tup, v = .agg (encT t) ∧ WfT t := by
  obtain ⟨cs, rfl, hsz⟩ := okWide_struct Tryz.underlying24 hv
  obtain ⟨n, h⟩ := h
  obtain ⟨ns, n1, n2, n3⟩ := flatTupR _ _ _ _ _ _ _ h
  obtain ⟨t, e, wf⟩ := tp_one n1 n3
  refine ⟨t, ?_, wf⟩
  have e2 : cs.toList = (encT t).toList := by rw [← e]; exact n2
  rw [Array.toList_inj.1 e2]
end Go.Proofs.YtgapbecddgfkmaaGreat
