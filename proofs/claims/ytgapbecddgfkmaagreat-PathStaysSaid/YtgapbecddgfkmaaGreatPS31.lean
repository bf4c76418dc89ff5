/- Rows.PathStaysSaid -/
import Derived.Test.YtgapbecddgfkmaaGreatPS29
import Derived.Deep.DeepCutAuto
import Derived.Deep.CutBlock
namespace Go.Proofs.YtgapbecddgfkmaaGreat
open Go.RowKit
set_option linter.unusedVariables false
set_option maxHeartbeats 64000000
set_option maxRecDepth 100000
theorem stays_r7 {w wd : World} {k0 k1 k2 k3 k4 home : Int} {bt cb gt : Nat} {L L' : List Fl} {c : ChD} {vl vt : Value} {pk : List UInt8} {rc : List Rec} (wk : WfT ⟨k0, k1, k2, k3, k4⟩) (hok : ChOk c) (hpk : pktD 168364297 1500 8 L c 1 0 (madeD ⟨k0, k1, k2, k3, k4⟩ 9 0 []) = (⟨2, 0, home, pk, rc⟩, L')) (h : In [] w wd (FA bt 8 1000 L :: ChL cb c vl vt (Cells gt #[.int .u32 k0, .int .u32 k1, .int .i64 k2, .int .i64 k3, .int .i64 k4] 24 :: [])))
    {z0 z1 z3 z4 z7 z8 z9 z10 z11 z12 z13 z14 z15 z16 z17 z18 z19 z20 z21 z22 z23 z24 z25 z26 z27 z28 z29 z30 z31 z32 z33 z34 z35 z36 z37 z38 z39 z40 z41 z42 z43 z44 z45 z46 z47 z48 z49 z50 z51 z52 z53 z54 z55 z56 z57 z58 z59 z60 z61 z62 z63 z64 z65 z66 z67 z68 z69 z70 z71 z72 z73 z74 z75 z76 z77 z78 z79 z80 z81 z82 z83 z84 z85 z86 z87 z88 z89 z90 z91 z92 z93 z94 z95 z96 z97 z98 z99 z100 z101 z102 z103 z104 z105 z106 z107 z108 z109 z110 z111 z112 z113 z114 z115 z116 z117 z118 z119 z120 z121 z122 z123 z124 z125 z126 z127 z128 z129 z130 z131 z132 z133 z134 z135 z136 z137 z138 z139 z140 z141 z142 z143 z144 z145 z146 z147 z148 z149 z150 z151 z152 z153 z154 z155 z156 z157 z158 z159 z160 z161 z162 z163 z164 z165 z166 z167 z168 z169 z170 z171 z172 z173 z174 z175 z176 z177 z178 z179 z180 z181 z182 z183 z184 z185 : Value} {K : Act → World → Prop} {Q' : Exit → Act → World → Prop} (hpan : ∀ ch a' d v w', Q' (.panic ch) (Act.put a' (some d) v) w' → Q' (.panic ch) a' w')
    (hK : ∀ (f : Nat → Value) (g8 : Nat) (vp vr : Value) (wz : World), In [] w wz (Cells g8 (plC 2 0 home vp vr) 43 :: ByR vp pk :: RecR vr rc :: FA bt 8 1000 L' :: ChL cb c vl vt (Cells gt #[.int .u32 k0, .int .u32 k1, .int .i64 k2, .int .i64 k3, .int .i64 k4] 24 :: [])) → K ⟨#[z0, z1, .pointer (some ⟨gt, 0, none⟩), z3, z4, .pointer (some ⟨bt, 0, none⟩), pC cb, z7, .pointer (some ⟨g8, 0, none⟩), z9, z10, z11, z12, f 13, z14, z15, z16, z17, z18, f 19, z20, z21, f 22, f 23, f 24, f 25, f 26, f 27, f 28, f 29, f 30, f 31, f 32, f 33, f 34, f 35, f 36, f 37, f 38, f 39, f 40, f 41, f 42, f 43, f 44, f 45, f 46, f 47, f 48, f 49, f 50, f 51, f 52, f 53, f 54, f 55, f 56, f 57, f 58, f 59, f 60, f 61, f 62, f 63, f 64, f 65, f 66, f 67, f 68, f 69, f 70, f 71, f 72, f 73, f 74, f 75, f 76, f 77, f 78, f 79, f 80, f 81, f 82, f 83, f 84, f 85, f 86, f 87, f 88, f 89, f 90, f 91, f 92, f 93, f 94, f 95, f 96, f 97, f 98, f 99, f 100, f 101, f 102, f 103, f 104, f 105, f 106, f 107, f 108, f 109, f 110, f 111, f 112, f 113, f 114, f 115, f 116, f 117, f 118, f 119, f 120, f 121, f 122, f 123, f 124, f 125, f 126, f 127, f 128, f 129, f 130, f 131, f 132, f 133, f 134, f 135, f 136, f 137, f 138, f 139, f 140, f 141, f 142, f 143, f 144, f 145, f 146, f 147, f 148, f 149, f 150, f 151, f 152, f 153, f 154, f 155, f 156, f 157, f 158, f 159, f 160, f 161, f 162, f 163, f 164, f 165, f 166, f 167, f 168, f 169, f 170, f 171, f 172, f 173, f 174, f 175, f 176, f 177, f 178, f 179, f 180, f 181, f 182, f 183, f 184, f 185], []⟩ wz) :
    Code.wp Tryz.prog stR7 (Exit.then K Q') ⟨#[z0, z1, .pointer (some ⟨gt, 0, none⟩), z3, z4, .pointer (some ⟨bt, 0, none⟩), pC cb, z7, z8, z9, z10, z11, z12, z13, z14, z15, z16, z17, z18, z19, z20, z21, z22, z23, z24, z25, z26, z27, z28, z29, z30, z31, z32, z33, z34, z35, z36, z37, z38, z39, z40, z41, z42, z43, z44, z45, z46, z47, z48, z49, z50, z51, z52, z53, z54, z55, z56, z57, z58, z59, z60, z61, z62, z63, z64, z65, z66, z67, z68, z69, z70, z71, z72, z73, z74, z75, z76, z77, z78, z79, z80, z81, z82, z83, z84, z85, z86, z87, z88, z89, z90, z91, z92, z93, z94, z95, z96, z97, z98, z99, z100, z101, z102, z103, z104, z105, z106, z107, z108, z109, z110, z111, z112, z113, z114, z115, z116, z117, z118, z119, z120, z121, z122, z123, z124, z125, z126, z127, z128, z129, z130, z131, z132, z133, z134, z135, z136, z137, z138, z139, z140, z141, z142, z143, z144, z145, z146, z147, z148, z149, z150, z151, z152, z153, z154, z155, z156, z157, z158, z159, z160, z161, z162, z163, z164, z165, z166, z167, z168, z169, z170, z171, z172, z173, z174, z175, z176, z177, z178, z179, z180, z181, z182, z183, z184, z185], []⟩ wd := by
  refine wp_cut (fun a' w' => ∃ (f : Nat → Value), (∃ g8 vp vr, f 8 = .pointer (some ⟨g8, 0, none⟩) ∧ In [] w w' (Cells g8 (plC 2 0 home vp vr) 43 :: ByR vp pk :: RecR vr rc :: FA bt 8 1000 L' :: ChL cb c vl vt (Cells gt #[.int .u32 k0, .int .u32 k1, .int .i64 k2, .int .i64 k3, .int .i64 k4] 24 :: []))) ∧ a' = (⟨#[z0, z1, .pointer (some ⟨gt, 0, none⟩), z3, z4, .pointer (some ⟨bt, 0, none⟩), pC cb, z7, f 8, z9, z10, z11, z12, f 13, z14, z15, z16, z17, z18, f 19, z20, z21, f 22, f 23, f 24, f 25, f 26, f 27, f 28, f 29, f 30, f 31, f 32, f 33, f 34, f 35, f 36, f 37, f 38, f 39, f 40, f 41, f 42, f 43, f 44, f 45, f 46, f 47, f 48, f 49, f 50, f 51, f 52, f 53, f 54, f 55, f 56, f 57, f 58, f 59, f 60, f 61, f 62, f 63, f 64, f 65, f 66, f 67, f 68, f 69, f 70, f 71, f 72, f 73, f 74, f 75, f 76, f 77, f 78, f 79, f 80, f 81, f 82, f 83, f 84, f 85, f 86, f 87, f 88, f 89, f 90, f 91, f 92, f 93, f 94, f 95, f 96, f 97, f 98, f 99, f 100, f 101, f 102, f 103, f 104, f 105, f 106, f 107, f 108, f 109, f 110, f 111, f 112, f 113, f 114, f 115, f 116, f 117, f 118, f 119, f 120, f 121, f 122, f 123, f 124, f 125, f 126, f 127, f 128, f 129, f 130, f 131, f 132, f 133, f 134, f 135, f 136, f 137, f 138, f 139, f 140, f 141, f 142, f 143, f 144, f 145, f 146, f 147, f 148, f 149, f 150, f 151, f 152, f 153, f 154, f 155, f 156, f 157, f 158, f 159, f 160, f 161, f 162, f 163, f 164, f 165, f 166, f 167, f 168, f 169, f 170, f 171, f 172, f 173, f 174, f 175, f 176, f 177, f 178, f 179, f 180, f 181, f 182, f 183, f 184, f 185], []⟩ : Act)) (fun a' w' hc => ?_) ?_
  · obtain ⟨f, ⟨g8, vp, vr, e, hc⟩, rfl⟩ := hc
    rw [e]
    exact hK f g8 vp vr w' hc
  intro J K' hJ hM
  clear hK
  have KC := Lib.hid (fun w' (R' : List Asrt) (h' : In [] w w' R') => o_config 8 h')
  have hml : (madeD ⟨k0, k1, k2, k3, k4⟩ 9 0 []).length ≤ 100000000 := by
    unfold madeD
    rw [List.length_append, buildD_length, innerL_length]
    split <;> simp
  have KM0 := fun w' (R' : List Asrt) (h' : In [] w w' R') => o_made h' wk 9 0 (A := none) (c := 0) (body := []) bytes_nil (by decide)
  have KP0 := fun w' (R' : List Asrt) a n (h' : In [] w w' (ByR (.slice a (madeD ⟨k0, k1, k2, k3, k4⟩ 9 0 []).length n) (madeD ⟨k0, k1, k2, k3, k4⟩ 9 0 []) :: FA bt 8 1000 L :: ChL cb c vl vt R')) => o_pktown (self := 168364297) (sl := 13) (fl := 8) (idle0 := 20) (mtu := 1500) (sg := 200) (qu := 20000) (ve := 3) (by decide) hok (gen := 1) (now := 0) hml h'
  rw [hpk] at KP0
  clear hpk
  generalize madeD ⟨k0, k1, k2, k3, k4⟩ 9 0 [] = m at *
  have KM := Lib.hid KM0
  have KP := Lib.hid KP0
  have HD := Lib.hid (h.drewN 1)
  have HD : Hid (In [] w wd.drew (FA bt 8 1000 L :: ChL cb c vl vt (Cells gt #[.int .u32 k0, .int .u32 k1, .int .i64 k2, .int .i64 k3, .int .i64 k4] 24 :: []))) := HD
  clear KM0 KP0 h hok wk hml
  conv => arg 2; whnf
  refine e_start (fun w' => w'.cell? ⟨gt, 0, none⟩ = some (.int .u32 k0) ∧ w'.cell? ⟨gt, 1, none⟩ = some (.int .u32 k1) ∧ w'.cell? ⟨gt, 2, none⟩ = some (.int .i64 k2) ∧ w'.cell? ⟨gt, 3, none⟩ = some (.int .i64 k3) ∧ w'.cell? ⟨gt, 4, none⟩ = some (.int .i64 k4)) (by kernel_rfl) ⟨cell_of (HD.out.block 4 rfl) rfl, cell_of (HD.out.block 4 rfl) rfl, cell_of (HD.out.block 4 rfl) rfl, cell_of (HD.out.block 4 rfl) rfl, cell_of (HD.out.block 4 rfl) rfl⟩ (fun hS => ?_)
  generalize wd.drew = VD at *
  refine e_take (i := 1) (v := ?_) rfl (by kernel_rfl) (fun _ _ _ h => hpan _ _ _ _ _ h) (by rfl) ?_ hS ?_
  rotate_left
  · (intro w hSw; (try dsimp only at hSw); go_simp; try with_reducible rfl)
  try simp only [Act.put, List.setIfInBounds_toArray, List.set_cons_zero, List.set_cons_succ]
  refine e_take (i := 2) (v := ?_) rfl (by kernel_rfl) (fun _ _ _ h => hpan _ _ _ _ _ h) (by rfl) ?_ hS ?_
  rotate_left
  · (intro w hSw; (try dsimp only at hSw); go_simp; try with_reducible rfl)
  try simp only [Act.put, List.setIfInBounds_toArray, List.set_cons_zero, List.set_cons_succ]
  refine e_take (i := 3) (v := ?_) rfl (by kernel_rfl) (fun _ _ _ h => hpan _ _ _ _ _ h) (by rfl) ?_ hS ?_
  rotate_left
  · (intro w hSw; (try dsimp only at hSw); go_simp; try with_reducible rfl)
  try simp only [Act.put, List.setIfInBounds_toArray, List.set_cons_zero, List.set_cons_succ]
  refine e_two (i := 0) (j := 6) rfl rfl (by kernel_rfl) (fun K' hK => ?_) (fun K' hK => ?_)
  · go_simp
    go_at_call 13
    refine (KC.out _ _ HD.out).mono ?_
    rintro e u1 ⟨rfl, hN1⟩
    have HU1 : Hid (In [] w u1 (FA bt 8 1000 L :: ChL cb c vl vt (Cells gt #[.int .u32 k0, .int .u32 k1, .int .i64 k2, .int .i64 k3, .int .i64 k4] 24 :: []))) := Lib.hid hN1
    clear hN1
    refine hK.out _ _ ⟨cell_of (HU1.out.block 4 rfl) rfl, cell_of (HU1.out.block 4 rfl) rfl, cell_of (HU1.out.block 4 rfl) rfl, cell_of (HU1.out.block 4 rfl) rfl, cell_of (HU1.out.block 4 rfl) rfl⟩ (fun hS => ?_)
    clear hK K'
    try simp only [Act.put, List.setIfInBounds_toArray, List.set_cons_zero, List.set_cons_succ]
    refine e_two (i := 4) (j := 6) rfl rfl (by kernel_rfl) (fun K' hK => ?_) (fun K' hK => ?_)
    · go_simp
      go_at_call 10
      refine (KM.out _ _ HU1.out).mono ?_
      rintro e u2 ⟨vM, rfl, hN2⟩
      obtain ⟨aM, nM, rfl⟩ := ByR.shape hN2
      have HU2 : Hid (In [] w u2 (ByR (.slice aM m.length nM) m :: FA bt 8 1000 L :: ChL cb c vl vt (Cells gt #[.int .u32 k0, .int .u32 k1, .int .i64 k2, .int .i64 k3, .int .i64 k4] 24 :: []))) := Lib.hid hN2
      clear hN2
      refine hK.out _ _ ⟨cell_of (HU2.out.block 5 rfl) rfl, cell_of (HU2.out.block 5 rfl) rfl, cell_of (HU2.out.block 5 rfl) rfl, cell_of (HU2.out.block 5 rfl) rfl, cell_of (HU2.out.block 5 rfl) rfl⟩ (fun hS => ?_)
      clear hK K'
      try simp only [Act.put, List.setIfInBounds_toArray, List.set_cons_zero, List.set_cons_succ]
      refine e_two (i := 5) (j := 6) rfl rfl (by kernel_rfl) (fun K' hK => ?_) (fun K' hK => ?_)
      · go_simp
        go_at_call 12
        refine (KP.out _ _ _ _ HU2.out).mono ?_
        rintro e u3 ⟨vp, vr, rfl, hN3⟩
        obtain ⟨ap, np, rfl⟩ := ByR.shape hN3
        obtain ⟨Fr, rr⟩ := hN3.get 1 rfl
        obtain ⟨ar, nr, rfl, -, -, -⟩ := RowA.shape rr
        have HU3 : Hid (In [] w u3 (ByR (.slice ap pk.length np) pk :: RecR (.slice ar rc.length nr) rc :: FA bt 8 1000 L' :: ChL cb c vl vt (Cells gt #[.int .u32 k0, .int .u32 k1, .int .i64 k2, .int .i64 k3, .int .i64 k4] 24 :: []))) := Lib.hid hN3
        clear hN3 rr
        refine hK.out _ _ ⟨cell_of (HU3.out.block 6 rfl) rfl, cell_of (HU3.out.block 6 rfl) rfl, cell_of (HU3.out.block 6 rfl) rfl, cell_of (HU3.out.block 6 rfl) rfl, cell_of (HU3.out.block 6 rfl) rfl⟩ (fun hS => ?_)
        clear hK K'
        try simp only [Act.put, List.setIfInBounds_toArray, List.set_cons_zero, List.set_cons_succ]
        refine e_pin (i := 6) rfl (by kernel_rfl) (fun K' hK => ?_)
        go_simp
        have hA4 := HU3.out.cells (plC 0 0 0 (.slice none 0 0) (.slice none 0 0)) 43
        generalize u3.heap.size = gA at *
        generalize (u3.alloc (.cells (plC 0 0 0 (.slice none 0 0) (.slice none 0 0)) 43)) = u4 at *
        have HU4 : Hid (In [] w u4 (ByR (.slice ap pk.length np) pk :: RecR (.slice ar rc.length nr) rc :: FA bt 8 1000 L' :: ChL cb c vl vt (Cells gA (plC 0 0 0 (.slice none 0 0) (.slice none 0 0)) 43 :: Cells gt #[.int .u32 k0, .int .u32 k1, .int .i64 k2, .int .i64 k3, .int .i64 k4] 24 :: []))) := Lib.hid (hA4.sel2 (R1 := [_, _, _, _, _, _, _, _]) [1, 2, 3, 4, 5, 6, 0, 7] (by decide) rfl)
        clear hA4
        refine hK.out _ _ ⟨cell_of (HU4.out.block 7 rfl) rfl, cell_of (HU4.out.block 7 rfl) rfl, cell_of (HU4.out.block 7 rfl) rfl, cell_of (HU4.out.block 7 rfl) rfl, cell_of (HU4.out.block 7 rfl) rfl⟩ (fun hS => ?_)
        clear hK K'
        try simp only [Act.put, List.setIfInBounds_toArray, List.set_cons_zero, List.set_cons_succ]
        refine e_last (i := 7) rfl (by kernel_rfl) (fun K' hK => ?_)
        have hF := HU4.out.setFull 6 rfl (xs := (plC 2 0 home (.slice ap pk.length np) (.slice ar rc.length nr)).toList) (b := gA) (C := (plC 0 0 0 (.slice none 0 0) (.slice none 0 0))) (T := 43) rfl
        refine store_step (by rfl) 43 (.tmp 8) (.tmp 41) (by rfl) gA 0 (plC 2 0 home (.slice ap pk.length np) (.slice ar rc.length nr)) (by rfl) (by rfl) (there_of (C := (plC 0 0 0 (.slice none 0 0) (.slice none 0 0))) (T := 43) (HU4.out.block 6 rfl)) (by kernel_rfl) (plC_all _ _ _ _ _ _ _ _ _) ?_
        refine hK.out _ _ ?_
        clear hK K' hS
        go_wp2_with fail
        refine meet_f hJ ?_ (by kernel_rfl)
        exact ⟨gA, _, _, rfl, hF.sel2 (R1 := [_, _, _, _, _, _, _, _]) [6, 0, 1, 2, 3, 4, 5, 7] (by decide) rfl⟩
      · go_simp
        have hA5 := HU2.out.cells (plC 0 0 0 (.slice none 0 0) (.slice none 0 0)) 43
        generalize u2.heap.size = gA at *
        generalize (u2.alloc (.cells (plC 0 0 0 (.slice none 0 0) (.slice none 0 0)) 43)) = u5 at *
        have HU5 : Hid (In [] w u5 (ByR (.slice aM m.length nM) m :: FA bt 8 1000 L :: ChL cb c vl vt (Cells gA (plC 0 0 0 (.slice none 0 0) (.slice none 0 0)) 43 :: Cells gt #[.int .u32 k0, .int .u32 k1, .int .i64 k2, .int .i64 k3, .int .i64 k4] 24 :: []))) := Lib.hid (hA5.sel2 (R1 := [_, _, _, _, _, _, _]) [1, 2, 3, 4, 5, 0, 6] (by decide) rfl)
        clear hA5
        refine hK.out _ _ ⟨cell_of (HU5.out.block 6 rfl) rfl, cell_of (HU5.out.block 6 rfl) rfl, cell_of (HU5.out.block 6 rfl) rfl, cell_of (HU5.out.block 6 rfl) rfl, cell_of (HU5.out.block 6 rfl) rfl⟩ (fun hS => ?_)
        clear hK K'
        try simp only [Act.put, List.setIfInBounds_toArray, List.set_cons_zero, List.set_cons_succ]
        refine e_pin (i := 5) rfl (by kernel_rfl) (fun K' hK => ?_)
        go_simp
        go_at_call 12
        refine (KP.out _ _ _ _ HU5.out).mono ?_
        rintro e u6 ⟨vp, vr, rfl, hN6⟩
        obtain ⟨ap, np, rfl⟩ := ByR.shape hN6
        obtain ⟨Fr, rr⟩ := hN6.get 1 rfl
        obtain ⟨ar, nr, rfl, -, -, -⟩ := RowA.shape rr
        have HU6 : Hid (In [] w u6 (ByR (.slice ap pk.length np) pk :: RecR (.slice ar rc.length nr) rc :: FA bt 8 1000 L' :: ChL cb c vl vt (Cells gA (plC 0 0 0 (.slice none 0 0) (.slice none 0 0)) 43 :: Cells gt #[.int .u32 k0, .int .u32 k1, .int .i64 k2, .int .i64 k3, .int .i64 k4] 24 :: []))) := Lib.hid hN6
        clear hN6 rr
        refine hK.out _ _ ⟨cell_of (HU6.out.block 7 rfl) rfl, cell_of (HU6.out.block 7 rfl) rfl, cell_of (HU6.out.block 7 rfl) rfl, cell_of (HU6.out.block 7 rfl) rfl, cell_of (HU6.out.block 7 rfl) rfl⟩ (fun hS => ?_)
        clear hK K'
        try simp only [Act.put, List.setIfInBounds_toArray, List.set_cons_zero, List.set_cons_succ]
        refine e_last (i := 7) rfl (by kernel_rfl) (fun K' hK => ?_)
        have hF := HU6.out.setFull 6 rfl (xs := (plC 2 0 home (.slice ap pk.length np) (.slice ar rc.length nr)).toList) (b := gA) (C := (plC 0 0 0 (.slice none 0 0) (.slice none 0 0))) (T := 43) rfl
        refine store_step (by rfl) 43 (.tmp 8) (.tmp 41) (by rfl) gA 0 (plC 2 0 home (.slice ap pk.length np) (.slice ar rc.length nr)) (by rfl) (by rfl) (there_of (C := (plC 0 0 0 (.slice none 0 0) (.slice none 0 0))) (T := 43) (HU6.out.block 6 rfl)) (by kernel_rfl) (plC_all _ _ _ _ _ _ _ _ _) ?_
        refine hK.out _ _ ?_
        clear hK K' hS
        go_wp2_with fail
        refine meet_f hJ ?_ (by kernel_rfl)
        exact ⟨gA, _, _, rfl, hF.sel2 (R1 := [_, _, _, _, _, _, _, _]) [6, 0, 1, 2, 3, 4, 5, 7] (by decide) rfl⟩
    · go_simp
      have hA7 := HU1.out.cells (plC 0 0 0 (.slice none 0 0) (.slice none 0 0)) 43
      generalize u1.heap.size = gA at *
      generalize (u1.alloc (.cells (plC 0 0 0 (.slice none 0 0) (.slice none 0 0)) 43)) = u7 at *
      have HU7 : Hid (In [] w u7 (FA bt 8 1000 L :: ChL cb c vl vt (Cells gA (plC 0 0 0 (.slice none 0 0) (.slice none 0 0)) 43 :: Cells gt #[.int .u32 k0, .int .u32 k1, .int .i64 k2, .int .i64 k3, .int .i64 k4] 24 :: []))) := Lib.hid (hA7.sel2 (R1 := [_, _, _, _, _, _]) [1, 2, 3, 4, 0, 5] (by decide) rfl)
      clear hA7
      refine hK.out _ _ ⟨cell_of (HU7.out.block 5 rfl) rfl, cell_of (HU7.out.block 5 rfl) rfl, cell_of (HU7.out.block 5 rfl) rfl, cell_of (HU7.out.block 5 rfl) rfl, cell_of (HU7.out.block 5 rfl) rfl⟩ (fun hS => ?_)
      clear hK K'
      try simp only [Act.put, List.setIfInBounds_toArray, List.set_cons_zero, List.set_cons_succ]
      refine e_pin (i := 4) rfl (by kernel_rfl) (fun K' hK => ?_)
      go_simp
      go_at_call 10
      refine (KM.out _ _ HU7.out).mono ?_
      rintro e u8 ⟨vM, rfl, hN8⟩
      obtain ⟨aM, nM, rfl⟩ := ByR.shape hN8
      have HU8 : Hid (In [] w u8 (ByR (.slice aM m.length nM) m :: FA bt 8 1000 L :: ChL cb c vl vt (Cells gA (plC 0 0 0 (.slice none 0 0) (.slice none 0 0)) 43 :: Cells gt #[.int .u32 k0, .int .u32 k1, .int .i64 k2, .int .i64 k3, .int .i64 k4] 24 :: []))) := Lib.hid hN8
      clear hN8
      refine hK.out _ _ ⟨cell_of (HU8.out.block 6 rfl) rfl, cell_of (HU8.out.block 6 rfl) rfl, cell_of (HU8.out.block 6 rfl) rfl, cell_of (HU8.out.block 6 rfl) rfl, cell_of (HU8.out.block 6 rfl) rfl⟩ (fun hS => ?_)
      clear hK K'
      try simp only [Act.put, List.setIfInBounds_toArray, List.set_cons_zero, List.set_cons_succ]
      refine e_pin (i := 5) rfl (by kernel_rfl) (fun K' hK => ?_)
      go_simp
      go_at_call 12
      refine (KP.out _ _ _ _ HU8.out).mono ?_
      rintro e u9 ⟨vp, vr, rfl, hN9⟩
      obtain ⟨ap, np, rfl⟩ := ByR.shape hN9
      obtain ⟨Fr, rr⟩ := hN9.get 1 rfl
      obtain ⟨ar, nr, rfl, -, -, -⟩ := RowA.shape rr
      have HU9 : Hid (In [] w u9 (ByR (.slice ap pk.length np) pk :: RecR (.slice ar rc.length nr) rc :: FA bt 8 1000 L' :: ChL cb c vl vt (Cells gA (plC 0 0 0 (.slice none 0 0) (.slice none 0 0)) 43 :: Cells gt #[.int .u32 k0, .int .u32 k1, .int .i64 k2, .int .i64 k3, .int .i64 k4] 24 :: []))) := Lib.hid hN9
      clear hN9 rr
      refine hK.out _ _ ⟨cell_of (HU9.out.block 7 rfl) rfl, cell_of (HU9.out.block 7 rfl) rfl, cell_of (HU9.out.block 7 rfl) rfl, cell_of (HU9.out.block 7 rfl) rfl, cell_of (HU9.out.block 7 rfl) rfl⟩ (fun hS => ?_)
      clear hK K'
      try simp only [Act.put, List.setIfInBounds_toArray, List.set_cons_zero, List.set_cons_succ]
      refine e_last (i := 7) rfl (by kernel_rfl) (fun K' hK => ?_)
      have hF := HU9.out.setFull 6 rfl (xs := (plC 2 0 home (.slice ap pk.length np) (.slice ar rc.length nr)).toList) (b := gA) (C := (plC 0 0 0 (.slice none 0 0) (.slice none 0 0))) (T := 43) rfl
      refine store_step (by rfl) 43 (.tmp 8) (.tmp 41) (by rfl) gA 0 (plC 2 0 home (.slice ap pk.length np) (.slice ar rc.length nr)) (by rfl) (by rfl) (there_of (C := (plC 0 0 0 (.slice none 0 0) (.slice none 0 0))) (T := 43) (HU9.out.block 6 rfl)) (by kernel_rfl) (plC_all _ _ _ _ _ _ _ _ _) ?_
      refine hK.out _ _ ?_
      clear hK K' hS
      go_wp2_with fail
      refine meet_f hJ ?_ (by kernel_rfl)
      exact ⟨gA, _, _, rfl, hF.sel2 (R1 := [_, _, _, _, _, _, _, _]) [6, 0, 1, 2, 3, 4, 5, 7] (by decide) rfl⟩
  · go_simp
    have hA10 := HD.out.cells (plC 0 0 0 (.slice none 0 0) (.slice none 0 0)) 43
    generalize VD.heap.size = gA at *
    generalize (VD.alloc (.cells (plC 0 0 0 (.slice none 0 0) (.slice none 0 0)) 43)) = u10 at *
    have HU10 : Hid (In [] w u10 (FA bt 8 1000 L :: ChL cb c vl vt (Cells gA (plC 0 0 0 (.slice none 0 0) (.slice none 0 0)) 43 :: Cells gt #[.int .u32 k0, .int .u32 k1, .int .i64 k2, .int .i64 k3, .int .i64 k4] 24 :: []))) := Lib.hid (hA10.sel2 (R1 := [_, _, _, _, _, _]) [1, 2, 3, 4, 0, 5] (by decide) rfl)
    clear hA10
    refine hK.out _ _ ⟨cell_of (HU10.out.block 5 rfl) rfl, cell_of (HU10.out.block 5 rfl) rfl, cell_of (HU10.out.block 5 rfl) rfl, cell_of (HU10.out.block 5 rfl) rfl, cell_of (HU10.out.block 5 rfl) rfl⟩ (fun hS => ?_)
    clear hK K'
    try simp only [Act.put, List.setIfInBounds_toArray, List.set_cons_zero, List.set_cons_succ]
    refine e_pin (i := 0) rfl (by kernel_rfl) (fun K' hK => ?_)
    go_simp
    go_at_call 13
    refine (KC.out _ _ HU10.out).mono ?_
    rintro e u11 ⟨rfl, hN11⟩
    have HU11 : Hid (In [] w u11 (FA bt 8 1000 L :: ChL cb c vl vt (Cells gA (plC 0 0 0 (.slice none 0 0) (.slice none 0 0)) 43 :: Cells gt #[.int .u32 k0, .int .u32 k1, .int .i64 k2, .int .i64 k3, .int .i64 k4] 24 :: []))) := Lib.hid hN11
    clear hN11
    refine hK.out _ _ ⟨cell_of (HU11.out.block 5 rfl) rfl, cell_of (HU11.out.block 5 rfl) rfl, cell_of (HU11.out.block 5 rfl) rfl, cell_of (HU11.out.block 5 rfl) rfl, cell_of (HU11.out.block 5 rfl) rfl⟩ (fun hS => ?_)
    clear hK K'
    try simp only [Act.put, List.setIfInBounds_toArray, List.set_cons_zero, List.set_cons_succ]
    refine e_pin (i := 4) rfl (by kernel_rfl) (fun K' hK => ?_)
    go_simp
    go_at_call 10
    refine (KM.out _ _ HU11.out).mono ?_
    rintro e u12 ⟨vM, rfl, hN12⟩
    obtain ⟨aM, nM, rfl⟩ := ByR.shape hN12
    have HU12 : Hid (In [] w u12 (ByR (.slice aM m.length nM) m :: FA bt 8 1000 L :: ChL cb c vl vt (Cells gA (plC 0 0 0 (.slice none 0 0) (.slice none 0 0)) 43 :: Cells gt #[.int .u32 k0, .int .u32 k1, .int .i64 k2, .int .i64 k3, .int .i64 k4] 24 :: []))) := Lib.hid hN12
    clear hN12
    refine hK.out _ _ ⟨cell_of (HU12.out.block 6 rfl) rfl, cell_of (HU12.out.block 6 rfl) rfl, cell_of (HU12.out.block 6 rfl) rfl, cell_of (HU12.out.block 6 rfl) rfl, cell_of (HU12.out.block 6 rfl) rfl⟩ (fun hS => ?_)
    clear hK K'
    try simp only [Act.put, List.setIfInBounds_toArray, List.set_cons_zero, List.set_cons_succ]
    refine e_pin (i := 5) rfl (by kernel_rfl) (fun K' hK => ?_)
    go_simp
    go_at_call 12
    refine (KP.out _ _ _ _ HU12.out).mono ?_
    rintro e u13 ⟨vp, vr, rfl, hN13⟩
    obtain ⟨ap, np, rfl⟩ := ByR.shape hN13
    obtain ⟨Fr, rr⟩ := hN13.get 1 rfl
    obtain ⟨ar, nr, rfl, -, -, -⟩ := RowA.shape rr
    have HU13 : Hid (In [] w u13 (ByR (.slice ap pk.length np) pk :: RecR (.slice ar rc.length nr) rc :: FA bt 8 1000 L' :: ChL cb c vl vt (Cells gA (plC 0 0 0 (.slice none 0 0) (.slice none 0 0)) 43 :: Cells gt #[.int .u32 k0, .int .u32 k1, .int .i64 k2, .int .i64 k3, .int .i64 k4] 24 :: []))) := Lib.hid hN13
    clear hN13 rr
    refine hK.out _ _ ⟨cell_of (HU13.out.block 7 rfl) rfl, cell_of (HU13.out.block 7 rfl) rfl, cell_of (HU13.out.block 7 rfl) rfl, cell_of (HU13.out.block 7 rfl) rfl, cell_of (HU13.out.block 7 rfl) rfl⟩ (fun hS => ?_)
    clear hK K'
    try simp only [Act.put, List.setIfInBounds_toArray, List.set_cons_zero, List.set_cons_succ]
    refine e_last (i := 7) rfl (by kernel_rfl) (fun K' hK => ?_)
    have hF := HU13.out.setFull 6 rfl (xs := (plC 2 0 home (.slice ap pk.length np) (.slice ar rc.length nr)).toList) (b := gA) (C := (plC 0 0 0 (.slice none 0 0) (.slice none 0 0))) (T := 43) rfl
    refine store_step (by rfl) 43 (.tmp 8) (.tmp 41) (by rfl) gA 0 (plC 2 0 home (.slice ap pk.length np) (.slice ar rc.length nr)) (by rfl) (by rfl) (there_of (C := (plC 0 0 0 (.slice none 0 0) (.slice none 0 0))) (T := 43) (HU13.out.block 6 rfl)) (by kernel_rfl) (plC_all _ _ _ _ _ _ _ _ _) ?_
    refine hK.out _ _ ?_
    clear hK K' hS
    go_wp2_with fail
    refine meet_f hJ ?_ (by kernel_rfl)
    exact ⟨gA, _, _, rfl, hF.sel2 (R1 := [_, _, _, _, _, _, _, _]) [6, 0, 1, 2, 3, 4, 5, 7] (by decide) rfl⟩
end Go.Proofs.YtgapbecddgfkmaaGreat
