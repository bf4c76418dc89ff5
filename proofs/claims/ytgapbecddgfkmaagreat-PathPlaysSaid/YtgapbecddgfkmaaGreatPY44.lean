/- Rows.PathPlaysSaid -/
import Derived.Test.YtgapbecddgfkmaaGreatPY43
import Derived.Test.YtgapbecddgfkmaaGreatPY24
import Derived.Test.YtgapbecddgfkmaaGreatPY29
namespace Go.Proofs.YtgapbecddgfkmaaGreat
open Go.RowKit
set_option linter.unusedVariables false
set_option maxHeartbeats 64000000
set_option maxRecDepth 100000
theorem pl_same {w w1 : World} {bt cb bt2 cb2 g9 : Nat} {mo mf mt : Int} {M : List Fl} {c : ChD} {v r bk : Int} {pk : List UInt8} {rc : List Rec} {ap ap2 ar ar2 : Option Addr} {np np2 nr nr2 g17 g18 : Nat} {vl vt vl2 vt2 : Value} (hrc : rc.length ≤ 1 ∧ ∀ r ∈ rc, PkRec r) (h : In [] w w1 (Cells g18 (outC v r bk (.slice ap2 pk.length np2)) 40 :: Cells g17 (plC v r bk (.slice ap pk.length np) (.slice ar rc.length nr)) 43 :: ByR (.slice ap2 pk.length np2) pk :: RecR (.slice ar2 rc.length nr2) rc :: ByR (.slice ap pk.length np) pk :: RecR (.slice ar rc.length nr) rc :: FA bt mo 20 M :: ChL cb c vl vt (RFA bt2 mo 20 (sortF M) :: RChL cb2 c vl2 vt2 (Cells g9 (cfC 168364297 13 mf 20 mt 200 20000 3) 46 :: []))))
    {z0 z1 z2 z3 z4 z5 z6 z7 z8 z9 z12 z13 z14 z15 z16 z20 z21 z22 z23 z24 z25 z26 z27 z28 z29 z30 z31 z32 z33 z34 z35 z36 z37 z38 z39 z40 z41 z42 z43 z44 z45 z46 z47 z48 z49 z50 z51 z52 z53 z54 z55 z56 z57 z58 z59 z60 z61 z62 z63 z64 z65 z66 z67 z68 z69 z70 z71 z72 z73 z74 z75 z76 z77 z78 z79 z80 z81 z82 z83 z84 z85 z86 z87 z88 z89 z90 z91 z92 z93 z94 z95 z96 z97 z98 z99 z100 z101 z102 z103 z104 z105 z106 z107 z108 z109 z110 z111 z112 z113 z114 z115 z116 z117 z118 z119 z120 z121 z122 z123 z124 z125 z126 z127 z128 z129 z130 z131 z132 z133 z134 z135 z136 z137 z138 z139 z140 z141 z142 : Value} {Q : Exit → Act → World → Prop} (hpan : ∀ ch a' d v w', Q (.panic ch) (Act.put a' (some d) v) w' → Q (.panic ch) a' w')
    (hK : ∀ (f : Nat → Value) (wz : World), (PlIn bt cb bt2 cb2 g9 mo mf mt M c w wz) → Q .normal ⟨#[z0, z1, z2, z3, z4, z5, z6, z7, z8, z9, .pointer (some ⟨bt, 0, none⟩), .pointer (some ⟨bt2, 0, none⟩), z12, z13, z14, z15, z16, .pointer (some ⟨g17, 0, none⟩), .pointer (some ⟨g18, 0, none⟩), .slice ar2 rc.length nr2, z20, z21, z22, z23, z24, z25, z26, z27, z28, z29, z30, z31, z32, z33, z34, z35, z36, z37, z38, z39, z40, z41, z42, z43, z44, z45, z46, z47, z48, z49, z50, z51, z52, z53, z54, z55, z56, z57, z58, z59, z60, z61, z62, z63, z64, z65, z66, z67, z68, z69, z70, z71, z72, z73, z74, z75, z76, z77, z78, z79, z80, z81, z82, z83, z84, z85, z86, z87, z88, z89, z90, z91, z92, z93, z94, z95, z96, z97, z98, z99, z100, z101, z102, z103, z104, z105, z106, z107, z108, z109, z110, z111, z112, z113, z114, z115, z116, z117, z118, z119, f 120, f 121, f 122, f 123, f 124, f 125, f 126, f 127, f 128, f 129, f 130, f 131, f 132, f 133, f 134, f 135, f 136, f 137, f 138, f 139, f 140, .bool false, z142], []⟩ wz) :
    Code.wp Tryz.prog plR20 Q ⟨#[z0, z1, z2, z3, z4, z5, z6, z7, z8, z9, .pointer (some ⟨bt, 0, none⟩), .pointer (some ⟨bt2, 0, none⟩), z12, z13, z14, z15, z16, .pointer (some ⟨g17, 0, none⟩), .pointer (some ⟨g18, 0, none⟩), .slice ar2 rc.length nr2, z20, z21, z22, z23, z24, z25, z26, z27, z28, z29, z30, z31, z32, z33, z34, z35, z36, z37, z38, z39, z40, z41, z42, z43, z44, z45, z46, z47, z48, z49, z50, z51, z52, z53, z54, z55, z56, z57, z58, z59, z60, z61, z62, z63, z64, z65, z66, z67, z68, z69, z70, z71, z72, z73, z74, z75, z76, z77, z78, z79, z80, z81, z82, z83, z84, z85, z86, z87, z88, z89, z90, z91, z92, z93, z94, z95, z96, z97, z98, z99, z100, z101, z102, z103, z104, z105, z106, z107, z108, z109, z110, z111, z112, z113, z114, z115, z116, z117, z118, z119, z120, z121, z122, z123, z124, z125, z126, z127, z128, z129, z130, z131, z132, z133, z134, z135, z136, z137, z138, z139, z140, z141, z142], []⟩ w1 := by
  refine wp_piece (fun a' w' => ∃ f : Nat → Value, (PlIn bt cb bt2 cb2 g9 mo mf mt M c w w') ∧ a' = (⟨#[z0, z1, z2, z3, z4, z5, z6, z7, z8, z9, .pointer (some ⟨bt, 0, none⟩), .pointer (some ⟨bt2, 0, none⟩), z12, z13, z14, z15, z16, .pointer (some ⟨g17, 0, none⟩), .pointer (some ⟨g18, 0, none⟩), .slice ar2 rc.length nr2, z20, z21, z22, z23, z24, z25, z26, z27, z28, z29, z30, z31, z32, z33, z34, z35, z36, z37, z38, z39, z40, z41, z42, z43, z44, z45, z46, z47, z48, z49, z50, z51, z52, z53, z54, z55, z56, z57, z58, z59, z60, z61, z62, z63, z64, z65, z66, z67, z68, z69, z70, z71, z72, z73, z74, z75, z76, z77, z78, z79, z80, z81, z82, z83, z84, z85, z86, z87, z88, z89, z90, z91, z92, z93, z94, z95, z96, z97, z98, z99, z100, z101, z102, z103, z104, z105, z106, z107, z108, z109, z110, z111, z112, z113, z114, z115, z116, z117, z118, z119, f 120, f 121, f 122, f 123, f 124, f 125, f 126, f 127, f 128, f 129, f 130, f 131, f 132, f 133, f 134, f 135, f 136, f 137, f 138, f 139, f 140, .bool false, z142], []⟩ : Act)) (fun a' w' hc => ?_) ?_
  · obtain ⟨f, hc, rfl⟩ := hc
    exact hK f w' hc
  intro J K' hJ hM
  clear hK
  have h2 := (h.drewN 1).sel2 (R1 := [_, _, _, _, _, _, _, _, _, _, _, _, _, _, _]) (R2 := []) [10, 0, 1, 2, 3, 4, 5, 6, 7, 8, 9, 11, 12, 13, 14] (by decide) rfl
  obtain ⟨vv, h3⟩ := In.openR h2
  obtain ⟨Fz, rz⟩ := h3.get 1 rfl
  obtain ⟨va, nv, rfl, -, -, -⟩ := RowA.shape rz
  have HD : Hid (In [] w w1.drew (Cells bt2 #[.slice va (sortF M).length nv, .int .i64 mo, .int .i64 20] 78 :: RowA 49 8 (.slice va (sortF M).length nv) (sortF M).length (flatF (sortF M)) :: Cells g18 (outC v r bk (.slice ap2 pk.length np2)) 40 :: Cells g17 (plC v r bk (.slice ap pk.length np) (.slice ar rc.length nr)) 43 :: ByR (.slice ap2 pk.length np2) pk :: RecR (.slice ar2 rc.length nr2) rc :: ByR (.slice ap pk.length np) pk :: RecR (.slice ar rc.length nr) rc :: FA bt mo 20 M :: ChL cb c vl vt (RChL cb2 c vl2 vt2 (Cells g9 (cfC 168364297 13 mf 20 mt 200 20000 3) 46 :: [])))) := Lib.hid h3
  have HRC := Lib.hid hrc
  clear h h2 h3 rz hrc
  conv => arg 2; whnf
  refine e_start (fun w' => w'.cell? ⟨g17, 0, none⟩ = some (.int .i64 v) ∧ w'.cell? ⟨g17, 1, none⟩ = some (.int .i64 r) ∧ w'.cell? ⟨g17, 2, none⟩ = some (.int .i64 bk) ∧ w'.cell? ⟨g17, 3, none⟩ = some ((.slice ap pk.length np)) ∧ w'.cell? ⟨g17, 4, none⟩ = some ((.slice ar rc.length nr)) ∧ w'.cell? ⟨g18, 0, none⟩ = some (.int .i64 v) ∧ w'.cell? ⟨g18, 1, none⟩ = some (.int .i64 r) ∧ w'.cell? ⟨g18, 2, none⟩ = some (.int .i64 bk) ∧ w'.cell? ⟨g18, 3, none⟩ = some ((.slice ap2 pk.length np2)) ∧ w'.cell? ⟨bt2, 0, none⟩ = some (.slice va (sortF M).length nv)) (by kernel_rfl) ⟨cell_of (HD.out.block 3 rfl) rfl, cell_of (HD.out.block 3 rfl) rfl, cell_of (HD.out.block 3 rfl) rfl, cell_of (HD.out.block 3 rfl) rfl, cell_of (HD.out.block 3 rfl) rfl, cell_of (HD.out.block 2 rfl) rfl, cell_of (HD.out.block 2 rfl) rfl, cell_of (HD.out.block 2 rfl) rfl, cell_of (HD.out.block 2 rfl) rfl, cell_of (HD.out.block 0 rfl) rfl⟩ (fun hS => ?_)
  generalize w1.drew = VD at *
  refine e_take (i := 0) (v := ?_) rfl (by kernel_rfl) (fun _ _ _ h => hpan _ _ _ _ _ h) (by rfl) ?_ hS ?_
  rotate_left
  · (intro w hSw; (try dsimp only at hSw); go_simp; try with_reducible rfl)
  try simp only [Act.put, List.setIfInBounds_toArray, List.set_cons_zero, List.set_cons_succ]
  refine e_take (i := 1) (v := ?_) rfl (by kernel_rfl) (fun _ _ _ h => hpan _ _ _ _ _ h) (by rfl) ?_ hS ?_
  rotate_left
  · (intro w hSw; (try dsimp only at hSw); go_simp; try with_reducible rfl)
  try simp only [Act.put, List.setIfInBounds_toArray, List.set_cons_zero, List.set_cons_succ]
  refine e_take (i := 2) (v := ?_) rfl (by kernel_rfl) (fun _ _ _ h => hpan _ _ _ _ _ h) (by rfl) ?_ hS ?_
  rotate_left
  · (intro w hSw; (try dsimp only at hSw); go_simp; try with_reducible rfl)
  try simp only [Act.put, List.setIfInBounds_toArray, List.set_cons_zero, List.set_cons_succ]
  refine e_pin (i := 3) rfl (by kernel_rfl) (fun K' hK => ?_)
  go_simp
  go_at_call 24
  refine (o_l23out 6 4 rfl rfl HD.out).mono ?_
  rintro e w2 ⟨rfl, ho⟩
  have H2 : Hid (In [] w w2 (Cells bt2 #[.slice va (sortF M).length nv, .int .i64 mo, .int .i64 20] 78 :: RowA 49 8 (.slice va (sortF M).length nv) (sortF M).length (flatF (sortF M)) :: Cells g18 (outC v r bk (.slice ap2 pk.length np2)) 40 :: Cells g17 (plC v r bk (.slice ap pk.length np) (.slice ar rc.length nr)) 43 :: ByR (.slice ap2 pk.length np2) pk :: RecR (.slice ar2 rc.length nr2) rc :: ByR (.slice ap pk.length np) pk :: RecR (.slice ar rc.length nr) rc :: FA bt mo 20 M :: ChL cb c vl vt (RChL cb2 c vl2 vt2 (Cells g9 (cfC 168364297 13 mf 20 mt 200 20000 3) 46 :: [])))) := Lib.hid ho
  refine hK.out _ _ ⟨cell_of (H2.out.block 3 rfl) rfl, cell_of (H2.out.block 3 rfl) rfl, cell_of (H2.out.block 3 rfl) rfl, cell_of (H2.out.block 3 rfl) rfl, cell_of (H2.out.block 3 rfl) rfl, cell_of (H2.out.block 2 rfl) rfl, cell_of (H2.out.block 2 rfl) rfl, cell_of (H2.out.block 2 rfl) rfl, cell_of (H2.out.block 2 rfl) rfl, cell_of (H2.out.block 0 rfl) rfl⟩ (fun hS => ?_)
  clear hK K' ho
  try simp only [Act.put, List.setIfInBounds_toArray, List.set_cons_zero, List.set_cons_succ]
  refine e_take (i := 4) (v := ?_) rfl (by kernel_rfl) (fun _ _ _ h => hpan _ _ _ _ _ h) (by rfl) ?_ hS ?_
  rotate_left
  · (intro w hSw; (try dsimp only at hSw); go_simp; try with_reducible rfl)
  try simp only [Act.put, List.setIfInBounds_toArray, List.set_cons_zero, List.set_cons_succ]
  refine e_take (i := 5) (v := ?_) rfl (by kernel_rfl) (fun _ _ _ h => hpan _ _ _ _ _ h) (by rfl) ?_ hS ?_
  rotate_left
  · (intro w hSw; (try dsimp only at hSw); go_simp; try with_reducible rfl)
  try simp only [Act.put, List.setIfInBounds_toArray, List.set_cons_zero, List.set_cons_succ]
  refine e_take (i := 6) (v := ?_) rfl (by kernel_rfl) (fun _ _ _ h => hpan _ _ _ _ _ h) (by rfl) ?_ hS ?_
  rotate_left
  · (intro w hSw; (try dsimp only at hSw); go_simp; try with_reducible rfl)
  try simp only [Act.put, List.setIfInBounds_toArray, List.set_cons_zero, List.set_cons_succ]
  refine e_take (i := 7) (v := ?_) rfl (by kernel_rfl) (fun _ _ _ h => hpan _ _ _ _ _ h) (by rfl) ?_ hS ?_
  rotate_left
  · (intro w hSw; (try dsimp only at hSw); go_simp; try with_reducible rfl)
  try simp only [Act.put, List.setIfInBounds_toArray, List.set_cons_zero, List.set_cons_succ]
  refine e_take (i := 8) (v := ?_) rfl (by kernel_rfl) (fun _ _ _ h => hpan _ _ _ _ _ h) (by rfl) ?_ hS ?_
  rotate_left
  · (intro w hSw; (try dsimp only at hSw); go_simp; try with_reducible rfl)
  try simp only [Act.put, List.setIfInBounds_toArray, List.set_cons_zero, List.set_cons_succ]
  refine e_pin (i := 9) rfl (by kernel_rfl) (fun K' hK => ?_)
  go_simp
  go_at_call 25
  refine (o_samerecs (by have := HRC.out.1; omega) HRC.out.2 7 5 rfl rfl H2.out).mono ?_
  rintro e w3 ⟨rfl, ho⟩
  have H3 : Hid (In [] w w3 (Cells bt2 #[.slice va (sortF M).length nv, .int .i64 mo, .int .i64 20] 78 :: RowA 49 8 (.slice va (sortF M).length nv) (sortF M).length (flatF (sortF M)) :: Cells g18 (outC v r bk (.slice ap2 pk.length np2)) 40 :: Cells g17 (plC v r bk (.slice ap pk.length np) (.slice ar rc.length nr)) 43 :: ByR (.slice ap2 pk.length np2) pk :: RecR (.slice ar2 rc.length nr2) rc :: ByR (.slice ap pk.length np) pk :: RecR (.slice ar rc.length nr) rc :: FA bt mo 20 M :: ChL cb c vl vt (RChL cb2 c vl2 vt2 (Cells g9 (cfC 168364297 13 mf 20 mt 200 20000 3) 46 :: [])))) := Lib.hid ho
  refine hK.out _ _ ⟨cell_of (H3.out.block 3 rfl) rfl, cell_of (H3.out.block 3 rfl) rfl, cell_of (H3.out.block 3 rfl) rfl, cell_of (H3.out.block 3 rfl) rfl, cell_of (H3.out.block 3 rfl) rfl, cell_of (H3.out.block 2 rfl) rfl, cell_of (H3.out.block 2 rfl) rfl, cell_of (H3.out.block 2 rfl) rfl, cell_of (H3.out.block 2 rfl) rfl, cell_of (H3.out.block 0 rfl) rfl⟩ (fun hS => ?_)
  clear hK K' ho
  try simp only [Act.put, List.setIfInBounds_toArray, List.set_cons_zero, List.set_cons_succ]
  refine e_take (i := 10) (v := ?_) rfl (by kernel_rfl) (fun _ _ _ h => hpan _ _ _ _ _ h) (by rfl) ?_ hS ?_
  rotate_left
  · (intro w hSw; (try dsimp only at hSw); go_simp; try with_reducible rfl)
  try simp only [Act.put, List.setIfInBounds_toArray, List.set_cons_zero, List.set_cons_succ]
  refine e_take (i := 11) (v := ?_) rfl (by kernel_rfl) (fun _ _ _ h => hpan _ _ _ _ _ h) (by rfl) ?_ hS ?_
  rotate_left
  · (intro w hSw; (try dsimp only at hSw); go_simp; try with_reducible rfl)
  try simp only [Act.put, List.setIfInBounds_toArray, List.set_cons_zero, List.set_cons_succ]
  refine e_take (i := 12) (v := ?_) rfl (by kernel_rfl) (fun _ _ _ h => hpan _ _ _ _ _ h) (by rfl) ?_ hS ?_
  rotate_left
  · (intro w hSw; (try dsimp only at hSw); go_simp; try with_reducible rfl)
  try simp only [Act.put, List.setIfInBounds_toArray, List.set_cons_zero, List.set_cons_succ]
  refine e_take (i := 13) (v := ?_) rfl (by kernel_rfl) (fun _ _ _ h => hpan _ _ _ _ _ h) (by rfl) ?_ hS ?_
  rotate_left
  · (intro w hSw; (try dsimp only at hSw); go_simp; try with_reducible rfl)
  try simp only [Act.put, List.setIfInBounds_toArray, List.set_cons_zero, List.set_cons_succ]
  refine e_take (i := 15) (v := ?_) rfl (by kernel_rfl) (fun _ _ _ h => hpan _ _ _ _ _ h) (by rfl) ?_ hS ?_
  rotate_left
  · (intro w hSw; (try dsimp only at hSw); go_simp; try with_reducible rfl)
  try simp only [Act.put, List.setIfInBounds_toArray, List.set_cons_zero, List.set_cons_succ]
  refine e_take (i := 16) (v := ?_) rfl (by kernel_rfl) (fun _ _ _ h => hpan _ _ _ _ _ h) (by rfl) ?_ hS ?_
  rotate_left
  · (intro w hSw; (try dsimp only at hSw); go_simp; try with_reducible rfl)
  try simp only [Act.put, List.setIfInBounds_toArray, List.set_cons_zero, List.set_cons_succ]
  refine e_take (i := 17) (v := ?_) rfl (by kernel_rfl) (fun _ _ _ h => hpan _ _ _ _ _ h) (by rfl) ?_ hS ?_
  rotate_left
  · (intro w hSw; (try dsimp only at hSw); go_simp; try with_reducible rfl)
  try simp only [Act.put, List.setIfInBounds_toArray, List.set_cons_zero, List.set_cons_succ]
  refine e_take (i := 18) (v := ?_) rfl (by kernel_rfl) (fun _ _ _ h => hpan _ _ _ _ _ h) (by rfl) ?_ hS ?_
  rotate_left
  · (intro w hSw; (try dsimp only at hSw); go_simp; try with_reducible rfl)
  try simp only [Act.put, List.setIfInBounds_toArray, List.set_cons_zero, List.set_cons_succ]
  refine e_pin (i := 14) rfl (by kernel_rfl) (fun K' hK => ?_)
  go_simp
  go_at_call 27
  refine (o_fall H3.out 8 rfl).mono ?_
  rintro e w4 ⟨vF, rfl, ho⟩
  obtain ⟨Fy, ry⟩ := ho.get 0 rfl
  obtain ⟨vfa, vfn, rfl, -, -, -⟩ := RowA.shape ry
  clear ry
  have H4 : Hid (In [] w w4 (RowA 49 8 (.slice vfa (sortF M).length vfn) (sortF M).length (flatF (sortF M)) :: Cells bt2 #[.slice va (sortF M).length nv, .int .i64 mo, .int .i64 20] 78 :: RowA 49 8 (.slice va (sortF M).length nv) (sortF M).length (flatF (sortF M)) :: Cells g18 (outC v r bk (.slice ap2 pk.length np2)) 40 :: Cells g17 (plC v r bk (.slice ap pk.length np) (.slice ar rc.length nr)) 43 :: ByR (.slice ap2 pk.length np2) pk :: RecR (.slice ar2 rc.length nr2) rc :: ByR (.slice ap pk.length np) pk :: RecR (.slice ar rc.length nr) rc :: FA bt mo 20 M :: ChL cb c vl vt (RChL cb2 c vl2 vt2 (Cells g9 (cfC 168364297 13 mf 20 mt 200 20000 3) 46 :: [])))) := Lib.hid ho
  refine hK.out _ _ ⟨cell_of (H4.out.block 4 rfl) rfl, cell_of (H4.out.block 4 rfl) rfl, cell_of (H4.out.block 4 rfl) rfl, cell_of (H4.out.block 4 rfl) rfl, cell_of (H4.out.block 4 rfl) rfl, cell_of (H4.out.block 3 rfl) rfl, cell_of (H4.out.block 3 rfl) rfl, cell_of (H4.out.block 3 rfl) rfl, cell_of (H4.out.block 3 rfl) rfl, cell_of (H4.out.block 1 rfl) rfl⟩ (fun hS => ?_)
  clear hK K' ho
  try simp only [Act.put, List.setIfInBounds_toArray, List.set_cons_zero, List.set_cons_succ]
  obtain ⟨F1, r1⟩ := H4.out.get 0 rfl
  obtain ⟨F2, r2⟩ := H4.out.get 2 rfl
  have K30a := sameflows r1.view r2.view
  rw [decide_eq_true rfl] at K30a
  have K30 := Lib.hid K30a
  clear K30a r1 r2
  refine e_pin (i := 19) rfl (by kernel_rfl) (fun K' hK => ?_)
  go_simp
  go_at_call 26
  refine K30.out.mono ?_
  rintro e w5 ⟨rfl, nq, rfl⟩
  have H5 := Lib.hid (H4.out.drewN nq)
  have HF : Hid (PlIn bt cb bt2 cb2 g9 mo mf mt M c w (w4.drewN nq)) := Lib.hid (by
    have h6 : In [] w (w4.drewN nq) (RFr bt2 mo 20 (.slice va (sortF M).length nv) (sortF M) ++ (Cells g18 (outC v r bk (.slice ap2 pk.length np2)) 40 :: Cells g17 (plC v r bk (.slice ap pk.length np) (.slice ar rc.length nr)) 43 :: ByR (.slice ap2 pk.length np2) pk :: RecR (.slice ar2 rc.length nr2) rc :: ByR (.slice ap pk.length np) pk :: RecR (.slice ar rc.length nr) rc :: FA bt mo 20 M :: ChL cb c vl vt (RChL cb2 c vl2 vt2 (Cells g9 (cfC 168364297 13 mf 20 mt 200 20000 3) 46 :: [])))) := H5.out.drop
    have h7 := In.closeR h6
    exact ⟨vl, vt, vl2, vt2, h7.sel2 (R1 := [_, _, _, _, _, _, _, _, _, _, _, _, _, _, _]) (R2 := []) [7, 8, 9, 10, 0, 11, 12, 13, 14] (by decide) rfl⟩)
  refine hK.out _ _ ⟨cell_of (H5.out.block 4 rfl) rfl, cell_of (H5.out.block 4 rfl) rfl, cell_of (H5.out.block 4 rfl) rfl, cell_of (H5.out.block 4 rfl) rfl, cell_of (H5.out.block 4 rfl) rfl, cell_of (H5.out.block 3 rfl) rfl, cell_of (H5.out.block 3 rfl) rfl, cell_of (H5.out.block 3 rfl) rfl, cell_of (H5.out.block 3 rfl) rfl, cell_of (H5.out.block 1 rfl) rfl⟩ (fun hS => ?_)
  clear hK K' H5 K30
  try simp only [Act.put, List.setIfInBounds_toArray, List.set_cons_zero, List.set_cons_succ]
  refine e_take (i := 20) (v := ?_) rfl (by kernel_rfl) (fun _ _ _ h => hpan _ _ _ _ _ h) (by rfl) ?_ hS ?_
  rotate_left
  · (intro w hSw; (try dsimp only at hSw); go_simp; try with_reducible rfl)
  try simp only [Act.put, List.setIfInBounds_toArray, List.set_cons_zero, List.set_cons_succ]
  refine e_last (i := 21) rfl (by kernel_rfl) (fun K' hK => ?_)
  go_simp
  refine hK.out _ _ ?_
  clear hK K' hS HD H2 H3 H4
  go_wp2_with fail
  refine meet_f hJ ?_ (by kernel_rfl)
  exact HF.out
theorem o_rfnewP {F0 : List Nat} {w0 w : World} {R : List Asrt} (h : In F0 w0 w R) (most idle : Int) : Calls Tryz.prog 18 #[.int .i64 most, .int .i64 idle] w fun e w' => ∃ bt, e = .returned (.pointer (some ⟨bt, 0, none⟩)) ∧ In F0 w0 w' (RFA bt (clampM most) (clampI idle) [] :: R) := by
  have c := h.make (A' := fun r => fun w' F => ∃ bt, r = .pointer (some ⟨bt, 0, none⟩) ∧ RFA bt (clampM most) (clampI idle) [] w' F) (fun v => ⟨fun ⟨bt, e, h⟩ hk => ⟨bt, e, (RFA.framed _ _ _ _).keep h hk⟩, fun ⟨bt, e, h⟩ => (RFA.framed _ _ _ _).lt h⟩) (rf_new w most idle)
  refine c.mono fun e w' ⟨v, he, ho⟩ => ?_
  obtain ⟨F, ⟨F1, F2, ⟨bt, rfl, h1⟩, h2, h3, rfl⟩, hF⟩ := ho.star
  refine ⟨bt, he, fun B hB => ?_, ⟨_, ⟨F1, F2, h1, h2, h3, rfl⟩, hF⟩, ho.mod⟩
  rcases List.mem_cons.1 hB with rfl | hB
  · exact RFA.framed _ _ _ _
  · exact h.framed B hB
theorem cutP (n : Int) {m : Int} (h0 : 0 < m) (h1 : m ≤ 1000000) : ∃ N : Nat, wrap64 ((IntKind.u64.wrap n).tmod m) = (N : Int) ∧ (N : Int) < m := by
  have hw : 0 ≤ IntKind.u64.wrap n := by rw [u64_eq]; omega
  rw [Int.tmod_eq_emod_of_nonneg hw]
  have e1 := Int.emod_nonneg (IntKind.u64.wrap n) (show m ≠ 0 by omega)
  have e2 := Int.emod_lt_of_pos (IntKind.u64.wrap n) h0
  refine ⟨(IntKind.u64.wrap n % m).toNat, ?_, by omega⟩
  generalize IntKind.u64.wrap n % m = z at *
  unfold wrap64; omega
def PlRel (n bt cb bt2 cb2 g9 : Nat) (mo mf mt : Int) (w : World) (vi : Value) (wr : World) : Prop := ∃ (i : Nat) (M : List Fl) (c : ChD), vi = .int .i64 i ∧ i ≤ n ∧ i ≤ 60 ∧ PlInv i c ∧ PlIn bt cb bt2 cb2 g9 mo mf mt M c w wr
theorem walk_PathPlays (w : World) (y1 : Int) (hy1 : (Lit.int .i64 y1).wf = true) (y2 : Int) (hy2 : (Lit.int .i64 y2).wf = true) (y3 : Int) (hy3 : (Lit.int .i64 y3).wf = true) {a : Option Addr} {len cap : Nat} {cs : List Call23} (hv : ArgC23 w (.slice a len cap) cs) : Calls Tryz.prog 4 #[.int .i64 y1, .int .i64 y2, .int .i64 y3, .slice a len cap] w (TruePost w) := by
  obtain ⟨mfN, hq1, -⟩ := cutP y1 (m := 12) (by omega) (by omega)
  obtain ⟨mtN, hq2, -⟩ := cutP y2 (m := 1600) (by omega) (by omega)
  have HQ1 := Lib.hid hq1
  have HQ2 := Lib.hid hq2
  have h00 := In.start (w := w) (R := []) (F := []) (by simp) rfl
  have KA := Lib.hid (fun w' (R' : List Asrt) (h' : In [] w w' R') => o_awake23 h')
  obtain ⟨a', cap', ev, hc1, hc2, hcn, hc⟩ := hv.ex
  rw [Value.slice.injEq] at ev
  obtain ⟨ea, el, ec⟩ := ev
  subst ea ec el
  unfold maxLen at hc2
  obtain ⟨mf, hmf⟩ : ∃ mf : Int, mf = mfN := ⟨_, rfl⟩
  obtain ⟨mt, hmt⟩ : ∃ mt : Int, mt = mtN := ⟨_, rfl⟩
  rw [← hmf] at HQ1
  rw [← hmt] at HQ2
  have KC := Lib.hid (o_config mf h00)
  have KF0 := fun w' (R' : List Asrt) (h' : In [] w w' R') => o_fnew h' mf 20
  have KR0 := fun w' (R' : List Asrt) (h' : In [] w w' R') => o_rfnewP h' mf 20
  rw [show clampI 20 = 20 from by decide] at KF0 KR0
  generalize clampM mf = mo at *
  have KF := Lib.hid KF0
  have KR := Lib.hid KR0
  have KN := Lib.hid (fun w' (R' : List Asrt) (h' : In [] w w' R') => o_chnew may13 cov13 h')
  have KM := Lib.hid (fun w' (R' : List Asrt) (h' : In [] w w' R') => o_r10newch may13 cov13 h')
  have HC := Lib.hid hc
  clear hv hc hcn KF0 KR0 h00 hy1 hy2 hy3 hq1 hq2 hmf hmt
  go_enter Tryz.func4, Tryz.ntmps4
  go_upto_region 2 with fail
  rw [HQ1.out, HQ2.out]
  clear HQ1 HQ2
  go_wp2_with fail
  refine KC.out.mono ?_
  rintro e w1 ⟨rfl, ho⟩
  have H2 := Lib.hid (ho.cells (cfC 168364297 13 mf 20 mt 200 20000 3) 46)
  clear KC ho
  go_upto_region 4 with fail
  generalize w1.heap.size = g9 at *
  generalize (w1.alloc (.cells #[.int .u32 168364297, .int .i64 13, .int .i64 mf, .int .i64 20, .int .i64 mt, .int .i64 200, .int .i64 20000, .int .i64 3] 46)) = w2 at *
  have K2 := Lib.hid (KF.out _ _ H2.out)
  clear H2 KF
  go_wp2_with fail
  refine K2.out.mono ?_
  rintro e w3 ⟨bt, rfl, ho⟩
  have K3 := Lib.hid (KR.out _ _ ho)
  clear K2 ho KR
  go_wp2_with fail
  refine K3.out.mono ?_
  rintro e w4 ⟨bt2, rfl, ho⟩
  have K4 := Lib.hid (KN.out _ _ ho)
  clear K3 ho KN
  go_wp2_with fail
  refine K4.out.mono ?_
  rintro e w5 ⟨cb, a3, n3, rfl, ho⟩
  have K5 := Lib.hid (KM.out _ _ ho)
  clear K4 ho KM
  go_wp2_with fail
  refine K5.out.mono ?_
  rintro e w6 ⟨cb2, vl2, vt2, rfl, ho⟩
  have HR0 : Hid (PlRel cs.length bt cb bt2 cb2 g9 mo mf mt w (.int .i64 0) w6) := Lib.hid ⟨0, [], _, rfl, Nat.zero_le _, by omega, PlInv.new, .slice none 0 0, .slice a3 13 n3, vl2, vt2, by rw [sortF_nil]; exact ho.sel2 (R1 := [_, _, _, _, _, _, _, _, _]) (R2 := []) [7, 3, 4, 5, 6, 0, 1, 2, 8] (by decide) rfl⟩
  clear K5 ho
  go_wp2_with fail
  go_loopw [14] (PlRel cs.length bt cb bt2 cb2 g9 mo mf mt w) (fun v _ => cs.length - (intOf v).toNat)
  case atStart => exact HR0.out
  case round =>
    clear HR0
    obtain ⟨i, M, c, rfl, hi, hi60, hst, vl, vt, vl2, vt2, ho⟩ := hrel
    by_cases hgo : i < cs.length ∧ i < 60
    case neg =>
      have KX := Lib.hid (KA.out _ _ ho)
      have hgo2 : (decide ((i : Int) < (cs.length : Int)) = false ∧ decide (i < cs.length) = false) ∨ (decide ((i : Int) < (cs.length : Int)) = true ∧ decide (i < cs.length) = true ∧ decide ((i : Int) < 60) = false ∧ decide (i < 60) = false) := by
        by_cases h1 : i < cs.length
        · right; exact ⟨decide_eq_true (by omega), decide_eq_true h1, decide_eq_false (by omega), decide_eq_false (by omega)⟩
        · left; exact ⟨decide_eq_false (by omega), decide_eq_false h1⟩
      clear ho hst hi hi60 hgo
      rcases hgo2 with ⟨q1, q2⟩ | ⟨q1, q2, q3, q4⟩
      all_goals
        go_wp2_with fail
        refine KX.out.mono ?_
        rintro e w5 ⟨rfl, ho⟩
        have G := Lib.hid ho.mod
        clear KX ho
        go_wp2_with fail
        go_ret
        exact ⟨rfl, G.out⟩
    obtain ⟨hlt, h60⟩ := hgo
    obtain ⟨x, hx⟩ : ∃ x, cs[i]? = some x := ⟨cs[i], List.getElem?_eq_getElem hlt⟩
    obtain ⟨g, o, csx, rfl, hcr, hcell⟩ := HC.out i x hx
    obtain ⟨ab, nb, al, nl, ao, no, rfl, hab, hal, hao, hwf⟩ := hcr
    have hlt' : (i : Int) < (cs.length : Int) := by omega
    have h60' : (i : Int) < 60 := by omega
    have hw2 : wrap64 ((i : Int) + 1) = (i : Int) + 1 := by unfold wrap64; omega
    have HRG := Lib.hid (range_old23 ho hcell)
    obtain ⟨hth, h4⟩ := c23_box ho x ab nb al nl ao no
    have HTH := Lib.hid hth
    obtain ⟨w4, hw4⟩ : ∃ w4, w4 = (wr.alloc (.cells zC23 65)).setCells wr.heap.size 0 (c23V x ab nb al nl ao no).toArray.toList := ⟨_, rfl⟩
    rw [← hw4] at h4
    obtain ⟨gx, hgx⟩ : ∃ gx, gx = wr.heap.size := ⟨_, rfl⟩
    rw [← hgx] at h4
    have H4 : Hid (In [] w w4 (Cells gx (c23V x ab nb al nl ao no).toArray 65 :: FA bt mo 20 M :: ChL cb c vl vt (RFA bt2 mo 20 (sortF M) :: RChL cb2 c vl2 vt2 (Cells g9 (cfC 168364297 13 mf 20 mt 200 20000 3) 46 :: [])))) := Lib.hid h4
    have HW4 := Lib.hid (And.intro hw4 hgx)
    have HARG := Lib.hid (And.intro hab (And.intro hal (And.intro hao hwf)))
    have HSTI := Lib.hid hst
    have HI := Lib.hid (And.intro hlt (And.intro h60 hi60))
    have HNX : Hid (∀ M' c' wz, PlInv (i + 1) c' → PlIn bt cb bt2 cb2 g9 mo mf mt M' c' w wz → PlRel cs.length bt cb bt2 cb2 g9 mo mf mt w (.int .i64 ((i : Int) + 1)) wz) := Lib.hid fun M' c' wz h1 h2 => ⟨i + 1, M', c', by rw [Int.natCast_add]; rfl, hlt, by omega, h1, h2⟩
    clear ho h4 hw4 hth hcell hx hab hal hao hwf hst hi hi60 hlt h60 hgx
    go_upto_region 10 with (first | (refine wpList_load_mid (by rfl) 65 (.tmp 50) rfl g (o + i * 12) rfl (c23V x ab nb al nl ao no) _ HRG.out Tryz.underlying65 rfl (by kernel_rfl) ?_) | (refine wpList_store_mid (by rfl) 65 (.tmp 15) (.tmp 51) rfl wr.heap.size 0 (c23V x ab nb al nl ao no).toArray (by rfl) (by rfl) HTH.out (by kernel_rfl) c23V_one ?_))
    change Code.wp _ _ _ _ ((wr.alloc (.cells zC23 65)).setCells wr.heap.size 0 (c23V x ab nb al nl ao no).toArray.toList)
    rw [← HW4.out.1, ← HW4.out.2]
    clear HRG HTH HW4
    have d0 : w4.cell? ⟨gx, 0, none⟩ = some (.int .i64 x.act) := cell_of (H4.out.block 0 rfl) rfl
    have d8 : w4.cell? ⟨gx, 8, none⟩ = some (.slice ab x.body.length nb) := cell_of (H4.out.block 0 rfl) rfl
    have d10 : w4.cell? ⟨gx, 10, none⟩ = some (.slice al x.l.length nl) := cell_of (H4.out.block 0 rfl) rfl
    have d11 : w4.cell? ⟨gx, 11, none⟩ = some (.slice ao x.out.length no) := cell_of (H4.out.block 0 rfl) rfl
    have HNB : Hid (PlRel cs.length bt cb bt2 cb2 g9 mo mf mt w (.int .i64 ((i : Int) + 1)) w4) := Lib.hid (HNX.out _ _ _ HSTI.out.more ⟨vl, vt, vl2, vt2, H4.out.drop⟩)
    by_cases q1 : 1500 < x.body.length
    · have q1' : decide ((1500 : Int) < (x.body.length : Int)) = true := decide_eq_true (by omega)
      have q1N : decide (1500 < x.body.length) = true := decide_eq_true q1
      clear q1 HNX HSTI HARG H4
      go_wp2_with fail
      go_roundw
      case rel => (try rw [hw2]); exact HNB.out
      case measure => (try rw [hw2]); exact meas_lt hlt'
    have q1' : decide ((1500 : Int) < (x.body.length : Int)) = false := decide_eq_false (by omega)
    have q1N : decide (1500 < x.body.length) = false := decide_eq_false q1
    by_cases q2 : 40 < x.l.length
    · have q2' : decide ((40 : Int) < (x.l.length : Int)) = true := decide_eq_true (by omega)
      have q2N : decide (40 < x.l.length) = true := decide_eq_true q2
      clear q1 q2 HNX HSTI HARG H4
      go_wp2_with fail
      go_roundw
      case rel => (try rw [hw2]); exact HNB.out
      case measure => (try rw [hw2]); exact meas_lt hlt'
    have q2' : decide ((40 : Int) < (x.l.length : Int)) = false := decide_eq_false (by omega)
    have q2N : decide (40 < x.l.length) = false := decide_eq_false q2
    by_cases q3 : 20 < x.out.length
    · have q3' : decide ((20 : Int) < (x.out.length : Int)) = true := decide_eq_true (by omega)
      have q3N : decide (20 < x.out.length) = true := decide_eq_true q3
      clear q1 q2 q3 HNX HSTI HARG H4
      go_wp2_with fail
      go_roundw
      case rel => (try rw [hw2]); exact HNB.out
      case measure => (try rw [hw2]); exact meas_lt hlt'
    have q3' : decide ((20 : Int) < (x.out.length : Int)) = false := decide_eq_false (by omega)
    have q3N : decide (20 < x.out.length) = false := decide_eq_false q3
    have HQ := Lib.hid (And.intro q1 (And.intro q2 q3))
    clear q1 q2 q3 HNB
    go_upto_region 11 with fail
    clear q1' q1N q2' q2N q3' q3N
    by_cases ha2 : x.act = 2
    · have ha2' : (x.act == 2) = true := by rw [ha2]; rfl
      clear d8 d10 d11 ha2
      go_upto_region 12 with fail
      clear d0 ha2'
      refine pl_set HARG.out ⟨HSTI.out.ok, HSTI.out.s, HSTI.out.ids, HSTI.out.md.1, by have := HSTI.out.md; have := HI.out; omega⟩ (by have := HQ.out; omega) H4.out (fun _ _ _ _ _ h => h) (fun fS wz hz => ?_)
      have HF : Hid (PlRel cs.length bt cb bt2 cb2 g9 mo mf mt w (.int .i64 ((i : Int) + 1)) wz) := Lib.hid (HNX.out _ _ _ (HSTI.out.set x.l (by have := HQ.out; omega) (fun b hb => by have := HARG.out.2.1.wf b hb; exact ⟨this.a0, this.a1⟩) _) hz)
      clear hz H4 HARG HSTI HQ HNX
      go_wp2_with fail
      go_roundw
      case rel => (try rw [hw2]); exact HF.out
      case measure => (try rw [hw2]); exact meas_lt hlt'
    have ha2' : (x.act == 2) = false := beq_eq_false_iff_ne.2 ha2
    have KB := Lib.hid (o_l23bytes (c := x) (ab := ab) (cb := nb) (al := al) (cl := nl) (ao := ao) (co := no) HARG.out.2.2.2.k (fun R' => HARG.out.1.bytes R') (by have := HQ.out; omega) H4.out)
    have HRG2 : Hid (w4.rangeAt gx 0 (c23V x ab nb al nl ao no)) := Lib.hid (range_at (H4.out.block 0 rfl))
    have HBL : Hid ((bytesD x).length ≤ 100000000) := Lib.hid (by have := bytesD_le x; have := HQ.out; omega)
    obtain ⟨Fo, bm, bk', bq, hok, -⟩ := H4.out.get 1 rfl
    have HOKF : Hid (OkF mo M) := Lib.hid hok
    clear d8 d10 d11 ha2 hok H4
    go_wp2_with (refine wpList_load_mid (by rfl) 65 (.tmp 15) rfl gx 0 rfl (c23V x ab nb al nl ao no) _ HRG2.out Tryz.underlying65 rfl (by kernel_rfl) ?_)
    refine KB.out.mono ?_
    rintro e w5 ⟨A5, n5, N, rfl, ho, hby⟩
    have HBY := Lib.hid hby
    have h5 : In [] w w5 (FA bt mo 20 M :: ChL cb c vl vt (N :: Cells gx (c23V x ab nb al nl ao no).toArray 65 :: RFA bt2 mo 20 (sortF M) :: RChL cb2 c vl2 vt2 (Cells g9 (cfC 168364297 13 mf 20 mt 200 20000 3) 46 :: []))) := ho.sel2 (R1 := [_, _, _, _, _, _, _, _, _, _, _]) (R2 := []) [2, 3, 4, 5, 0, 1, 6, 7, 8, 9, 10] (by decide) rfl
    have K26 := o_packet (self := 168364297) (sl := 13) (fl := mf) (idle0 := 20) (mtu := mt) (sg := 200) (qu := 20000) (ve := 3) (by decide) HSTI.out.ok.s HSTI.out.ok.t HSTI.out.ok.l HSTI.out.ok.wf (gen := y3) (now := x.now) (HBY.out _) HBL.out h5
    have KRP := fun w' (R' : List Asrt) (hn : 0 ≤ x.now ∧ x.now ≤ 1099511627776) (h' : In [] w w' (RFA bt2 mo 20 (sortF M) :: RChL cb2 c vl2 vt2 (N :: R'))) => o_r20packet (self := 168364297) (sl := 13) (fl := mf) (idle0 := 20) (mtu := mt) (sg := 200) (qu := 20000) (ve := 3) (by decide) HSTI.out.ok.s HSTI.out.ok.t HSTI.out.ok.l HSTI.out.ids HSTI.out.ok.wf HOKF.out (gen := y3) (now := x.now) hn (HBY.out R') HBL.out h'
    have HT0 : ¬ (0 ≤ x.now ∧ x.now ≤ 1099511627776) → pktD 168364297 mt mo M c y3 x.now (bytesD x) = (⟨0, 0, 0, [], []⟩, M) := fun hn => by unfold pktD; rw [if_neg hn]
    have HRC0 := pkt_recs 168364297 mt mo M c y3 x.now (bytesD x)
    have d9 : w5.cell? ⟨gx, 9, none⟩ = some (.int .i64 x.now) := cell_of (h5.block 5 rfl) rfl
    have HRG9 : Hid (w5.rangeAt g9 0 (cfC 168364297 13 mf 20 mt 200 20000 3).toList) := Lib.hid (range_at (h5.block 10 rfl))
    generalize pktD 168364297 mt mo M c y3 x.now (bytesD x) = r7 at *
    obtain ⟨⟨vd, rs, bk7, pkt7, rec7⟩, M7⟩ := r7
    have HT := Lib.hid HT0
    have HRC := Lib.hid (And.intro HRC0.2 HRC0.1)
    have K26H := Lib.hid K26
    have KRH := Lib.hid KRP
    clear KB HRG2 ho hby h5 K26 KRP HT0 HRC0 d0 ha2'
    go_wp2_with (refine wpList_load_mid (by rfl) 46 (.tmp 9) rfl g9 0 rfl (cfC 168364297 13 mf 20 mt 200 20000 3).toList _ HRG9.out Tryz.underlying46 rfl (by kernel_rfl) ?_)
    refine K26H.out.mono ?_
    rintro e w8 ⟨vp, vr, rfl, ho⟩
    have epl : planV ⟨vd, rs, bk7, pkt7, rec7⟩ vp vr = .agg (plC vd rs bk7 vp vr) := rfl
    rw [epl]
    obtain ⟨ap, np, rfl⟩ := ByR.shape ho
    obtain ⟨Fr, rr⟩ := ho.get 1 rfl
    obtain ⟨ar, nr, rfl, -, -, -⟩ := RowA.shape rr
    have h9 := ho.cells (plC vd rs bk7 (.slice ap pkt7.length np) (.slice ar rec7.length nr)) 43
    have H9 := Lib.hid h9
    have d9' := cell_of (o := 9) (v := .int .i64 x.now) (h9.block 8 rfl) rfl
    have KT := Lib.hid (r_time x.now)
    clear ho rr h9 K26H HRG9 d9 epl
    go_wp2_with fail
    generalize w8.heap.size = g17 at *
    generalize (w8.alloc (.cells #[.int .i64 vd, .int .i64 rs, .int .i64 bk7, .slice ap pkt7.length np, .slice ar rec7.length nr] 43)) = w9 at *
    refine (KT.out _).mono ?_
    rintro e wA ⟨rfl, rfl⟩
    have H9b : Hid (In [] w wA (Cells g17 (plC vd rs bk7 (.slice ap pkt7.length np) (.slice ar rec7.length nr)) 43 :: ByR (.slice ap pkt7.length np) pkt7 :: RecR (.slice ar rec7.length nr) rec7 :: FA bt mo 20 M7 :: ChL cb c vl vt (N :: Cells gx (c23V x ab nb al nl ao no).toArray 65 :: RFA bt2 mo 20 (sortF M) :: RChL cb2 c vl2 vt2 (Cells g9 (cfC 168364297 13 mf 20 mt 200 20000 3) 46 :: [])))) := Lib.hid H9.out
    clear KT H9
    by_cases hnow : ¬ (0 ≤ x.now ∧ x.now ≤ 1099511627776)
    · have e0 := HT.out hnow
      have hdn := decide_eq_false hnow
      rw [Prod.mk.injEq, PlanD.mk.injEq] at e0
      obtain ⟨⟨rfl, rfl, rfl, rfl, rfl⟩, rfl⟩ := e0
      have p0 : wA.cell? ⟨g17, 0, none⟩ = some (.int .i64 0) := cell_of (H9b.out.block 0 rfl) rfl
      have p4 : wA.cell? ⟨g17, 4, none⟩ = some (.slice ar 0 nr) := cell_of (H9b.out.block 0 rfl) rfl
      have HF : Hid (PlRel cs.length bt cb bt2 cb2 g9 mo mf mt w (.int .i64 ((i : Int) + 1)) wA) := Lib.hid (HNX.out _ _ _ HSTI.out.more ⟨vl, vt, vl2, vt2, H9b.out.sel2 (R1 := [_, _, _, _, _, _, _, _, _, _, _, _, _, _]) (R2 := []) [3, 4, 5, 6, 9, 10, 11, 12, 13] (by decide) rfl⟩)
      rw [hdn]
      clear hnow hdn H9b HT HNX HSTI HARG HRC KRH HOKF HBY
      go_wp2_with fail
      go_roundw
      case rel => (try rw [hw2]); exact HF.out
      case measure => (try rw [hw2]); exact meas_lt hlt'
    have hnow2 := Decidable.not_not.1 hnow
    rw [decide_eq_true hnow2]
    have K30 := Lib.hid (KRH.out _ _ hnow2 (H9b.out.sel2 (R1 := [_, _, _, _, _, _, _, _, _, _, _, _, _, _]) (R2 := []) [9, 10, 11, 12, 7, 0, 1, 2, 3, 4, 5, 6, 8, 13] (by decide) rfl))
    have HRG9 : Hid (wA.rangeAt g9 0 (cfC 168364297 13 mf 20 mt 200 20000 3).toList) := Lib.hid (range_at (H9b.out.block 13 rfl))
    clear hnow hnow2 H9b HT KRH HOKF HBY
    go_wp2_with (refine wpList_load_mid (by rfl) 46 (.tmp 9) rfl g9 0 rfl (cfC 168364297 13 mf 20 mt 200 20000 3).toList _ HRG9.out Tryz.underlying46 rfl (by kernel_rfl) ?_)
    refine K30.out.mono ?_
    rintro e wB ⟨vp2, vr2, rfl, ho⟩
    obtain ⟨ap2, np2, rfl⟩ := ByR.shape ho
    obtain ⟨Fr, rr⟩ := ho.get 1 rfl
    obtain ⟨ar2, nr2, rfl, -, -, -⟩ := RowA.shape rr
    have h10 := ho.cells (outC vd rs bk7 (.slice ap2 pkt7.length np2)) 40
    have H10 := Lib.hid h10
    clear ho rr h10 K30 HRG9 d9'
    go_upto_region 20 with fail
    generalize wB.heap.size = g18 at *
    generalize (wB.alloc (.cells (outC vd rs bk7 (.slice ap2 pkt7.length np2)) 40)) = wC at *
    refine pl_same (M := M7) (c := c) (w := w) (bt := bt) (cb := cb) (bt2 := bt2) (cb2 := cb2) (g9 := g9) (mo := mo) (mf := mf) (mt := mt) (v := vd) (r := rs) (bk := bk7) (pk := pkt7) (rc := rec7) (ap := ap) (ap2 := ap2) (ar := ar) (ar2 := ar2) (np := np) (np2 := np2) (nr := nr) (nr2 := nr2) (vl := vl) (vt := vt) (vl2 := vl2) (vt2 := vt2) HRC.out (H10.out.sel2 (R1 := [_, _, _, _, _, _, _, _, _, _, _, _, _, _, _, _, _]) (R2 := []) [0, 8, 1, 2, 9, 10, 11, 12, 13, 14, 3, 4, 5, 6, 16] (by decide) rfl) (fun _ _ _ _ _ h => h) (fun fZ wz hz => ?_)
    have HF : Hid (PlRel cs.length bt cb bt2 cb2 g9 mo mf mt w (.int .i64 ((i : Int) + 1)) wz) := Lib.hid (HNX.out _ _ _ HSTI.out.more hz)
    clear hz H10 HNX HSTI HARG HRC
    go_wp2_with fail
    go_roundw
    case rel => (try rw [hw2]); exact HF.out
    case measure => (try rw [hw2]); exact meas_lt hlt'
end Go.Proofs.YtgapbecddgfkmaaGreat
