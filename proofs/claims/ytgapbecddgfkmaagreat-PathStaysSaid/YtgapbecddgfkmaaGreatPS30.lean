/- Rows.PathStaysSaid -/
import Derived.Test.YtgapbecddgfkmaaGreatPS29
import Derived.Deep.DeepCutAuto
import Derived.Deep.CutBlock
namespace Go.Proofs.YtgapbecddgfkmaaGreat
open Go.RowKit
set_option linter.unusedVariables false
set_option maxHeartbeats 64000000
set_option maxRecDepth 100000
theorem stays_a0 {w wc : World} {k0 k1 k2 k3 k4 home : Int} {i gx bt cb gt : Nat} {L : List Fl} {c : ChD} {vl vt : Value} {x : Call23} {ab al ao : Option Addr} {nb nl no : Nat} (hact : x.act ≠ 2) (hi40 : i ≤ 40) (harg : ArgBy w (.slice ab x.body.length nb) x.body ∧ ArgBks w (.slice al x.l.length nl) x.l ∧ ArgIs w (.slice ao x.out.length no) x.out ∧ Wf23 x) (hsti : StInv ⟨k0, k1, k2, k3, k4⟩ home i L c) (hq : ¬ 1400 < x.body.length ∧ ¬ 12 < x.l.length ∧ ¬ 20 < x.out.length) (hh : 0 ≤ home ∧ home ≤ 65535) (h4 : In [] w wc (Cells gx (c23V x ab nb al nl ao no).toArray 65 :: FA bt 8 1000 L :: ChL cb c vl vt (Cells gt #[.int .u32 k0, .int .u32 k1, .int .i64 k2, .int .i64 k3, .int .i64 k4] 24 :: [])))
    {z0 z1 z3 z4 z7 z8 z10 z12 z13 z14 z15 z16 z17 z18 z19 z20 z21 z22 z23 z24 z25 z26 z27 z28 z29 z30 z31 z32 z33 z34 z35 z36 z37 z38 z39 z40 z41 z42 z43 z44 z45 z46 z47 z48 z49 z50 z51 z52 z53 z54 z55 z56 z57 z58 z59 z60 z61 z62 z63 z64 z65 z66 z67 z68 z69 z70 z71 z72 z73 z74 z75 z76 z77 z78 z79 z80 z82 z83 z84 z85 z86 z87 z88 z89 z90 z91 z92 z93 z94 z95 z96 z97 z98 z99 z100 z101 z102 z103 z104 z105 z106 z107 z108 z109 z110 z111 z112 z113 z114 z115 z116 z117 z118 z119 z120 z121 z122 z123 z124 z125 z126 z127 z128 z129 z130 z131 z132 z133 z134 z135 z136 z137 z138 z139 z140 z141 z142 z143 z144 z145 z146 z147 z148 z149 z150 z151 z152 z153 z154 z155 z156 z157 z158 z159 z160 z161 z162 z163 z164 z165 z166 z167 z168 z169 z170 z171 z172 z173 z174 z175 z176 z177 z178 z179 z180 z181 z182 z183 z184 z185 : Value} {K : Act → World → Prop} {Q' : Exit → Act → World → Prop} (hret : ∀ a' w', bodyPost Tryz.prog Tryz.f5 (TruePost w) .ret a' w' → Q' .ret a' w')
    (hK : ∀ (f : Nat → Value) (wz : World), StMid ⟨k0, k1, k2, k3, k4⟩ home (i + 1) bt cb gt w wz → K ⟨#[z0, z1, .pointer (some ⟨gt, 0, none⟩), z3, f 4, .pointer (some ⟨bt, 0, none⟩), pC cb, z7, z8, .int .i64 home, z10, .pointer (some ⟨gx, 0, none⟩), f 12, f 13, f 14, f 15, f 16, f 17, f 18, f 19, f 20, z21, z22, z23, z24, z25, z26, z27, z28, z29, z30, z31, z32, z33, z34, z35, z36, z37, z38, z39, z40, z41, z42, z43, z44, z45, z46, z47, z48, f 49, f 50, f 51, f 52, f 53, f 54, f 55, f 56, f 57, f 58, f 59, f 60, f 61, f 62, f 63, f 64, f 65, f 66, f 67, f 68, f 69, f 70, f 71, f 72, f 73, f 74, f 75, f 76, f 77, f 78, f 79, f 80, f 81, f 82, f 83, f 84, f 85, f 86, f 87, f 88, f 89, f 90, f 91, f 92, f 93, f 94, f 95, f 96, f 97, f 98, f 99, f 100, f 101, f 102, f 103, f 104, f 105, f 106, f 107, f 108, f 109, f 110, f 111, f 112, f 113, f 114, f 115, f 116, f 117, f 118, f 119, f 120, f 121, f 122, f 123, f 124, f 125, f 126, f 127, f 128, f 129, f 130, f 131, f 132, f 133, f 134, f 135, f 136, f 137, f 138, f 139, f 140, f 141, f 142, f 143, f 144, f 145, f 146, f 147, f 148, f 149, f 150, f 151, f 152, f 153, f 154, f 155, f 156, f 157, f 158, f 159, f 160, f 161, f 162, f 163, f 164, f 165, f 166, f 167, f 168, f 169, f 170, f 171, f 172, f 173, f 174, f 175, f 176, f 177, f 178, f 179, f 180, f 181, f 182, f 183, f 184, z185], []⟩ wz) :
    Code.wp Tryz.prog stC81 (Exit.then K Q') ⟨#[z0, z1, .pointer (some ⟨gt, 0, none⟩), z3, z4, .pointer (some ⟨bt, 0, none⟩), pC cb, z7, z8, .int .i64 home, z10, .pointer (some ⟨gx, 0, none⟩), z12, z13, z14, z15, z16, z17, z18, z19, z20, z21, z22, z23, z24, z25, z26, z27, z28, z29, z30, z31, z32, z33, z34, z35, z36, z37, z38, z39, z40, z41, z42, z43, z44, z45, z46, z47, z48, z49, z50, z51, z52, z53, z54, z55, z56, z57, z58, z59, z60, z61, z62, z63, z64, z65, z66, z67, z68, z69, z70, z71, z72, z73, z74, z75, z76, z77, z78, z79, z80, .bool (x.act == 2), z82, z83, z84, z85, z86, z87, z88, z89, z90, z91, z92, z93, z94, z95, z96, z97, z98, z99, z100, z101, z102, z103, z104, z105, z106, z107, z108, z109, z110, z111, z112, z113, z114, z115, z116, z117, z118, z119, z120, z121, z122, z123, z124, z125, z126, z127, z128, z129, z130, z131, z132, z133, z134, z135, z136, z137, z138, z139, z140, z141, z142, z143, z144, z145, z146, z147, z148, z149, z150, z151, z152, z153, z154, z155, z156, z157, z158, z159, z160, z161, z162, z163, z164, z165, z166, z167, z168, z169, z170, z171, z172, z173, z174, z175, z176, z177, z178, z179, z180, z181, z182, z183, z184, z185], []⟩ wc := by
  refine wp_cut (fun a' w' => ∃ f : Nat → Value, (StMid ⟨k0, k1, k2, k3, k4⟩ home (i + 1) bt cb gt w w') ∧ a' = (⟨#[z0, z1, .pointer (some ⟨gt, 0, none⟩), z3, f 4, .pointer (some ⟨bt, 0, none⟩), pC cb, z7, z8, .int .i64 home, z10, .pointer (some ⟨gx, 0, none⟩), f 12, f 13, f 14, f 15, f 16, f 17, f 18, f 19, f 20, z21, z22, z23, z24, z25, z26, z27, z28, z29, z30, z31, z32, z33, z34, z35, z36, z37, z38, z39, z40, z41, z42, z43, z44, z45, z46, z47, z48, f 49, f 50, f 51, f 52, f 53, f 54, f 55, f 56, f 57, f 58, f 59, f 60, f 61, f 62, f 63, f 64, f 65, f 66, f 67, f 68, f 69, f 70, f 71, f 72, f 73, f 74, f 75, f 76, f 77, f 78, f 79, f 80, f 81, f 82, f 83, f 84, f 85, f 86, f 87, f 88, f 89, f 90, f 91, f 92, f 93, f 94, f 95, f 96, f 97, f 98, f 99, f 100, f 101, f 102, f 103, f 104, f 105, f 106, f 107, f 108, f 109, f 110, f 111, f 112, f 113, f 114, f 115, f 116, f 117, f 118, f 119, f 120, f 121, f 122, f 123, f 124, f 125, f 126, f 127, f 128, f 129, f 130, f 131, f 132, f 133, f 134, f 135, f 136, f 137, f 138, f 139, f 140, f 141, f 142, f 143, f 144, f 145, f 146, f 147, f 148, f 149, f 150, f 151, f 152, f 153, f 154, f 155, f 156, f 157, f 158, f 159, f 160, f 161, f 162, f 163, f 164, f 165, f 166, f 167, f 168, f 169, f 170, f 171, f 172, f 173, f 174, f 175, f 176, f 177, f 178, f 179, f 180, f 181, f 182, f 183, f 184, z185], []⟩ : Act)) (fun a' w' hc => ?_) ?_
  · obtain ⟨f, hc, rfl⟩ := hc
    exact hK f w' hc
  intro J K' hJ hM
  clear hK
  have HARG := Lib.hid harg
  have HSTI := Lib.hid hsti
  have HQ := Lib.hid hq
  have HH := Lib.hid hh
  have H4 := Lib.hid h4
  have HI := Lib.hid hi40
  clear harg hsti hq hh h4 hi40
  have d0 : wc.cell? ⟨gx, 0, none⟩ = some (.int .i64 x.act) := cell_of (H4.out.block 0 rfl) rfl
  have d8 : wc.cell? ⟨gx, 8, none⟩ = some (.slice ab x.body.length nb) := cell_of (H4.out.block 0 rfl) rfl
  have d10 : wc.cell? ⟨gx, 10, none⟩ = some (.slice al x.l.length nl) := cell_of (H4.out.block 0 rfl) rfl
  have d11 : wc.cell? ⟨gx, 11, none⟩ = some (.slice ao x.out.length no) := cell_of (H4.out.block 0 rfl) rfl
  let PQ := bodyPost Tryz.prog Tryz.f5 (TruePost w)
  have KA := Lib.hid (fun w' (R' : List Asrt) (h' : In [] w w' R') => o_awake23 h')
  have KC := Lib.hid (fun w' (R' : List Asrt) (h' : In [] w w' R') => o_config 8 h')
  have HSRC : Hid (Src wc al x.l.length 3 (bkV x.l)) := Lib.hid (by
    obtain ⟨a', c', e, h1, h2, h3, h4⟩ := HARG.out.2.1.ex
    rw [Value.slice.injEq] at e
    obtain ⟨rfl, -, rfl⟩ := e
    exact h1.old H4.out)
  have HINT : Hid (∀ (R' : List Asrt) W, In [] w W R' → Src W ao x.out.length 1 (intV x.out)) := Lib.hid (fun R' W hW => by
    obtain ⟨a', c', e, h1, h2, h3, h4⟩ := HARG.out.2.2.1.ex
    rw [Value.slice.injEq] at e
    obtain ⟨rfl, -, rfl⟩ := e
    exact h1.old hW)
  have HOK := Lib.hid (And.intro HSTI.out.ok (And.intro HSTI.out.s HSTI.out.md))
  have ha2' : (x.act == 2) = false := beq_eq_false_iff_ne.2 hact
  rw [ha2']
  conv => arg 2; whnf
  have KB := Lib.hid (o_l23bytes (c := x) (ab := ab) (cb := nb) (al := al) (cl := nl) (ao := ao) (co := no) HARG.out.2.2.2.k (fun R' => HARG.out.1.bytes R') (by have := HQ.out; omega) H4.out)
  have HRG2 : Hid (wc.rangeAt gx 0 (c23V x ab nb al nl ao no)) := Lib.hid (range_at (H4.out.block 0 rfl))
  have HBL : Hid ((bytesD x).length ≤ 100000000) := Lib.hid (by have := bytesD_le x; have := HQ.out; omega)
  clear d0 d8 d10 d11 HSRC HINT hact
  go_wp2_with (refine wpList_load_mid (by rfl) 65 (.tmp 11) rfl gx 0 rfl (c23V x ab nb al nl ao no) _ HRG2.out Tryz.underlying65 rfl (by kernel_rfl) ?_)
  refine KB.out.mono ?_
  rintro e w5 ⟨A5, n5, N, rfl, ho, hby⟩
  have ho5 : In [] w w5 (N :: Cells gx (c23V x ab nb al nl ao no).toArray 65 :: FA bt 8 1000 L :: ChL cb c vl vt (Cells gt #[.int .u32 k0, .int .u32 k1, .int .i64 k2, .int .i64 k3, .int .i64 k4] 24 :: [])) := ho
  have HBY := Lib.hid hby
  have H5 := Lib.hid ho5
  have d0 : w5.cell? ⟨gx, 0, none⟩ = some (.int .i64 x.act) := cell_of (ho5.block 1 rfl) rfl
  have d3 : w5.cell? ⟨gx, 3, none⟩ = some (.int .u32 x.k.src) := cell_of (ho5.block 1 rfl) rfl
  have d4 : w5.cell? ⟨gx, 4, none⟩ = some (.int .u32 x.k.dst) := cell_of (ho5.block 1 rfl) rfl
  have d5 : w5.cell? ⟨gx, 5, none⟩ = some (.int .i64 x.k.proto) := cell_of (ho5.block 1 rfl) rfl
  have d6 : w5.cell? ⟨gx, 6, none⟩ = some (.int .i64 x.k.sport) := cell_of (ho5.block 1 rfl) rfl
  have d7 : w5.cell? ⟨gx, 7, none⟩ = some (.int .i64 x.k.dport) := cell_of (ho5.block 1 rfl) rfl
  have e0 : w5.cell? ⟨gt, 0, none⟩ = some (.int .u32 k0) := cell_of (ho5.block 6 rfl) rfl
  have e1 : w5.cell? ⟨gt, 1, none⟩ = some (.int .u32 k1) := cell_of (ho5.block 6 rfl) rfl
  have e2 : w5.cell? ⟨gt, 2, none⟩ = some (.int .i64 k2) := cell_of (ho5.block 6 rfl) rfl
  have e3 : w5.cell? ⟨gt, 3, none⟩ = some (.int .i64 k3) := cell_of (ho5.block 6 rfl) rfl
  have e4 : w5.cell? ⟨gt, 4, none⟩ = some (.int .i64 k4) := cell_of (ho5.block 6 rfl) rfl
  have hq0 : ∀ w, (binOp .neq 24 (.agg #[.int .u32 x.k.src, .int .u32 x.k.dst, .int .i64 x.k.proto, .int .i64 x.k.sport, .int .i64 x.k.dport]) (.agg #[.int .u32 k0, .int .u32 k1, .int .i64 k2, .int .i64 k3, .int .i64 k4])).run Tryz.prog w = .ok (.bool (!decide (x.k = ⟨k0, k1, k2, k3, k4⟩))) w := fun w => tup_neq x.k ⟨k0, k1, k2, k3, k4⟩ w
  clear ho ho5 hby KB HRG2 H4
  by_cases hck : x.k = ⟨k0, k1, k2, k3, k4⟩ ∧ x.act ≠ 1
  · have hq : ∀ w, (binOp .neq 24 (.agg #[.int .u32 x.k.src, .int .u32 x.k.dst, .int .i64 x.k.proto, .int .i64 x.k.sport, .int .i64 x.k.dport]) (.agg #[.int .u32 k0, .int .u32 k1, .int .i64 k2, .int .i64 k3, .int .i64 k4])).run Tryz.prog w = .ok (.bool false) w := fun w => by rw [hq0, decide_eq_true hck.1]; rfl
    have ha1 : (x.act == 1) = false := beq_eq_false_iff_ne.2 hck.2
    have HF : Hid (StMid ⟨k0, k1, k2, k3, k4⟩ home (i + 1) bt cb gt w w5) := Lib.hid ⟨L, c, vl, vt, HSTI.out.more, H5.out.drop.drop⟩
    clear hq0 hck HBY HBL
    go_wp2_with fail
    refine meet_f hJ ?_ (by kernel_rfl)
    exact HF.out
  · go_upto_region 23 with fail
    go_cut [114] (fun v wx => v = .bool true ∧ wx = w5)
    case first =>
      by_cases hk1 : x.k = ⟨k0, k1, k2, k3, k4⟩
      · have hq : ∀ w, (binOp .neq 24 (.agg #[.int .u32 x.k.src, .int .u32 x.k.dst, .int .i64 x.k.proto, .int .i64 x.k.sport, .int .i64 x.k.dport]) (.agg #[.int .u32 k0, .int .u32 k1, .int .i64 k2, .int .i64 k3, .int .i64 k4])).run Tryz.prog w = .ok (.bool false) w := fun w => by rw [hq0, decide_eq_true hk1]; rfl
        have ha1 : (x.act == 1) = true := by
          have : x.act = 1 := Classical.byContradiction (fun e => hck ⟨hk1, e⟩)
          rw [this]; rfl
        clear hq0 hck hk1 HBY HBL H5
        go_wp2_with fail
        go_meet
        exact ⟨rfl, rfl⟩
      · have hq : ∀ w, (binOp .neq 24 (.agg #[.int .u32 x.k.src, .int .u32 x.k.dst, .int .i64 x.k.proto, .int .i64 x.k.sport, .int .i64 x.k.dport]) (.agg #[.int .u32 k0, .int .u32 k1, .int .i64 k2, .int .i64 k3, .int .i64 k4])).run Tryz.prog w = .ok (.bool true) w := fun w => by rw [hq0, decide_eq_false hk1]; rfl
        clear hq0 hck hk1 HBY HBL H5
        go_wp2_with fail
        go_meet
        exact ⟨rfl, rfl⟩
    case rest =>
    obtain ⟨rfl, rfl⟩ := hcut
    clear d0 d3 d4 d5 d6 d7 e0 e1 e2 e3 e4 hq0 hck
    have K24 := Lib.hid (o_fall H5.out 2 rfl)
    clear H5
    go_wp2_with fail
    refine K24.out.mono ?_
    rintro e w6 ⟨vF, rfl, ho⟩
    have ho6 : In [] w w6 (RowA 49 8 vF (sortF L).length (flatF (sortF L)) :: N :: Cells gx (c23V x ab nb al nl ao no).toArray 65 :: FA bt 8 1000 L :: ChL cb c vl vt (Cells gt #[.int .u32 k0, .int .u32 k1, .int .i64 k2, .int .i64 k3, .int .i64 k4] 24 :: [])) := ho
    have K25 := Lib.hid (KC.out _ _ ho6)
    clear ho ho6 K24
    go_wp2_with fail
    refine K25.out.mono ?_
    rintro e w7 ⟨rfl, ho⟩
    have h7 : In [] w w7 (FA bt 8 1000 L :: ChL cb c vl vt (N :: RowA 49 8 vF (sortF L).length (flatF (sortF L)) :: Cells gt #[.int .u32 k0, .int .u32 k1, .int .i64 k2, .int .i64 k3, .int .i64 k4] 24 :: [])) := ho.sel2 (R1 := [_, _, _, _, _, _, _, _]) [3, 4, 5, 6, 1, 0, 7] (by decide) rfl
    have K26 := o_packet (self := 168364297) (sl := 13) (fl := 8) (idle0 := 20) (mtu := 1500) (sg := 200) (qu := 20000) (ve := 3) (by decide) HOK.out.1.s HOK.out.1.t HOK.out.1.l HOK.out.1.wf (gen := 1) (now := 0) (HBY.out _) HBL.out h7
    have HDR : Hid ((pktD 168364297 1500 8 L c 1 0 (bytesD x)).1.verdict = 1 → (pktD 168364297 1500 8 L c 1 0 (bytesD x)).1.reason ≠ 0 ∧ (pktD 168364297 1500 8 L c 1 0 (bytesD x)).1.pkt = [] ∧ (pktD 168364297 1500 8 L c 1 0 (bytesD x)).1.recs = [] ∧ (pktD 168364297 1500 8 L c 1 0 (bytesD x)).2 = L) := Lib.hid pkt_drop
    have HOT : Hid ((withinD (bytesD x)).1 ≠ ⟨k0, k1, k2, k3, k4⟩ → StInv ⟨k0, k1, k2, k3, k4⟩ home (i + 1) (pktD 168364297 1500 8 L c 1 0 (bytesD x)).2 c) := Lib.hid (fun hk => (HSTI.out.other hk).more)
    generalize (pktD 168364297 1500 8 L c 1 0 (bytesD x)) = r7 at *
    obtain ⟨⟨vd, rs, bk7, pkt7, rec7⟩, L7⟩ := r7
    simp only at HDR HOT
    have K26H := Lib.hid K26
    clear ho h7 K25 K26
    go_wp2_with fail
    refine K26H.out.mono ?_
    rintro e w8 ⟨vp, vr, rfl, ho⟩
    have epl : planV ⟨vd, rs, bk7, pkt7, rec7⟩ vp vr = .agg (plC vd rs bk7 vp vr) := rfl
    rw [epl]
    obtain ⟨ap, np, rfl⟩ := ByR.shape ho
    obtain ⟨Fr, rr⟩ := ho.get 1 rfl
    obtain ⟨ar, nr, rfl, -, -, -⟩ := RowA.shape rr
    have h9 : In [] w (w8.alloc (.cells (plC vd rs bk7 (.slice ap pkt7.length np) (.slice ar rec7.length nr)) 43)) (Cells w8.heap.size (plC vd rs bk7 (.slice ap pkt7.length np) (.slice ar rec7.length nr)) 43 :: ByR (.slice ap pkt7.length np) pkt7 :: RecR (.slice ar rec7.length nr) rec7 :: FA bt 8 1000 L7 :: ChL cb c vl vt (N :: RowA 49 8 vF (sortF L).length (flatF (sortF L)) :: Cells gt #[.int .u32 k0, .int .u32 k1, .int .i64 k2, .int .i64 k3, .int .i64 k4] 24 :: [])) := ho.cells _ _
    have hb9 : Bytes [] w (Cells w8.heap.size (plC vd rs bk7 (.slice ap pkt7.length np) (.slice ar rec7.length nr)) 43 :: ByR (.slice ap pkt7.length np) pkt7 :: RecR (.slice ar rec7.length nr) rec7 :: FA bt 8 1000 L7 :: ChL cb c vl vt (N :: RowA 49 8 vF (sortF L).length (flatF (sortF L)) :: Cells gt #[.int .u32 k0, .int .u32 k1, .int .i64 k2, .int .i64 k3, .int .i64 k4] 24 :: [])) A5 n5 (bytesD x) := ⟨fun W hW => (HBY.out []).src W (hW.sel2 (R1 := [_, _, _, _, _, _, _, _, _, _]) [7] (by decide) rfl), (HBY.out []).nil, (HBY.out []).ad, (HBY.out []).cap, (HBY.out []).room⟩
    have KTP := Lib.hid (o_r20tuple h9 hb9 HBL.out)
    clear ho rr h9 hb9 K26H
    go_wp2_with fail
    generalize w8.heap.size = g9 at *
    generalize (w8.alloc (.cells #[.int .i64 vd, .int .i64 rs, .int .i64 bk7, .slice ap pkt7.length np, .slice ar rec7.length nr] 43)) = w9 at *
    refine KTP.out.mono ?_
    rintro e wA ⟨rfl, ho⟩
    clear KTP
    generalize (withinD (bytesD x)).1 = u at *
    generalize (withinD (bytesD x)).2.1 = hh at *
    generalize (withinD (bytesD x)).2.2.2 = why at *
    have hZ := (ho.cells tz 24).cells hz 84
    rw [World.size_alloc] at hZ
    obtain ⟨z1, z2, z3⟩ := two_store (C' := encT u) (D' := encH hh) (show In [] w ((wA.alloc (.cells tz 24)).alloc (.cells hz 84)) (Cells wA.heap.size tz 24 :: Cells (wA.heap.size + 1) hz 84 :: Cells g9 (plC vd rs bk7 (.slice ap pkt7.length np) (.slice ar rec7.length nr)) 43 :: ByR (.slice ap pkt7.length np) pkt7 :: RecR (.slice ar rec7.length nr) rec7 :: FA bt 8 1000 L7 :: ChL cb c vl vt (N :: RowA 49 8 vF (sortF L).length (flatF (sortF L)) :: Cells gt #[.int .u32 k0, .int .u32 k1, .int .i64 k2, .int .i64 k3, .int .i64 k4] 24 :: [])) from hZ.sel2 (R1 := [_, _, _, _, _, _, _, _, _, _, _, _]) [1, 0, 2, 3, 4, 5, 6, 7, 8, 9, 10, 11] (by decide) rfl) rfl rfl
    have Z1 := Lib.hid z1
    have Z2 := Lib.hid z2
    have HB := Lib.hid z3
    clear ho hZ z1 z2 z3
    go_upto_region 27 with (first | (refine wpList_store_mid (op := ⟨none, Op.store 24 (.tmp 18) (.tmp 125), _, _, _, _⟩) (by rfl) 24 (.tmp 18) (.tmp 125) rfl wA.heap.size 0 (encT u) (by rfl) (by rfl) Z1.out (by kernel_rfl) (tz_all _ _ _ _ _) ?_) | (refine wpList_store_mid (op := ⟨none, Op.store 84 (.tmp 19) (.tmp 126), _, _, _, _⟩) (by rfl) 84 (.tmp 19) (.tmp 126) rfl (wA.heap.size + 1) 0 (encH hh) (by rfl) (by rfl) Z2.out (by kernel_rfl) (hC_all _ _ _ _ _ _ _ _ _ _ _) ?_))
    clear Z1 Z2
    generalize ((((wA.alloc (.cells tz 24)).alloc (.cells hz 84)).setCells wA.heap.size 0 (encT u).toList).setCells (wA.heap.size + 1) 0 (encH hh).toList) = wB at *
    generalize wA.heap.size = gu at *
    obtain ⟨u0, u1, u2, u3, u4⟩ := u
    have f0 := cell_of (o := 0) (v := .int .u32 u0) (HB.out.block 0 rfl) rfl
    have f1 := cell_of (o := 1) (v := .int .u32 u1) (HB.out.block 0 rfl) rfl
    have f2 := cell_of (o := 2) (v := .int .i64 u2) (HB.out.block 0 rfl) rfl
    have f3 := cell_of (o := 3) (v := .int .i64 u3) (HB.out.block 0 rfl) rfl
    have f4 := cell_of (o := 4) (v := .int .i64 u4) (HB.out.block 0 rfl) rfl
    have e0 := cell_of (o := 0) (v := .int .u32 k0) (HB.out.block 11 rfl) rfl
    have e1 := cell_of (o := 1) (v := .int .u32 k1) (HB.out.block 11 rfl) rfl
    have e2 := cell_of (o := 2) (v := .int .i64 k2) (HB.out.block 11 rfl) rfl
    have e3 := cell_of (o := 3) (v := .int .i64 k3) (HB.out.block 11 rfl) rfl
    have e4 := cell_of (o := 4) (v := .int .i64 k4) (HB.out.block 11 rfl) rfl
    have HB2 : Hid (In [] w wB (Cells g9 (plC vd rs bk7 (.slice ap pkt7.length np) (.slice ar rec7.length nr)) 43 :: ByR (.slice ap pkt7.length np) pkt7 :: RecR (.slice ar rec7.length nr) rec7 :: FA bt 8 1000 L7 :: ChL cb c vl vt (N :: RowA 49 8 vF (sortF L).length (flatF (sortF L)) :: Cells gt #[.int .u32 k0, .int .u32 k1, .int .i64 k2, .int .i64 k3, .int .i64 k4] 24 :: []))) := Lib.hid HB.out.drop.drop
    clear HB
    have HB := Lib.hid HB2.out
    clear HB2
    have hq0 : ∀ w, (binOp .eql 24 (.agg #[.int .u32 u0, .int .u32 u1, .int .i64 u2, .int .i64 u3, .int .i64 u4]) (.agg #[.int .u32 k0, .int .u32 k1, .int .i64 k2, .int .i64 k3, .int .i64 k4])).run Tryz.prog w = .ok (.bool (decide ((⟨u0, u1, u2, u3, u4⟩ : Tup) = ⟨k0, k1, k2, k3, k4⟩))) w := fun w => tup_eq ⟨u0, u1, u2, u3, u4⟩ ⟨k0, k1, k2, k3, k4⟩ w
    by_cases hu : (⟨u0, u1, u2, u3, u4⟩ : Tup) = ⟨k0, k1, k2, k3, k4⟩
    · have hq : ∀ w, (binOp .eql 24 (.agg #[.int .u32 u0, .int .u32 u1, .int .i64 u2, .int .i64 u3, .int .i64 u4]) (.agg #[.int .u32 k0, .int .u32 k1, .int .i64 k2, .int .i64 k3, .int .i64 k4])).run Tryz.prog w = .ok (.bool true) w := fun w => by rw [hq0, decide_eq_true hu]
      have KX := Lib.hid (KA.out _ _ HB.out)
      clear hq0 hu HOT HDR HB
      go_wp2_with fail
      refine KX.out.mono ?_
      rintro e wB ⟨rfl, ho⟩
      have G := Lib.hid ho.mod
      clear KX ho
      go_wp2_with fail
      go_ret
      exact ⟨rfl, G.out⟩
    have hq : ∀ w, (binOp .eql 24 (.agg #[.int .u32 u0, .int .u32 u1, .int .i64 u2, .int .i64 u3, .int .i64 u4]) (.agg #[.int .u32 k0, .int .u32 k1, .int .i64 k2, .int .i64 k3, .int .i64 k4])).run Tryz.prog w = .ok (.bool false) w := fun w => by rw [hq0, decide_eq_false hu]
    have HST7 := Lib.hid (HOT.out hu)
    clear hq0 hu HOT
    go_upto_region 29 with fail
    clear e0 e1 e2 e3 e4 f0 f1 f2 f3 f4 hq
    have p0 := cell_of (o := 0) (v := .int .i64 vd) (HB.out.block 0 rfl) rfl
    by_cases hvd : vd = 1
    case neg =>
      have hvd' : (vd == 1) = false := beq_eq_false_iff_ne.2 hvd
      have HF : Hid (StMid ⟨k0, k1, k2, k3, k4⟩ home (i + 1) bt cb gt w wB) := Lib.hid ⟨L7, c, vl, vt, HST7.out, HB.out.sel2 (R1 := [_, _, _, _, _, _, _, _, _, _]) [3, 4, 5, 6, 9] (by decide) rfl⟩
      clear HB HST7 HDR hvd 
      go_wp2_with fail
      refine meet_f hJ ?_ (by kernel_rfl)
      exact HF.out
    have hvd' : (vd == 1) = true := by rw [hvd]; rfl
    obtain ⟨hrs, hpk7, hrc7, hL7⟩ := HDR.out hvd
    subst hpk7 hrc7 hL7
    have hrs' : (rs == 0) = false := beq_eq_false_iff_ne.2 hrs
    have K29 := Lib.hid (o_fall HB.out 3 rfl)
    clear HDR hrs hvd 
    go_wp2_with fail
    refine K29.out.mono ?_
    rintro e wC ⟨vG, rfl, ho⟩
    have hC : In [] w wC (RowA 49 8 vG (sortF L7).length (flatF (sortF L7)) :: Cells g9 (plC vd rs bk7 (.slice ap 0 np) (.slice ar 0 nr)) 43 :: ByR (.slice ap 0 np) [] :: RecR (.slice ar 0 nr) [] :: FA bt 8 1000 L7 :: ChL cb c vl vt (N :: RowA 49 8 vF (sortF L7).length (flatF (sortF L7)) :: Cells gt #[.int .u32 k0, .int .u32 k1, .int .i64 k2, .int .i64 k3, .int .i64 k4] 24 :: [])) := ho
    obtain ⟨F1, r1⟩ := hC.get 0 rfl
    obtain ⟨F2, r2⟩ := hC.get 9 rfl
    have K30a := sameflows r1.view r2.view
    rw [decide_eq_true rfl] at K30a
    have K30 := Lib.hid K30a
    clear K30a
    have HON := Lib.hid (fun n => hC.drewN n)
    clear ho hC r1 r2 K29 HB p0
    go_wp2_with fail
    refine K30.out.mono ?_
    rintro e wD ⟨rfl, nq, rfl⟩
    have p1 := cell_of (o := 1) (v := .int .i64 rs) ((HON.out nq).block 1 rfl) rfl
    have p3 := cell_of (o := 3) (v := .slice ap 0 np) ((HON.out nq).block 1 rfl) rfl
    have p4 := cell_of (o := 4) (v := .slice ar 0 nr) ((HON.out nq).block 1 rfl) rfl
    have HF : Hid (StMid ⟨k0, k1, k2, k3, k4⟩ home (i + 1) bt cb gt w (wC.drewN nq)) := Lib.hid ⟨L7, c, vl, vt, HST7.out, (HON.out nq).sel2 (R1 := [_, _, _, _, _, _, _, _, _, _, _]) [4, 5, 6, 7, 10] (by decide) rfl⟩
    clear K30 HON HST7
    go_wp2_with fail
    refine meet_f hJ ?_ (by kernel_rfl)
    exact HF.out
theorem stays_arms {w wc : World} {k0 k1 k2 k3 k4 home : Int} {i gx bt cb gt : Nat} {L : List Fl} {c : ChD} {vl vt : Value} {x : Call23} {ab al ao : Option Addr} {nb nl no : Nat} (hi40 : i ≤ 40) (harg : ArgBy w (.slice ab x.body.length nb) x.body ∧ ArgBks w (.slice al x.l.length nl) x.l ∧ ArgIs w (.slice ao x.out.length no) x.out ∧ Wf23 x) (hsti : StInv ⟨k0, k1, k2, k3, k4⟩ home i L c) (hq : ¬ 1400 < x.body.length ∧ ¬ 12 < x.l.length ∧ ¬ 20 < x.out.length) (hh : 0 ≤ home ∧ home ≤ 65535) (h4 : In [] w wc (Cells gx (c23V x ab nb al nl ao no).toArray 65 :: FA bt 8 1000 L :: ChL cb c vl vt (Cells gt #[.int .u32 k0, .int .u32 k1, .int .i64 k2, .int .i64 k3, .int .i64 k4] 24 :: [])))
    {z0 z1 z3 z4 z7 z8 z10 z12 z13 z14 z15 z16 z17 z18 z19 z20 z21 z22 z23 z24 z25 z26 z27 z28 z29 z30 z31 z32 z33 z34 z35 z36 z37 z38 z39 z40 z41 z42 z43 z44 z45 z46 z47 z48 z49 z50 z51 z52 z53 z54 z55 z56 z57 z58 z59 z60 z61 z62 z63 z64 z65 z66 z67 z68 z69 z70 z71 z72 z73 z74 z75 z76 z77 z78 z79 z80 z82 z83 z84 z85 z86 z87 z88 z89 z90 z91 z92 z93 z94 z95 z96 z97 z98 z99 z100 z101 z102 z103 z104 z105 z106 z107 z108 z109 z110 z111 z112 z113 z114 z115 z116 z117 z118 z119 z120 z121 z122 z123 z124 z125 z126 z127 z128 z129 z130 z131 z132 z133 z134 z135 z136 z137 z138 z139 z140 z141 z142 z143 z144 z145 z146 z147 z148 z149 z150 z151 z152 z153 z154 z155 z156 z157 z158 z159 z160 z161 z162 z163 z164 z165 z166 z167 z168 z169 z170 z171 z172 z173 z174 z175 z176 z177 z178 z179 z180 z181 z182 z183 z184 z185 : Value} {K : Act → World → Prop} {Q' : Exit → Act → World → Prop} (hret : ∀ a' w', bodyPost Tryz.prog Tryz.f5 (TruePost w) .ret a' w' → Q' .ret a' w')
    (hK : ∀ (f : Nat → Value) (wz : World), StMid ⟨k0, k1, k2, k3, k4⟩ home (i + 1) bt cb gt w wz → K ⟨#[z0, z1, .pointer (some ⟨gt, 0, none⟩), z3, f 4, .pointer (some ⟨bt, 0, none⟩), pC cb, z7, z8, .int .i64 home, z10, .pointer (some ⟨gx, 0, none⟩), f 12, f 13, f 14, f 15, f 16, f 17, f 18, f 19, f 20, z21, z22, z23, z24, z25, z26, z27, z28, z29, z30, z31, z32, z33, z34, z35, z36, z37, z38, z39, z40, z41, z42, z43, z44, z45, z46, z47, z48, f 49, f 50, f 51, f 52, f 53, f 54, f 55, f 56, f 57, f 58, f 59, f 60, f 61, f 62, f 63, f 64, f 65, f 66, f 67, f 68, f 69, f 70, f 71, f 72, f 73, f 74, f 75, f 76, f 77, f 78, f 79, f 80, f 81, f 82, f 83, f 84, f 85, f 86, f 87, f 88, f 89, f 90, f 91, f 92, f 93, f 94, f 95, f 96, f 97, f 98, f 99, f 100, f 101, f 102, f 103, f 104, f 105, f 106, f 107, f 108, f 109, f 110, f 111, f 112, f 113, f 114, f 115, f 116, f 117, f 118, f 119, f 120, f 121, f 122, f 123, f 124, f 125, f 126, f 127, f 128, f 129, f 130, f 131, f 132, f 133, f 134, f 135, f 136, f 137, f 138, f 139, f 140, f 141, f 142, f 143, f 144, f 145, f 146, f 147, f 148, f 149, f 150, f 151, f 152, f 153, f 154, f 155, f 156, f 157, f 158, f 159, f 160, f 161, f 162, f 163, f 164, f 165, f 166, f 167, f 168, f 169, f 170, f 171, f 172, f 173, f 174, f 175, f 176, f 177, f 178, f 179, f 180, f 181, f 182, f 183, f 184, z185], []⟩ wz) :
    Code.wp Tryz.prog stC81 (Exit.then K Q') ⟨#[z0, z1, .pointer (some ⟨gt, 0, none⟩), z3, z4, .pointer (some ⟨bt, 0, none⟩), pC cb, z7, z8, .int .i64 home, z10, .pointer (some ⟨gx, 0, none⟩), z12, z13, z14, z15, z16, z17, z18, z19, z20, z21, z22, z23, z24, z25, z26, z27, z28, z29, z30, z31, z32, z33, z34, z35, z36, z37, z38, z39, z40, z41, z42, z43, z44, z45, z46, z47, z48, z49, z50, z51, z52, z53, z54, z55, z56, z57, z58, z59, z60, z61, z62, z63, z64, z65, z66, z67, z68, z69, z70, z71, z72, z73, z74, z75, z76, z77, z78, z79, z80, .bool (x.act == 2), z82, z83, z84, z85, z86, z87, z88, z89, z90, z91, z92, z93, z94, z95, z96, z97, z98, z99, z100, z101, z102, z103, z104, z105, z106, z107, z108, z109, z110, z111, z112, z113, z114, z115, z116, z117, z118, z119, z120, z121, z122, z123, z124, z125, z126, z127, z128, z129, z130, z131, z132, z133, z134, z135, z136, z137, z138, z139, z140, z141, z142, z143, z144, z145, z146, z147, z148, z149, z150, z151, z152, z153, z154, z155, z156, z157, z158, z159, z160, z161, z162, z163, z164, z165, z166, z167, z168, z169, z170, z171, z172, z173, z174, z175, z176, z177, z178, z179, z180, z181, z182, z183, z184, z185], []⟩ wc := by
  by_cases ha2 : x.act = 2
  · exact stays_a2 ha2 hi40 harg hsti hq hh h4 hret hK
  · exact stays_a0 ha2 hi40 harg hsti hq hh h4 hret hK
end Go.Proofs.YtgapbecddgfkmaaGreat
