/- Rows.PathMovesSaid -/
import Derived.Test.YtgapbecddgfkmaaGreatMV21
import Derived.Test.YtgapbecddgfkmaaGreatMV22
namespace Go.Proofs.YtgapbecddgfkmaaGreat
open Go.RowKit
set_option linter.unusedVariables false
set_option maxHeartbeats 64000000
set_option maxRecDepth 100000
theorem cutM (n : Int) {m : Int} (h0 : 0 < m) (h1 : m ≤ 1000000) : ∃ N : Nat, wrap64 ((IntKind.u64.wrap n).tmod m) = (N : Int) ∧ (N : Int) < m := by
  have hw : 0 ≤ IntKind.u64.wrap n := by rw [u64_eq]; omega
  rw [Int.tmod_eq_emod_of_nonneg hw]
  have e1 := Int.emod_nonneg (IntKind.u64.wrap n) (show m ≠ 0 by omega)
  have e2 := Int.emod_lt_of_pos (IntKind.u64.wrap n) h0
  refine ⟨(IntKind.u64.wrap n % m).toNat, ?_, by omega⟩
  generalize IntKind.u64.wrap n % m = z at *
  unfold wrap64; omega
theorem rec_kind {F0 : List Nat} {w0 w : World} {R : List Asrt} {a : Option Addr} {n c : Nat} {r : Rec} {l : List Rec} (h : In F0 w0 w R) (i : Nat) (hA : R[i]? = some (RecR (.slice a n c) (r :: l))) : ∃ g, a = some ⟨g, 0, none⟩ ∧ w.cell? ⟨g, 0, none⟩ = some (.int .i64 r.kind) := by
  obtain ⟨F, rr⟩ := h.get i hA
  obtain ⟨a', c', e, _, _, hat⟩ := RowA.shape rr
  rw [Value.slice.injEq] at e
  obtain ⟨g, e2, hc⟩ := hat 0 (.int .i64 r.kind) rfl
  exact ⟨g, e.1.trans e2, hc⟩
theorem madeM_len (k : Tup) (ttl flags : Int) : (madeD k ttl flags []).length ≤ 100000000 := by
  unfold madeD
  rw [List.length_append, buildD_length, innerL_length]
  split <;> simp
section
variable {F0 : List Nat} {w0 w : World} {R : List Asrt} {bt cb : Nat} {most idle : Int} {L : List Fl} {c : ChD} {vl vt : Value}
theorem o_rtime5 (w : World) : Calls Tryz.prog 17 #[.int .i64 5] w fun e w' => e = .returned (.bool true) ∧ w' = w := by
  go_enter Tryz.func17, Tryz.ntmps17
  go_wp2_with fail
  go_ret
  exact ⟨rfl, rfl⟩
theorem o_pktkeep {self sl fl idle0 mtu sg qu ve : Int} (hself : 0 ≤ self ∧ self < 4294967296) (hok : ChOk c) {gen now : Int} {m : List UInt8} (hm : m.length ≤ 100000000) {a : Option Addr} {n : Nat} (i : Nat) (hA : R[i]? = some (ByR (.slice a m.length n) m))
    (h : In F0 w0 w (FA bt most idle L :: ChL cb c vl vt R)) :
    Calls Tryz.prog 12 #[.agg (cfC self sl fl idle0 mtu sg qu ve), .pointer (some ⟨bt, 0, none⟩), pC cb, .int .i64 gen, .int .i64 now, .slice a m.length n] w (PktPost (pktD self mtu most L c gen now m) bt most idle cb c vl vt F0 w0 R) :=
  o_packet hself hok.s hok.t hok.l hok.wf (ByR.bytes i hA (h.drop.drop.drop.drop)) hm h
end
theorem walk_PathMoves (w : World) (k : Tup) (wk : WfT k) (y : Int) (hy : (Lit.int .i64 y).wf = true) : Calls Tryz.prog 3 #[.agg (encT k), .int .i64 y] w (TruePost w) := by
  obtain ⟨G, hq, hq2⟩ := cutM y (m := 1000000) (by omega) (by omega)
  have HQ := Lib.hid hq
  have h00 := In.start (w := w) (R := []) (F := []) (by simp) rfl
  have h0 := h00.cells (encT k) 24
  have KT0 := o_qmayt k h0
  have KA := Lib.hid (fun w' (R' : List Asrt) (h' : In [] w w' R') => o_awake23 h')
  by_cases hmk : ¬ MayT k
  · rw [decide_eq_false hmk] at KT0
    have KT := Lib.hid KT0
    obtain ⟨k0, k1, k2, k3, k4⟩ := k
    clear KT0 h0 h00 hy hq hq2 hmk wk
    go_enter Tryz.func3, Tryz.ntmps3
    go_wp2_with fail
    refine KT.out.mono ?_
    rintro e w1 ⟨rfl, ho⟩
    have K1 := Lib.hid (KA.out _ _ ho)
    clear KT ho
    go_wp2_with fail
    refine K1.out.mono ?_
    rintro e w2 ⟨rfl, ho⟩
    have G := Lib.hid ho.mod
    clear K1 ho
    go_wp2_with fail
    go_ret
    exact ⟨rfl, G.out⟩
  have mk : MayT k := Decidable.not_not.1 hmk
  rw [decide_eq_true mk] at KT0
  have KT := Lib.hid KT0
  obtain ⟨pk1, hp1⟩ := pM wk mk (gen := G) (by omega) hq2
  obtain ⟨pk2, hp2⟩ := qM wk mk (gen := G) (by omega) hq2
  obtain ⟨pk3, hp3⟩ := rM wk mk (gen := G)
  obtain ⟨pk4, hp4⟩ := eM wk mk (gen := G)
  have hwrap : IntKind.i64.wrap ((G : Int) + 1) = (G : Int) + 1 := IntWalk.i64_in _ (by omega)
  have hml := madeM_len k 9 0
  have hml4 := madeM_len k 9 4
  have KF := Lib.hid (fun w' (R' : List Asrt) (h' : In [] w w' R') => o_fnew h' 4 100)
  have KN := Lib.hid (fun w' (R' : List Asrt) (h' : In [] w w' R') => o_chnew may13 cov13 h')
  have KC := Lib.hid (fun w' (R' : List Asrt) (h' : In [] w w' R') => o_config 4 h')
  have KM0 := fun w' (R' : List Asrt) (h' : In [] w w' R') => o_made h' wk 9 0 (A := none) (c := 0) (body := []) bytes_nil (by decide)
  have KM4 := fun w' (R' : List Asrt) (h' : In [] w w' R') => o_made h' wk 9 4 (A := none) (c := 0) (body := []) bytes_nil (by decide)
  have KS1 := Lib.hid (fun w' cb g vl vt (R' : List Asrt) (h' : In [] w w' (Cells g (encBa ⟨1, 1, 1⟩) 33 :: ChL cb (newCh 13) vl vt R')) => o_chset1 (x := ⟨1, 1, 1⟩) (by decide) rfl h')
  have KS2 := Lib.hid (fun w' cb g vl vt (R' : List Asrt) (h' : In [] w w' (Cells g (encBa ⟨2, 2, 1⟩) 33 :: ChL cb cM1 vl vt R')) => o_chset1 (x := ⟨2, 2, 1⟩) (by decide) rfl h')
  have HS1 := Lib.hid setM1
  have HS2 := Lib.hid setM2
  have P1 := fun w' bt cb vl vt (R' : List Asrt) (ix : Nat) a n (hA : R'[ix]? = some (ByR (.slice a (madeD k 9 0 []).length n) (madeD k 9 0 []))) (h' : In [] w w' (FA bt 4 100 [] :: ChL cb cM1 vl vt R')) => o_pktkeep (self := 168364297) (sl := 13) (fl := 4) (idle0 := 20) (mtu := 1500) (sg := 200) (qu := 20000) (ve := 3) (by decide) chOkM1 (gen := G) (now := 0) hml ix hA h'
  have P2 := fun w' bt cb vl vt (R' : List Asrt) (ix : Nat) a n (hA : R'[ix]? = some (ByR (.slice a (madeD k 9 0 []).length n) (madeD k 9 0 []))) (h' : In [] w w' (FA bt 4 100 [⟨k, 1, G, 0⟩] :: ChL cb cM2 vl vt R')) => o_pktkeep (self := 168364297) (sl := 13) (fl := 4) (idle0 := 20) (mtu := 1500) (sg := 200) (qu := 20000) (ve := 3) (by decide) chOkM2 (gen := (G : Int) + 1) (now := 3) hml ix hA h'
  have P3 := fun w' bt cb vl vt (R' : List Asrt) (ix : Nat) a n (hA : R'[ix]? = some (ByR (.slice a (madeD k 9 0 []).length n) (madeD k 9 0 []))) (h' : In [] w w' (FA bt 4 100 [⟨k, 2, (G : Int) + 1, 3⟩] :: ChL cb cM2 vl vt R')) => o_pktkeep (self := 168364297) (sl := 13) (fl := 4) (idle0 := 20) (mtu := 1500) (sg := 200) (qu := 20000) (ve := 3) (by decide) chOkM2 (gen := (G : Int) + 1) (now := 4) hml ix hA h'
  rw [hp1] at P1
  rw [hp2] at P2
  rw [hp3] at P3
  generalize madeD k 9 0 [] = m at *
  have KM := Lib.hid KM0
  have KM4H := Lib.hid KM4
  have P1H := Lib.hid P1
  have P2H := Lib.hid P2
  have P3H := Lib.hid P3
  have HP4 := Lib.hid (And.intro hp4 hml4)
  have WK := Lib.hid (And.intro wk mk)
  obtain ⟨k0, k1, k2, k3, k4⟩ := k
  clear KT0 h0 h00 hy hq hmk wk mk KM0 KM4 P1 P2 P3 hp1 hp2 hp3 hp4 hml hml4
  go_enter Tryz.func3, Tryz.ntmps3
  go_wp2_with fail
  generalize w.heap.size = gt at *
  refine KT.out.mono ?_
  rintro e w1 ⟨rfl, ho⟩
  have K1 := Lib.hid (KF.out _ _ ho)
  clear KT ho KF
  go_wp2_with fail
  rw [HQ.out]
  refine K1.out.mono ?_
  rintro e w2 ⟨bt, rfl, ho⟩
  have h2 : In [] w w2 (FA bt 4 100 [] :: Cells gt #[.int .u32 k0, .int .u32 k1, .int .i64 k2, .int .i64 k3, .int .i64 k4] 24 :: []) := ho
  have K2 := Lib.hid (KN.out _ _ h2)
  clear K1 ho KN h2 HQ
  go_wp2_with fail
  refine K2.out.mono ?_
  rintro e w3 ⟨cb, a3, n3, rfl, ho⟩
  have h3 := (ho.cells (encBa ⟨1, 1, 1⟩) 33).cells (encBa ⟨2, 2, 1⟩) 33
  simp only [World.size_alloc] at h3
  have K3 := Lib.hid (KM.out _ _ h3)
  have e0 := cell_of (o := 0) (v := .int .u32 k0) (h3.block 6 rfl) rfl
  have e1 := cell_of (o := 1) (v := .int .u32 k1) (h3.block 6 rfl) rfl
  have e2 := cell_of (o := 2) (v := .int .i64 k2) (h3.block 6 rfl) rfl
  have e3 := cell_of (o := 3) (v := .int .i64 k3) (h3.block 6 rfl) rfl
  have e4 := cell_of (o := 4) (v := .int .i64 k4) (h3.block 6 rfl) rfl
  clear K2 ho h3
  go_wp2_with fail
  refine K3.out.mono ?_
  rintro e w4 ⟨vm, rfl, ho⟩
  obtain ⟨am, nm, rfl⟩ := ByR.shape ho
  have h4 := ho.sel2 (R1 := [_, _, _, _, _, _, _, _]) [2, 3, 4, 5, 0, 1, 6, 7] (by decide) rfl
  have K4 := KS1.out _ _ _ _ _ _ h4
  rw [HS1.out] at K4
  have K4H := Lib.hid K4
  clear K3 ho h4 K4 KS1 HS1 e0 e1 e2 e3 e4
  generalize w3.heap.size = gA at *
  go_wp2_with fail
  refine K4H.out.mono ?_
  rintro e w5 ⟨vl, vt, rfl, ho⟩
  have h5 : In [] w w5 (FA bt 4 100 [] :: ChL cb cM1 vl vt (ByR (.slice am m.length nm) m :: Cells (gA + 1) (encBa ⟨2, 2, 1⟩) 33 :: Cells gt #[.int .u32 k0, .int .u32 k1, .int .i64 k2, .int .i64 k3, .int .i64 k4] 24 :: [])) := ho.sel2 (R1 := [_, _, _, _, _, _, _]) [5, 0, 1, 2, 3, 4, 6] (by decide) rfl
  have K5 := Lib.hid (KC.out _ _ h5)
  clear K4H ho h5
  go_wp2_with fail
  refine K5.out.mono ?_
  rintro e w6 ⟨rfl, ho⟩
  have K6 := Lib.hid (P1H.out _ _ _ _ _ _ 0 _ _ rfl ho)
  clear K5 ho P1H
  go_wp2_with fail
  refine K6.out.mono ?_
  rintro e w7 ⟨vp1, vr1, rfl, ho⟩
  obtain ⟨ap1, np1, rfl⟩ := ByR.shape ho
  obtain ⟨Fr, rr⟩ := ho.get 1 rfl
  obtain ⟨ar1, nr1, rfl, -, -, -⟩ := RowA.shape rr
  have h7 := ho.cells (plC 2 0 1 (.slice ap1 pk1.length np1) (.slice ar1 1 nr1)) 43
  have h7b : In [] w _ (Cells (gA + 1) (encBa ⟨2, 2, 1⟩) 33 :: ChL cb cM1 vl vt (FA bt 4 100 [⟨⟨k0, k1, k2, k3, k4⟩, 1, G, 0⟩] :: ByR (.slice am m.length nm) m :: Cells w7.heap.size (plC 2 0 1 (.slice ap1 pk1.length np1) (.slice ar1 1 nr1)) 43 :: Cells gt #[.int .u32 k0, .int .u32 k1, .int .i64 k2, .int .i64 k3, .int .i64 k4] 24 :: [])) := h7.sel2 (R1 := [_, _, _, _, _, _, _, _, _, _]) [8, 4, 5, 6, 3, 7, 0, 9] (by decide) rfl
  have K7 := KS2.out _ _ _ _ _ _ h7b
  rw [HS2.out] at K7
  have K7H := Lib.hid K7
  clear K6 ho rr h7 h7b K7 KS2 HS2
  go_wp2_with fail
  generalize w7.heap.size = gp at *
  refine K7H.out.mono ?_
  rintro e w8 ⟨vl2, vt2, rfl, ho⟩
  have h8 : In [] w w8 (FA bt 4 100 [⟨⟨k0, k1, k2, k3, k4⟩, 1, G, 0⟩] :: ChL cb cM2 vl2 vt2 (ByR (.slice am m.length nm) m :: Cells gp (plC 2 0 1 (.slice ap1 pk1.length np1) (.slice ar1 1 nr1)) 43 :: Cells gt #[.int .u32 k0, .int .u32 k1, .int .i64 k2, .int .i64 k3, .int .i64 k4] 24 :: [])) := ho.sel2 (R1 := [_, _, _, _, _, _, _]) [3, 0, 1, 2, 4, 5, 6] (by decide) rfl
  have K8 := Lib.hid (KC.out _ _ h8)
  clear K7H ho h8
  go_wp2_with fail
  refine K8.out.mono ?_
  rintro e w9 ⟨rfl, ho⟩
  have K9 := Lib.hid (P2H.out _ _ _ _ _ _ 0 _ _ rfl ho)
  clear K8 ho P2H
  go_wp2_with fail
  refine K9.out.mono ?_
  rintro e w10 ⟨vp2, vr2, rfl, ho⟩
  obtain ⟨ap2, np2, rfl⟩ := ByR.shape ho
  obtain ⟨Fr2, rr⟩ := ho.get 1 rfl
  obtain ⟨ar2, nr2, rfl, -, -, -⟩ := RowA.shape rr
  have h10 := ho.cells (plC 2 0 2 (.slice ap2 pk2.length np2) (.slice ar2 1 nr2)) 43
  have h10b : In [] w _ (FA bt 4 100 [⟨⟨k0, k1, k2, k3, k4⟩, 2, (G : Int) + 1, 3⟩] :: ChL cb cM2 vl2 vt2 (ByR (.slice am m.length nm) m :: Cells w10.heap.size (plC 2 0 2 (.slice ap2 pk2.length np2) (.slice ar2 1 nr2)) 43 :: RecR (.slice ar2 1 nr2) [putRec ⟨⟨k0, k1, k2, k3, k4⟩, 2, (G : Int) + 1, 3⟩] :: Cells gp (plC 2 0 1 (.slice ap1 pk1.length np1) (.slice ar1 1 nr1)) 43 :: Cells gt #[.int .u32 k0, .int .u32 k1, .int .i64 k2, .int .i64 k3, .int .i64 k4] 24 :: [])) := h10.sel2 (R1 := [_, _, _, _, _, _, _, _, _, _]) [3, 4, 5, 6, 7, 0, 2, 8, 9] (by decide) rfl
  have K10 := Lib.hid (KC.out _ _ h10b)
  clear K9 ho rr h10 h10b
  go_wp2_with fail
  generalize w10.heap.size = gq at *
  refine K10.out.mono ?_
  rintro e w11 ⟨rfl, ho⟩
  have K11 := Lib.hid (P3H.out _ _ _ _ _ _ 0 _ _ rfl ho)
  clear K10 ho P3H
  go_wp2_with fail
  refine K11.out.mono ?_
  rintro e w12 ⟨vp3, vr3, rfl, ho⟩
  obtain ⟨ap3, np3, rfl⟩ := ByR.shape ho
  obtain ⟨Fr3, rr⟩ := ho.get 1 rfl
  obtain ⟨ar3, nr3, rfl, -, -, -⟩ := RowA.shape rr
  have h12 := ho.cells (plC 2 0 2 (.slice ap3 pk3.length np3) (.slice ar3 0 nr3)) 43
  have h12b : In [] w _ (FA bt 4 100 [⟨⟨k0, k1, k2, k3, k4⟩, 2, (G : Int) + 1, 4⟩] :: ChL cb cM2 vl2 vt2 (Cells gq (plC 2 0 2 (.slice ap2 pk2.length np2) (.slice ar2 1 nr2)) 43 :: RecR (.slice ar2 1 nr2) [putRec ⟨⟨k0, k1, k2, k3, k4⟩, 2, (G : Int) + 1, 3⟩] :: Cells gp (plC 2 0 1 (.slice ap1 pk1.length np1) (.slice ar1 1 nr1)) 43 :: Cells w12.heap.size (plC 2 0 2 (.slice ap3 pk3.length np3) (.slice ar3 0 nr3)) 43 :: Cells gt #[.int .u32 k0, .int .u32 k1, .int .i64 k2, .int .i64 k3, .int .i64 k4] 24 :: [])) := h12.sel2 (R1 := [_, _, _, _, _, _, _, _, _, _, _, _]) [3, 4, 5, 6, 8, 9, 10, 0, 11] (by decide) rfl
  have K12 := o_fget h12b 0 rfl WK.out.1
  rw [atM ⟨⟨k0, k1, k2, k3, k4⟩, 2, (G : Int) + 1, 4⟩] at K12
  simp only [Option.getD_some, Option.isSome_some] at K12
  have K12H := Lib.hid K12
  have e0 := cell_of (o := 0) (v := .int .u32 k0) (h12b.block 8 rfl) rfl
  have e1 := cell_of (o := 1) (v := .int .u32 k1) (h12b.block 8 rfl) rfl
  have e2 := cell_of (o := 2) (v := .int .i64 k2) (h12b.block 8 rfl) rfl
  have e3 := cell_of (o := 3) (v := .int .i64 k3) (h12b.block 8 rfl) rfl
  have e4 := cell_of (o := 4) (v := .int .i64 k4) (h12b.block 8 rfl) rfl
  clear K11 ho rr h12 h12b K12
  go_wp2_with fail
  generalize w12.heap.size = gr at *
  refine K12H.out.mono ?_
  rintro e w13 ⟨rfl, ho⟩
  have h13 := ho.cells #[.int .u32 k0, .int .u32 k1, .int .i64 k2, .int .i64 k3, .int .i64 k4, .int .i64 2, .int .i64 ((G : Int) + 1), .int .i64 4] 49
  clear K12H ho e0 e1 e2 e3 e4
  have e0 := cell_of (o := 0) (v := .int .u32 k0) (h13.block 9 rfl) rfl
  have e1 := cell_of (o := 1) (v := .int .u32 k1) (h13.block 9 rfl) rfl
  have e2 := cell_of (o := 2) (v := .int .i64 k2) (h13.block 9 rfl) rfl
  have e3 := cell_of (o := 3) (v := .int .i64 k3) (h13.block 9 rfl) rfl
  have e4 := cell_of (o := 4) (v := .int .i64 k4) (h13.block 9 rfl) rfl
  have p2 := cell_of (o := 2) (v := .int .i64 1) (h13.block 7 rfl) rfl
  have p4 := cell_of (o := 4) (v := .slice ar1 1 nr1) (h13.block 7 rfl) rfl
  have q2 := cell_of (o := 2) (v := .int .i64 2) (h13.block 5 rfl) rfl
  have q4 := cell_of (o := 4) (v := .slice ar2 1 nr2) (h13.block 5 rfl) rfl
  have r2 := cell_of (o := 2) (v := .int .i64 2) (h13.block 8 rfl) rfl
  have r4 := cell_of (o := 4) (v := .slice ar3 0 nr3) (h13.block 8 rfl) rfl
  have h14 := h13.cells #[.int .u32 k0, .int .u32 k1, .int .i64 k2, .int .i64 k3, .int .i64 k4, .int .i64 2, .int .i64 ((G : Int) + 1), .int .i64 3] 49
  simp only [World.size_alloc] at h14
  go_upto_region 16 with fail
  generalize w13.heap.size = gf at *
  obtain ⟨gz, rfl, -⟩ := rec_kind h14 7 rfl
  have HZ : Hid (∀ W, In [] w W (Cells (gf + 1) #[.int .u32 k0, .int .u32 k1, .int .i64 k2, .int .i64 k3, .int .i64 k4, .int .i64 2, .int .i64 ((G : Int) + 1), .int .i64 3] 49 :: Cells gf #[.int .u32 k0, .int .u32 k1, .int .i64 k2, .int .i64 k3, .int .i64 k4, .int .i64 2, .int .i64 ((G : Int) + 1), .int .i64 4] 49 :: FA bt 4 100 [⟨⟨k0, k1, k2, k3, k4⟩, 2, (G : Int) + 1, 4⟩] :: ChL cb cM2 vl2 vt2 (Cells gq (plC 2 0 2 (.slice ap2 pk2.length np2) (.slice (some ⟨gz, 0, none⟩) 1 nr2)) 43 :: RecR (.slice (some ⟨gz, 0, none⟩) 1 nr2) [putRec ⟨⟨k0, k1, k2, k3, k4⟩, 2, (G : Int) + 1, 3⟩] :: Cells gp (plC 2 0 1 (.slice ap1 pk1.length np1) (.slice ar1 1 nr1)) 43 :: Cells gr (plC 2 0 2 (.slice ap3 pk3.length np3) (.slice ar3 0 nr3)) 43 :: Cells gt #[.int .u32 k0, .int .u32 k1, .int .i64 k2, .int .i64 k3, .int .i64 k4] 24 :: [])) → ∀ (j : Nat) (v : Value), (recN [putRec ⟨⟨k0, k1, k2, k3, k4⟩, 2, (G : Int) + 1, 3⟩])[j]? = some v → W.cell? ⟨gz, j, none⟩ = some v) := Lib.hid fun W hW j v hv => by
    obtain ⟨F, rr⟩ := hW.get 7 rfl
    obtain ⟨a', c', e, _, _, hat⟩ := RowA.shape rr
    rw [Value.slice.injEq] at e
    obtain ⟨g', e2, hc⟩ := hat j v hv
    have e3 := e.1.trans e2
    simp only [Option.some.injEq, Addr.mk.injEq] at e3
    rw [e3.1]; exact hc
  have KSR := Lib.hid (fun w' (h' : In [] w w' (Cells (gf + 1) #[.int .u32 k0, .int .u32 k1, .int .i64 k2, .int .i64 k3, .int .i64 k4, .int .i64 2, .int .i64 ((G : Int) + 1), .int .i64 3] 49 :: Cells gf #[.int .u32 k0, .int .u32 k1, .int .i64 k2, .int .i64 k3, .int .i64 k4, .int .i64 2, .int .i64 ((G : Int) + 1), .int .i64 4] 49 :: FA bt 4 100 [⟨⟨k0, k1, k2, k3, k4⟩, 2, (G : Int) + 1, 4⟩] :: ChL cb cM2 vl2 vt2 (Cells gq (plC 2 0 2 (.slice ap2 pk2.length np2) (.slice (some ⟨gz, 0, none⟩) 1 nr2)) 43 :: RecR (.slice (some ⟨gz, 0, none⟩) 1 nr2) [putRec ⟨⟨k0, k1, k2, k3, k4⟩, 2, (G : Int) + 1, 3⟩] :: Cells gp (plC 2 0 1 (.slice ap1 pk1.length np1) (.slice ar1 1 nr1)) 43 :: Cells gr (plC 2 0 2 (.slice ap3 pk3.length np3) (.slice ar3 0 nr3)) 43 :: Cells gt #[.int .u32 k0, .int .u32 k1, .int .i64 k2, .int .i64 k3, .int .i64 k4] 24 :: []))) => o_samerec k0 k1 k2 k3 k4 2 ((G : Int) + 1) 3 h')
  have HV : Hid (In [] w _ (Cells (gf + 1) #[.int .u32 k0, .int .u32 k1, .int .i64 k2, .int .i64 k3, .int .i64 k4, .int .i64 2, .int .i64 ((G : Int) + 1), .int .i64 3] 49 :: Cells gf #[.int .u32 k0, .int .u32 k1, .int .i64 k2, .int .i64 k3, .int .i64 k4, .int .i64 2, .int .i64 ((G : Int) + 1), .int .i64 4] 49 :: FA bt 4 100 [⟨⟨k0, k1, k2, k3, k4⟩, 2, (G : Int) + 1, 4⟩] :: ChL cb cM2 vl2 vt2 (Cells gq (plC 2 0 2 (.slice ap2 pk2.length np2) (.slice (some ⟨gz, 0, none⟩) 1 nr2)) 43 :: RecR (.slice (some ⟨gz, 0, none⟩) 1 nr2) [putRec ⟨⟨k0, k1, k2, k3, k4⟩, 2, (G : Int) + 1, 3⟩] :: Cells gp (plC 2 0 1 (.slice ap1 pk1.length np1) (.slice ar1 1 nr1)) 43 :: Cells gr (plC 2 0 2 (.slice ap3 pk3.length np3) (.slice ar3 0 nr3)) 43 :: Cells gt #[.int .u32 k0, .int .u32 k1, .int .i64 k2, .int .i64 k3, .int .i64 k4] 24 :: []))) := Lib.hid h14
  clear h13 h14 e0 e1 e2 e3 e4 p2 p4 q2 q4 r2 r4
  generalize ((w13.alloc (.cells #[.int .u32 k0, .int .u32 k1, .int .i64 k2, .int .i64 k3, .int .i64 k4, .int .i64 2, .int .i64 ((G : Int) + 1), .int .i64 4] 49)).alloc (.cells #[.int .u32 k0, .int .u32 k1, .int .i64 k2, .int .i64 k3, .int .i64 k4, .int .i64 2, .int .i64 ((G : Int) + 1), .int .i64 3] 49)) = V at *
  have HD := Lib.hid (HV.out.drewN 1)
  have hS : V.drew.cell? ⟨gf, 5, none⟩ = some (.int .i64 2) ∧ V.drew.cell? ⟨gf, 6, none⟩ = some (.int .i64 ((G : Int) + 1)) ∧ V.drew.cell? ⟨gf, 7, none⟩ = some (.int .i64 4) ∧ V.drew.cell? ⟨gq, 4, none⟩ = some (.slice (some ⟨gz, 0, none⟩) 1 nr2) ∧ V.drew.cell? ⟨gz, 0, none⟩ = some (.int .i64 1) ∧ V.drew.cell? ⟨gz, 1, none⟩ = some (.int .u32 k0) ∧ V.drew.cell? ⟨gz, 2, none⟩ = some (.int .u32 k1) ∧ V.drew.cell? ⟨gz, 3, none⟩ = some (.int .i64 k2) ∧ V.drew.cell? ⟨gz, 4, none⟩ = some (.int .i64 k3) ∧ V.drew.cell? ⟨gz, 5, none⟩ = some (.int .i64 k4) ∧ V.drew.cell? ⟨gz, 6, none⟩ = some (.int .i64 2) ∧ V.drew.cell? ⟨gz, 7, none⟩ = some (.int .i64 ((G : Int) + 1)) ∧ V.drew.cell? ⟨gz, 8, none⟩ = some (.int .i64 3) ∧ V.drew.cell? ⟨gz, 9, none⟩ = some (.int .i64 0) ∧ V.drew.cell? ⟨gz, 10, none⟩ = some (.slice none 0 0) ∧ V.drew.cell? ⟨gz, 11, none⟩ = some (.int .i64 0) ∧ V.drew.cell? ⟨gz, 12, none⟩ = some (.int .i64 0) ∧ V.drew.cell? ⟨gz, 13, none⟩ = some (.int .i64 0) ∧ V.drew.cell? ⟨gf + 1, 0, none⟩ = some (.int .u32 k0) ∧ V.drew.cell? ⟨gf + 1, 1, none⟩ = some (.int .u32 k1) ∧ V.drew.cell? ⟨gf + 1, 2, none⟩ = some (.int .i64 k2) ∧ V.drew.cell? ⟨gf + 1, 3, none⟩ = some (.int .i64 k3) ∧ V.drew.cell? ⟨gf + 1, 4, none⟩ = some (.int .i64 k4) ∧ V.drew.cell? ⟨gf + 1, 5, none⟩ = some (.int .i64 2) ∧ V.drew.cell? ⟨gf + 1, 6, none⟩ = some (.int .i64 ((G : Int) + 1)) ∧ V.drew.cell? ⟨gf + 1, 7, none⟩ = some (.int .i64 3) := ⟨cell_of (HD.out.block 1 rfl) rfl, cell_of (HD.out.block 1 rfl) rfl, cell_of (HD.out.block 1 rfl) rfl, cell_of (HD.out.block 6 rfl) rfl, HZ.out _ HD.out 0 _ rfl, HZ.out _ HD.out 1 _ rfl, HZ.out _ HD.out 2 _ rfl, HZ.out _ HD.out 3 _ rfl, HZ.out _ HD.out 4 _ rfl, HZ.out _ HD.out 5 _ rfl, HZ.out _ HD.out 6 _ rfl, HZ.out _ HD.out 7 _ rfl, HZ.out _ HD.out 8 _ rfl, HZ.out _ HD.out 9 _ rfl, HZ.out _ HD.out 10 _ rfl, HZ.out _ HD.out 11 _ rfl, HZ.out _ HD.out 12 _ rfl, HZ.out _ HD.out 13 _ rfl, cell_of (HD.out.block 0 rfl) rfl, cell_of (HD.out.block 0 rfl) rfl, cell_of (HD.out.block 0 rfl) rfl, cell_of (HD.out.block 0 rfl) rfl, cell_of (HD.out.block 0 rfl) rfl, cell_of (HD.out.block 0 rfl) rfl, cell_of (HD.out.block 0 rfl) rfl, cell_of (HD.out.block 0 rfl) rfl⟩
  go_cut [131] (fun x wx => x = .bool false ∧ In [] w wx (Cells (gf + 1) #[.int .u32 k0, .int .u32 k1, .int .i64 k2, .int .i64 k3, .int .i64 k4, .int .i64 2, .int .i64 ((G : Int) + 1), .int .i64 3] 49 :: Cells gf #[.int .u32 k0, .int .u32 k1, .int .i64 k2, .int .i64 k3, .int .i64 k4, .int .i64 2, .int .i64 ((G : Int) + 1), .int .i64 4] 49 :: FA bt 4 100 [⟨⟨k0, k1, k2, k3, k4⟩, 2, (G : Int) + 1, 4⟩] :: ChL cb cM2 vl2 vt2 (Cells gq (plC 2 0 2 (.slice ap2 pk2.length np2) (.slice (some ⟨gz, 0, none⟩) 1 nr2)) 43 :: RecR (.slice (some ⟨gz, 0, none⟩) 1 nr2) [putRec ⟨⟨k0, k1, k2, k3, k4⟩, 2, (G : Int) + 1, 3⟩] :: Cells gp (plC 2 0 1 (.slice ap1 pk1.length np1) (.slice ar1 1 nr1)) 43 :: Cells gr (plC 2 0 2 (.slice ap3 pk3.length np3) (.slice ar3 0 nr3)) 43 :: Cells gt #[.int .u32 k0, .int .u32 k1, .int .i64 k2, .int .i64 k3, .int .i64 k4] 24 :: [])))
  case first =>
    go_region_held3 (fun w' => w'.cell? ⟨gf, 5, none⟩ = some (.int .i64 2) ∧ w'.cell? ⟨gf, 6, none⟩ = some (.int .i64 ((G : Int) + 1)) ∧ w'.cell? ⟨gf, 7, none⟩ = some (.int .i64 4) ∧ w'.cell? ⟨gq, 4, none⟩ = some (.slice (some ⟨gz, 0, none⟩) 1 nr2) ∧ w'.cell? ⟨gz, 0, none⟩ = some (.int .i64 1) ∧ w'.cell? ⟨gz, 1, none⟩ = some (.int .u32 k0) ∧ w'.cell? ⟨gz, 2, none⟩ = some (.int .u32 k1) ∧ w'.cell? ⟨gz, 3, none⟩ = some (.int .i64 k2) ∧ w'.cell? ⟨gz, 4, none⟩ = some (.int .i64 k3) ∧ w'.cell? ⟨gz, 5, none⟩ = some (.int .i64 k4) ∧ w'.cell? ⟨gz, 6, none⟩ = some (.int .i64 2) ∧ w'.cell? ⟨gz, 7, none⟩ = some (.int .i64 ((G : Int) + 1)) ∧ w'.cell? ⟨gz, 8, none⟩ = some (.int .i64 3) ∧ w'.cell? ⟨gz, 9, none⟩ = some (.int .i64 0) ∧ w'.cell? ⟨gz, 10, none⟩ = some (.slice none 0 0) ∧ w'.cell? ⟨gz, 11, none⟩ = some (.int .i64 0) ∧ w'.cell? ⟨gz, 12, none⟩ = some (.int .i64 0) ∧ w'.cell? ⟨gz, 13, none⟩ = some (.int .i64 0) ∧ w'.cell? ⟨gf + 1, 0, none⟩ = some (.int .u32 k0) ∧ w'.cell? ⟨gf + 1, 1, none⟩ = some (.int .u32 k1) ∧ w'.cell? ⟨gf + 1, 2, none⟩ = some (.int .i64 k2) ∧ w'.cell? ⟨gf + 1, 3, none⟩ = some (.int .i64 k3) ∧ w'.cell? ⟨gf + 1, 4, none⟩ = some (.int .i64 k4) ∧ w'.cell? ⟨gf + 1, 5, none⟩ = some (.int .i64 2) ∧ w'.cell? ⟨gf + 1, 6, none⟩ = some (.int .i64 ((G : Int) + 1)) ∧ w'.cell? ⟨gf + 1, 7, none⟩ = some (.int .i64 3)) (first | exact hS | exact hz | go_keep) (first | (go_at_call 15; refine (KSR.out _ HD.out).mono ?_; rintro e w15 ⟨rfl, g15⟩; have HG := Lib.hid g15; have hz : w15.cell? ⟨gf, 5, none⟩ = some (.int .i64 2) ∧ w15.cell? ⟨gf, 6, none⟩ = some (.int .i64 ((G : Int) + 1)) ∧ w15.cell? ⟨gf, 7, none⟩ = some (.int .i64 4) ∧ w15.cell? ⟨gq, 4, none⟩ = some (.slice (some ⟨gz, 0, none⟩) 1 nr2) ∧ w15.cell? ⟨gz, 0, none⟩ = some (.int .i64 1) ∧ w15.cell? ⟨gz, 1, none⟩ = some (.int .u32 k0) ∧ w15.cell? ⟨gz, 2, none⟩ = some (.int .u32 k1) ∧ w15.cell? ⟨gz, 3, none⟩ = some (.int .i64 k2) ∧ w15.cell? ⟨gz, 4, none⟩ = some (.int .i64 k3) ∧ w15.cell? ⟨gz, 5, none⟩ = some (.int .i64 k4) ∧ w15.cell? ⟨gz, 6, none⟩ = some (.int .i64 2) ∧ w15.cell? ⟨gz, 7, none⟩ = some (.int .i64 ((G : Int) + 1)) ∧ w15.cell? ⟨gz, 8, none⟩ = some (.int .i64 3) ∧ w15.cell? ⟨gz, 9, none⟩ = some (.int .i64 0) ∧ w15.cell? ⟨gz, 10, none⟩ = some (.slice none 0 0) ∧ w15.cell? ⟨gz, 11, none⟩ = some (.int .i64 0) ∧ w15.cell? ⟨gz, 12, none⟩ = some (.int .i64 0) ∧ w15.cell? ⟨gz, 13, none⟩ = some (.int .i64 0) ∧ w15.cell? ⟨gf + 1, 0, none⟩ = some (.int .u32 k0) ∧ w15.cell? ⟨gf + 1, 1, none⟩ = some (.int .u32 k1) ∧ w15.cell? ⟨gf + 1, 2, none⟩ = some (.int .i64 k2) ∧ w15.cell? ⟨gf + 1, 3, none⟩ = some (.int .i64 k3) ∧ w15.cell? ⟨gf + 1, 4, none⟩ = some (.int .i64 k4) ∧ w15.cell? ⟨gf + 1, 5, none⟩ = some (.int .i64 2) ∧ w15.cell? ⟨gf + 1, 6, none⟩ = some (.int .i64 ((G : Int) + 1)) ∧ w15.cell? ⟨gf + 1, 7, none⟩ = some (.int .i64 3) := ⟨cell_of (HG.out.block 1 rfl) rfl, cell_of (HG.out.block 1 rfl) rfl, cell_of (HG.out.block 1 rfl) rfl, cell_of (HG.out.block 6 rfl) rfl, HZ.out _ HG.out 0 _ rfl, HZ.out _ HG.out 1 _ rfl, HZ.out _ HG.out 2 _ rfl, HZ.out _ HG.out 3 _ rfl, HZ.out _ HG.out 4 _ rfl, HZ.out _ HG.out 5 _ rfl, HZ.out _ HG.out 6 _ rfl, HZ.out _ HG.out 7 _ rfl, HZ.out _ HG.out 8 _ rfl, HZ.out _ HG.out 9 _ rfl, HZ.out _ HG.out 10 _ rfl, HZ.out _ HG.out 11 _ rfl, HZ.out _ HG.out 12 _ rfl, HZ.out _ HG.out 13 _ rfl, cell_of (HG.out.block 0 rfl) rfl, cell_of (HG.out.block 0 rfl) rfl, cell_of (HG.out.block 0 rfl) rfl, cell_of (HG.out.block 0 rfl) rfl, cell_of (HG.out.block 0 rfl) rfl, cell_of (HG.out.block 0 rfl) rfl, cell_of (HG.out.block 0 rfl) rfl, cell_of (HG.out.block 0 rfl) rfl⟩; clear g15))
    go_wp2_with fail
    go_meet
    exact ⟨rfl, HG.out⟩
  case rest =>
    obtain ⟨rfl, ho⟩ := hcut
    have h15 : In [] w wc (FA bt 4 100 [⟨⟨k0, k1, k2, k3, k4⟩, 2, (G : Int) + 1, 4⟩] :: ChL cb cM2 vl2 vt2 (Cells gt #[.int .u32 k0, .int .u32 k1, .int .i64 k2, .int .i64 k3, .int .i64 k4] 24 :: [])) := ho.sel2 (R1 := [_, _, _, _, _, _, _, _, _, _, _]) [2, 3, 4, 5, 10] (by decide) rfl
    clear ho HD HV HZ KSR hS
    have hp4 := HP4.out.1
    have hml4 := HP4.out.2
    obtain ⟨rc4, hrc4⟩ : ∃ rc4 : List Rec, rc4 = (if k2 = 6 then [delRec ⟨k0, k1, k2, k3, k4⟩] else []) := ⟨_, rfl⟩
    obtain ⟨L4, hL4⟩ : ∃ L4 : List Fl, L4 = (if k2 = 6 then [] else [⟨⟨k0, k1, k2, k3, k4⟩, 2, (G : Int) + 1, 5⟩]) := ⟨_, rfl⟩
    have hp5 : pktD 168364297 1500 4 [⟨⟨k0, k1, k2, k3, k4⟩, 2, (G : Int) + 1, 4⟩] cM2 ((G : Int) + 1) 5 (madeD ⟨k0, k1, k2, k3, k4⟩ 9 4 []) = (⟨2, 0, 2, pk4, rc4⟩, L4) := by rw [hp4, hrc4, hL4]
    have hcase : (k2 = 6 ∧ rc4.length = 1 ∧ L4.length = 0) ∨ (k2 ≠ 6 ∧ rc4.length = 0 ∧ L4.length = 1) := by
      by_cases h6 : k2 = 6
      · left; rw [hrc4, hL4, if_pos h6, if_pos h6]; exact ⟨h6, rfl, rfl⟩
      · right; rw [hrc4, hL4, if_neg h6, if_neg h6]; exact ⟨h6, rfl, rfl⟩
    have HCASE := Lib.hid hcase
    have KM1 := KM4H.out
    have KP0 := fun w' (R' : List Asrt) a n (h' : In [] w w' (ByR (.slice a (madeD ⟨k0, k1, k2, k3, k4⟩ 9 4 []).length n) (madeD ⟨k0, k1, k2, k3, k4⟩ 9 4 []) :: FA bt 4 100 [⟨⟨k0, k1, k2, k3, k4⟩, 2, (G : Int) + 1, 4⟩] :: ChL cb cM2 vl2 vt2 R')) => o_pktown (self := 168364297) (sl := 13) (fl := 4) (idle0 := 20) (mtu := 1500) (sg := 200) (qu := 20000) (ve := 3) (by decide) chOkM2 (gen := (G : Int) + 1) (now := 5) hml4 h'
    rw [hp5] at KP0
    clear KM4H HP4
    generalize madeD ⟨k0, k1, k2, k3, k4⟩ 9 4 [] = mm at *
    have KM := Lib.hid KM1
    have KP := Lib.hid KP0
    clear KM1 KP0 hp4 hp5 hml4 hrc4 hL4 hcase
    go_upto_region 18 with fail
    generalize wc = W6 at *
    have HD1 := h15.drewN 1
    clear h15
    go_cut [16] (fun x16 wx => ∃ g5 vp vr, x16 = .pointer (some ⟨g5, 0, none⟩) ∧ In [] w wx (Cells g5 (plC 2 0 2 vp vr) 43 :: ByR vp pk4 :: RecR vr rc4 :: FA bt 4 100 L4 :: ChL cb cM2 vl2 vt2 (Cells gt #[.int .u32 k0, .int .u32 k1, .int .i64 k2, .int .i64 k3, .int .i64 k4] 24 :: [])))
    case first =>
      have HD : Hid (In [] w W6.drew (FA bt 4 100 [⟨⟨k0, k1, k2, k3, k4⟩, 2, (G : Int) + 1, 4⟩] :: ChL cb cM2 vl2 vt2 (Cells gt #[.int .u32 k0, .int .u32 k1, .int .i64 k2, .int .i64 k3, .int .i64 k4] 24 :: []))) := Lib.hid HD1
      clear HD1
      refine e_start (fun w' => w'.cell? ⟨gt, 0, none⟩ = some (.int .u32 k0) ∧ w'.cell? ⟨gt, 1, none⟩ = some (.int .u32 k1) ∧ w'.cell? ⟨gt, 2, none⟩ = some (.int .i64 k2) ∧ w'.cell? ⟨gt, 3, none⟩ = some (.int .i64 k3) ∧ w'.cell? ⟨gt, 4, none⟩ = some (.int .i64 k4)) (by kernel_rfl) ⟨cell_of (HD.out.block 4 rfl) rfl, cell_of (HD.out.block 4 rfl) rfl, cell_of (HD.out.block 4 rfl) rfl, cell_of (HD.out.block 4 rfl) rfl, cell_of (HD.out.block 4 rfl) rfl⟩ (fun hS => ?_)
      generalize W6.drew = VD at *
      refine e_take (i := 1) (v := ?_) rfl (by kernel_rfl) (fun _ _ _ h => h) (by rfl) ?_ hS ?_
      rotate_left
      · (intro w hSw; (try dsimp only at hSw); go_simp; try with_reducible rfl)
      try simp only [Act.put, List.setIfInBounds_toArray, List.set_cons_zero, List.set_cons_succ]
      refine e_take (i := 2) (v := ?_) rfl (by kernel_rfl) (fun _ _ _ h => h) (by rfl) ?_ hS ?_
      rotate_left
      · (intro w hSw; (try dsimp only at hSw); go_simp; try with_reducible rfl)
      try simp only [Act.put, List.setIfInBounds_toArray, List.set_cons_zero, List.set_cons_succ]
      refine e_take (i := 3) (v := ?_) rfl (by kernel_rfl) (fun _ _ _ h => h) (by rfl) ?_ hS ?_
      rotate_left
      · (intro w hSw; (try dsimp only at hSw); go_simp; try with_reducible rfl)
      try simp only [Act.put, List.setIfInBounds_toArray, List.set_cons_zero, List.set_cons_succ]
      refine e_take (i := 4) (v := ?_) rfl (by kernel_rfl) (fun _ _ _ h => h) (by rfl) ?_ hS ?_
      rotate_left
      · (intro w hSw; (try dsimp only at hSw); go_simp; try with_reducible rfl)
      try simp only [Act.put, List.setIfInBounds_toArray, List.set_cons_zero, List.set_cons_succ]
      refine e_take (i := 5) (v := ?_) rfl (by kernel_rfl) (fun _ _ _ h => h) (by rfl) ?_ hS ?_
      rotate_left
      · (intro w hSw; (try dsimp only at hSw); go_simp; try with_reducible rfl)
      try simp only [Act.put, List.setIfInBounds_toArray, List.set_cons_zero, List.set_cons_succ]
      refine e_two (i := 0) (j := 8) rfl rfl (by kernel_rfl) (fun K' hK => ?_) (fun K' hK => ?_)
      · go_simp
        go_at_call 13
        refine (KC.out _ _ HD.out).mono ?_
        rintro e u1 ⟨rfl, hN1⟩
        have HU1 : Hid (In [] w u1 (FA bt 4 100 [⟨⟨k0, k1, k2, k3, k4⟩, 2, (G : Int) + 1, 4⟩] :: ChL cb cM2 vl2 vt2 (Cells gt #[.int .u32 k0, .int .u32 k1, .int .i64 k2, .int .i64 k3, .int .i64 k4] 24 :: []))) := Lib.hid hN1
        clear hN1
        refine hK.out _ _ ⟨cell_of (HU1.out.block 4 rfl) rfl, cell_of (HU1.out.block 4 rfl) rfl, cell_of (HU1.out.block 4 rfl) rfl, cell_of (HU1.out.block 4 rfl) rfl, cell_of (HU1.out.block 4 rfl) rfl⟩ (fun hS => ?_)
        clear hK K'
        try simp only [Act.put, List.setIfInBounds_toArray, List.set_cons_zero, List.set_cons_succ]
        refine e_two (i := 6) (j := 8) rfl rfl (by kernel_rfl) (fun K' hK => ?_) (fun K' hK => ?_)
        · go_simp
          go_at_call 10
          refine (KM.out _ _ HU1.out).mono ?_
          rintro e u2 ⟨vM, rfl, hN2⟩
          obtain ⟨aM, nM, rfl⟩ := ByR.shape hN2
          have HU2 : Hid (In [] w u2 (ByR (.slice aM mm.length nM) mm :: FA bt 4 100 [⟨⟨k0, k1, k2, k3, k4⟩, 2, (G : Int) + 1, 4⟩] :: ChL cb cM2 vl2 vt2 (Cells gt #[.int .u32 k0, .int .u32 k1, .int .i64 k2, .int .i64 k3, .int .i64 k4] 24 :: []))) := Lib.hid hN2
          clear hN2
          refine hK.out _ _ ⟨cell_of (HU2.out.block 5 rfl) rfl, cell_of (HU2.out.block 5 rfl) rfl, cell_of (HU2.out.block 5 rfl) rfl, cell_of (HU2.out.block 5 rfl) rfl, cell_of (HU2.out.block 5 rfl) rfl⟩ (fun hS => ?_)
          clear hK K'
          try simp only [Act.put, List.setIfInBounds_toArray, List.set_cons_zero, List.set_cons_succ]
          refine e_two (i := 7) (j := 8) rfl rfl (by kernel_rfl) (fun K' hK => ?_) (fun K' hK => ?_)
          · go_simp
            go_at_call 12
            refine (KP.out _ _ _ _ HU2.out).mono ?_
            rintro e u3 ⟨vp, vr, rfl, hN3⟩
            obtain ⟨ap, np, rfl⟩ := ByR.shape hN3
            obtain ⟨Fr, rr⟩ := hN3.get 1 rfl
            obtain ⟨ar, nr, rfl, -, -, -⟩ := RowA.shape rr
            have HU3 : Hid (In [] w u3 (ByR (.slice ap pk4.length np) pk4 :: RecR (.slice ar rc4.length nr) rc4 :: FA bt 4 100 L4 :: ChL cb cM2 vl2 vt2 (Cells gt #[.int .u32 k0, .int .u32 k1, .int .i64 k2, .int .i64 k3, .int .i64 k4] 24 :: []))) := Lib.hid hN3
            clear hN3 rr
            refine hK.out _ _ ⟨cell_of (HU3.out.block 6 rfl) rfl, cell_of (HU3.out.block 6 rfl) rfl, cell_of (HU3.out.block 6 rfl) rfl, cell_of (HU3.out.block 6 rfl) rfl, cell_of (HU3.out.block 6 rfl) rfl⟩ (fun hS => ?_)
            clear hK K'
            try simp only [Act.put, List.setIfInBounds_toArray, List.set_cons_zero, List.set_cons_succ]
            refine e_pin (i := 8) rfl (by kernel_rfl) (fun K' hK => ?_)
            go_simp
            have hA4 := HU3.out.cells (plC 0 0 0 (.slice none 0 0) (.slice none 0 0)) 43
            generalize u3.heap.size = gA at *
            generalize (u3.alloc (.cells (plC 0 0 0 (.slice none 0 0) (.slice none 0 0)) 43)) = u4 at *
            have HU4 : Hid (In [] w u4 (ByR (.slice ap pk4.length np) pk4 :: RecR (.slice ar rc4.length nr) rc4 :: FA bt 4 100 L4 :: ChL cb cM2 vl2 vt2 (Cells gA (plC 0 0 0 (.slice none 0 0) (.slice none 0 0)) 43 :: Cells gt #[.int .u32 k0, .int .u32 k1, .int .i64 k2, .int .i64 k3, .int .i64 k4] 24 :: []))) := Lib.hid (hA4.sel2 (R1 := [_, _, _, _, _, _, _, _]) [1, 2, 3, 4, 5, 6, 0, 7] (by decide) rfl)
            clear hA4
            refine hK.out _ _ ⟨cell_of (HU4.out.block 7 rfl) rfl, cell_of (HU4.out.block 7 rfl) rfl, cell_of (HU4.out.block 7 rfl) rfl, cell_of (HU4.out.block 7 rfl) rfl, cell_of (HU4.out.block 7 rfl) rfl⟩ (fun hS => ?_)
            clear hK K'
            try simp only [Act.put, List.setIfInBounds_toArray, List.set_cons_zero, List.set_cons_succ]
            refine e_last (i := 9) rfl (by kernel_rfl) (fun K' hK => ?_)
            have hF := HU4.out.setFull 6 rfl (xs := (plC 2 0 2 (.slice ap pk4.length np) (.slice ar rc4.length nr)).toList) (b := gA) (C := (plC 0 0 0 (.slice none 0 0) (.slice none 0 0))) (T := 43) rfl
            refine store_step (by rfl) 43 (.tmp 16) (.tmp 139) (by rfl) gA 0 (plC 2 0 2 (.slice ap pk4.length np) (.slice ar rc4.length nr)) (by rfl) (by rfl) (there_of (C := (plC 0 0 0 (.slice none 0 0) (.slice none 0 0))) (T := 43) (HU4.out.block 6 rfl)) (by kernel_rfl) (plC_all _ _ _ _ _ _ _ _ _) ?_
            refine hK.out _ _ ?_
            clear hK K' hS
            go_wp2_with fail
            go_meet
            exact ⟨gA, _, _, rfl, hF.sel2 (R1 := [_, _, _, _, _, _, _, _]) [6, 0, 1, 2, 3, 4, 5, 7] (by decide) rfl⟩
          · go_simp
            have hA5 := HU2.out.cells (plC 0 0 0 (.slice none 0 0) (.slice none 0 0)) 43
            generalize u2.heap.size = gA at *
            generalize (u2.alloc (.cells (plC 0 0 0 (.slice none 0 0) (.slice none 0 0)) 43)) = u5 at *
            have HU5 : Hid (In [] w u5 (ByR (.slice aM mm.length nM) mm :: FA bt 4 100 [⟨⟨k0, k1, k2, k3, k4⟩, 2, (G : Int) + 1, 4⟩] :: ChL cb cM2 vl2 vt2 (Cells gA (plC 0 0 0 (.slice none 0 0) (.slice none 0 0)) 43 :: Cells gt #[.int .u32 k0, .int .u32 k1, .int .i64 k2, .int .i64 k3, .int .i64 k4] 24 :: []))) := Lib.hid (hA5.sel2 (R1 := [_, _, _, _, _, _, _]) [1, 2, 3, 4, 5, 0, 6] (by decide) rfl)
            clear hA5
            refine hK.out _ _ ⟨cell_of (HU5.out.block 6 rfl) rfl, cell_of (HU5.out.block 6 rfl) rfl, cell_of (HU5.out.block 6 rfl) rfl, cell_of (HU5.out.block 6 rfl) rfl, cell_of (HU5.out.block 6 rfl) rfl⟩ (fun hS => ?_)
            clear hK K'
            try simp only [Act.put, List.setIfInBounds_toArray, List.set_cons_zero, List.set_cons_succ]
            refine e_pin (i := 7) rfl (by kernel_rfl) (fun K' hK => ?_)
            go_simp
            go_at_call 12
            refine (KP.out _ _ _ _ HU5.out).mono ?_
            rintro e u6 ⟨vp, vr, rfl, hN6⟩
            obtain ⟨ap, np, rfl⟩ := ByR.shape hN6
            obtain ⟨Fr, rr⟩ := hN6.get 1 rfl
            obtain ⟨ar, nr, rfl, -, -, -⟩ := RowA.shape rr
            have HU6 : Hid (In [] w u6 (ByR (.slice ap pk4.length np) pk4 :: RecR (.slice ar rc4.length nr) rc4 :: FA bt 4 100 L4 :: ChL cb cM2 vl2 vt2 (Cells gA (plC 0 0 0 (.slice none 0 0) (.slice none 0 0)) 43 :: Cells gt #[.int .u32 k0, .int .u32 k1, .int .i64 k2, .int .i64 k3, .int .i64 k4] 24 :: []))) := Lib.hid hN6
            clear hN6 rr
            refine hK.out _ _ ⟨cell_of (HU6.out.block 7 rfl) rfl, cell_of (HU6.out.block 7 rfl) rfl, cell_of (HU6.out.block 7 rfl) rfl, cell_of (HU6.out.block 7 rfl) rfl, cell_of (HU6.out.block 7 rfl) rfl⟩ (fun hS => ?_)
            clear hK K'
            try simp only [Act.put, List.setIfInBounds_toArray, List.set_cons_zero, List.set_cons_succ]
            refine e_last (i := 9) rfl (by kernel_rfl) (fun K' hK => ?_)
            have hF := HU6.out.setFull 6 rfl (xs := (plC 2 0 2 (.slice ap pk4.length np) (.slice ar rc4.length nr)).toList) (b := gA) (C := (plC 0 0 0 (.slice none 0 0) (.slice none 0 0))) (T := 43) rfl
            refine store_step (by rfl) 43 (.tmp 16) (.tmp 139) (by rfl) gA 0 (plC 2 0 2 (.slice ap pk4.length np) (.slice ar rc4.length nr)) (by rfl) (by rfl) (there_of (C := (plC 0 0 0 (.slice none 0 0) (.slice none 0 0))) (T := 43) (HU6.out.block 6 rfl)) (by kernel_rfl) (plC_all _ _ _ _ _ _ _ _ _) ?_
            refine hK.out _ _ ?_
            clear hK K' hS
            go_wp2_with fail
            go_meet
            exact ⟨gA, _, _, rfl, hF.sel2 (R1 := [_, _, _, _, _, _, _, _]) [6, 0, 1, 2, 3, 4, 5, 7] (by decide) rfl⟩
        · go_simp
          have hA7 := HU1.out.cells (plC 0 0 0 (.slice none 0 0) (.slice none 0 0)) 43
          generalize u1.heap.size = gA at *
          generalize (u1.alloc (.cells (plC 0 0 0 (.slice none 0 0) (.slice none 0 0)) 43)) = u7 at *
          have HU7 : Hid (In [] w u7 (FA bt 4 100 [⟨⟨k0, k1, k2, k3, k4⟩, 2, (G : Int) + 1, 4⟩] :: ChL cb cM2 vl2 vt2 (Cells gA (plC 0 0 0 (.slice none 0 0) (.slice none 0 0)) 43 :: Cells gt #[.int .u32 k0, .int .u32 k1, .int .i64 k2, .int .i64 k3, .int .i64 k4] 24 :: []))) := Lib.hid (hA7.sel2 (R1 := [_, _, _, _, _, _]) [1, 2, 3, 4, 0, 5] (by decide) rfl)
          clear hA7
          refine hK.out _ _ ⟨cell_of (HU7.out.block 5 rfl) rfl, cell_of (HU7.out.block 5 rfl) rfl, cell_of (HU7.out.block 5 rfl) rfl, cell_of (HU7.out.block 5 rfl) rfl, cell_of (HU7.out.block 5 rfl) rfl⟩ (fun hS => ?_)
          clear hK K'
          try simp only [Act.put, List.setIfInBounds_toArray, List.set_cons_zero, List.set_cons_succ]
          refine e_pin (i := 6) rfl (by kernel_rfl) (fun K' hK => ?_)
          go_simp
          go_at_call 10
          refine (KM.out _ _ HU7.out).mono ?_
          rintro e u8 ⟨vM, rfl, hN8⟩
          obtain ⟨aM, nM, rfl⟩ := ByR.shape hN8
          have HU8 : Hid (In [] w u8 (ByR (.slice aM mm.length nM) mm :: FA bt 4 100 [⟨⟨k0, k1, k2, k3, k4⟩, 2, (G : Int) + 1, 4⟩] :: ChL cb cM2 vl2 vt2 (Cells gA (plC 0 0 0 (.slice none 0 0) (.slice none 0 0)) 43 :: Cells gt #[.int .u32 k0, .int .u32 k1, .int .i64 k2, .int .i64 k3, .int .i64 k4] 24 :: []))) := Lib.hid hN8
          clear hN8
          refine hK.out _ _ ⟨cell_of (HU8.out.block 6 rfl) rfl, cell_of (HU8.out.block 6 rfl) rfl, cell_of (HU8.out.block 6 rfl) rfl, cell_of (HU8.out.block 6 rfl) rfl, cell_of (HU8.out.block 6 rfl) rfl⟩ (fun hS => ?_)
          clear hK K'
          try simp only [Act.put, List.setIfInBounds_toArray, List.set_cons_zero, List.set_cons_succ]
          refine e_pin (i := 7) rfl (by kernel_rfl) (fun K' hK => ?_)
          go_simp
          go_at_call 12
          refine (KP.out _ _ _ _ HU8.out).mono ?_
          rintro e u9 ⟨vp, vr, rfl, hN9⟩
          obtain ⟨ap, np, rfl⟩ := ByR.shape hN9
          obtain ⟨Fr, rr⟩ := hN9.get 1 rfl
          obtain ⟨ar, nr, rfl, -, -, -⟩ := RowA.shape rr
          have HU9 : Hid (In [] w u9 (ByR (.slice ap pk4.length np) pk4 :: RecR (.slice ar rc4.length nr) rc4 :: FA bt 4 100 L4 :: ChL cb cM2 vl2 vt2 (Cells gA (plC 0 0 0 (.slice none 0 0) (.slice none 0 0)) 43 :: Cells gt #[.int .u32 k0, .int .u32 k1, .int .i64 k2, .int .i64 k3, .int .i64 k4] 24 :: []))) := Lib.hid hN9
          clear hN9 rr
          refine hK.out _ _ ⟨cell_of (HU9.out.block 7 rfl) rfl, cell_of (HU9.out.block 7 rfl) rfl, cell_of (HU9.out.block 7 rfl) rfl, cell_of (HU9.out.block 7 rfl) rfl, cell_of (HU9.out.block 7 rfl) rfl⟩ (fun hS => ?_)
          clear hK K'
          try simp only [Act.put, List.setIfInBounds_toArray, List.set_cons_zero, List.set_cons_succ]
          refine e_last (i := 9) rfl (by kernel_rfl) (fun K' hK => ?_)
          have hF := HU9.out.setFull 6 rfl (xs := (plC 2 0 2 (.slice ap pk4.length np) (.slice ar rc4.length nr)).toList) (b := gA) (C := (plC 0 0 0 (.slice none 0 0) (.slice none 0 0))) (T := 43) rfl
          refine store_step (by rfl) 43 (.tmp 16) (.tmp 139) (by rfl) gA 0 (plC 2 0 2 (.slice ap pk4.length np) (.slice ar rc4.length nr)) (by rfl) (by rfl) (there_of (C := (plC 0 0 0 (.slice none 0 0) (.slice none 0 0))) (T := 43) (HU9.out.block 6 rfl)) (by kernel_rfl) (plC_all _ _ _ _ _ _ _ _ _) ?_
          refine hK.out _ _ ?_
          clear hK K' hS
          go_wp2_with fail
          go_meet
          exact ⟨gA, _, _, rfl, hF.sel2 (R1 := [_, _, _, _, _, _, _, _]) [6, 0, 1, 2, 3, 4, 5, 7] (by decide) rfl⟩
      · go_simp
        have hA10 := HD.out.cells (plC 0 0 0 (.slice none 0 0) (.slice none 0 0)) 43
        generalize VD.heap.size = gA at *
        generalize (VD.alloc (.cells (plC 0 0 0 (.slice none 0 0) (.slice none 0 0)) 43)) = u10 at *
        have HU10 : Hid (In [] w u10 (FA bt 4 100 [⟨⟨k0, k1, k2, k3, k4⟩, 2, (G : Int) + 1, 4⟩] :: ChL cb cM2 vl2 vt2 (Cells gA (plC 0 0 0 (.slice none 0 0) (.slice none 0 0)) 43 :: Cells gt #[.int .u32 k0, .int .u32 k1, .int .i64 k2, .int .i64 k3, .int .i64 k4] 24 :: []))) := Lib.hid (hA10.sel2 (R1 := [_, _, _, _, _, _]) [1, 2, 3, 4, 0, 5] (by decide) rfl)
        clear hA10
        refine hK.out _ _ ⟨cell_of (HU10.out.block 5 rfl) rfl, cell_of (HU10.out.block 5 rfl) rfl, cell_of (HU10.out.block 5 rfl) rfl, cell_of (HU10.out.block 5 rfl) rfl, cell_of (HU10.out.block 5 rfl) rfl⟩ (fun hS => ?_)
        clear hK K'
        try simp only [Act.put, List.setIfInBounds_toArray, List.set_cons_zero, List.set_cons_succ]
        refine e_pin (i := 0) rfl (by kernel_rfl) (fun K' hK => ?_)
        go_simp
        go_at_call 13
        refine (KC.out _ _ HU10.out).mono ?_
        rintro e u11 ⟨rfl, hN11⟩
        have HU11 : Hid (In [] w u11 (FA bt 4 100 [⟨⟨k0, k1, k2, k3, k4⟩, 2, (G : Int) + 1, 4⟩] :: ChL cb cM2 vl2 vt2 (Cells gA (plC 0 0 0 (.slice none 0 0) (.slice none 0 0)) 43 :: Cells gt #[.int .u32 k0, .int .u32 k1, .int .i64 k2, .int .i64 k3, .int .i64 k4] 24 :: []))) := Lib.hid hN11
        clear hN11
        refine hK.out _ _ ⟨cell_of (HU11.out.block 5 rfl) rfl, cell_of (HU11.out.block 5 rfl) rfl, cell_of (HU11.out.block 5 rfl) rfl, cell_of (HU11.out.block 5 rfl) rfl, cell_of (HU11.out.block 5 rfl) rfl⟩ (fun hS => ?_)
        clear hK K'
        try simp only [Act.put, List.setIfInBounds_toArray, List.set_cons_zero, List.set_cons_succ]
        refine e_pin (i := 6) rfl (by kernel_rfl) (fun K' hK => ?_)
        go_simp
        go_at_call 10
        refine (KM.out _ _ HU11.out).mono ?_
        rintro e u12 ⟨vM, rfl, hN12⟩
        obtain ⟨aM, nM, rfl⟩ := ByR.shape hN12
        have HU12 : Hid (In [] w u12 (ByR (.slice aM mm.length nM) mm :: FA bt 4 100 [⟨⟨k0, k1, k2, k3, k4⟩, 2, (G : Int) + 1, 4⟩] :: ChL cb cM2 vl2 vt2 (Cells gA (plC 0 0 0 (.slice none 0 0) (.slice none 0 0)) 43 :: Cells gt #[.int .u32 k0, .int .u32 k1, .int .i64 k2, .int .i64 k3, .int .i64 k4] 24 :: []))) := Lib.hid hN12
        clear hN12
        refine hK.out _ _ ⟨cell_of (HU12.out.block 6 rfl) rfl, cell_of (HU12.out.block 6 rfl) rfl, cell_of (HU12.out.block 6 rfl) rfl, cell_of (HU12.out.block 6 rfl) rfl, cell_of (HU12.out.block 6 rfl) rfl⟩ (fun hS => ?_)
        clear hK K'
        try simp only [Act.put, List.setIfInBounds_toArray, List.set_cons_zero, List.set_cons_succ]
        refine e_pin (i := 7) rfl (by kernel_rfl) (fun K' hK => ?_)
        go_simp
        go_at_call 12
        refine (KP.out _ _ _ _ HU12.out).mono ?_
        rintro e u13 ⟨vp, vr, rfl, hN13⟩
        obtain ⟨ap, np, rfl⟩ := ByR.shape hN13
        obtain ⟨Fr, rr⟩ := hN13.get 1 rfl
        obtain ⟨ar, nr, rfl, -, -, -⟩ := RowA.shape rr
        have HU13 : Hid (In [] w u13 (ByR (.slice ap pk4.length np) pk4 :: RecR (.slice ar rc4.length nr) rc4 :: FA bt 4 100 L4 :: ChL cb cM2 vl2 vt2 (Cells gA (plC 0 0 0 (.slice none 0 0) (.slice none 0 0)) 43 :: Cells gt #[.int .u32 k0, .int .u32 k1, .int .i64 k2, .int .i64 k3, .int .i64 k4] 24 :: []))) := Lib.hid hN13
        clear hN13 rr
        refine hK.out _ _ ⟨cell_of (HU13.out.block 7 rfl) rfl, cell_of (HU13.out.block 7 rfl) rfl, cell_of (HU13.out.block 7 rfl) rfl, cell_of (HU13.out.block 7 rfl) rfl, cell_of (HU13.out.block 7 rfl) rfl⟩ (fun hS => ?_)
        clear hK K'
        try simp only [Act.put, List.setIfInBounds_toArray, List.set_cons_zero, List.set_cons_succ]
        refine e_last (i := 9) rfl (by kernel_rfl) (fun K' hK => ?_)
        have hF := HU13.out.setFull 6 rfl (xs := (plC 2 0 2 (.slice ap pk4.length np) (.slice ar rc4.length nr)).toList) (b := gA) (C := (plC 0 0 0 (.slice none 0 0) (.slice none 0 0))) (T := 43) rfl
        refine store_step (by rfl) 43 (.tmp 16) (.tmp 139) (by rfl) gA 0 (plC 2 0 2 (.slice ap pk4.length np) (.slice ar rc4.length nr)) (by rfl) (by rfl) (there_of (C := (plC 0 0 0 (.slice none 0 0) (.slice none 0 0))) (T := 43) (HU13.out.block 6 rfl)) (by kernel_rfl) (plC_all _ _ _ _ _ _ _ _ _) ?_
        refine hK.out _ _ ?_
        clear hK K' hS
        go_wp2_with fail
        go_meet
        exact ⟨gA, _, _, rfl, hF.sel2 (R1 := [_, _, _, _, _, _, _, _]) [6, 0, 1, 2, 3, 4, 5, 7] (by decide) rfl⟩
    case rest =>
      obtain ⟨g5, vp, vr, rfl, ho⟩ := hcut
      obtain ⟨F8, r8⟩ := ho.get 2 rfl
      obtain ⟨ar, nr, rfl, -, -, -⟩ := RowA.shape r8
      clear r8 KM KP HD1
      have KRT := Lib.hid o_rtime5
      have hw0 : IntKind.i64.wrap 0 = 0 := IntWalk.i64_in _ (by omega)
      have hw1 : IntKind.i64.wrap 1 = 1 := IntWalk.i64_in _ (by omega)
      rcases HCASE.out with ⟨h6, h1, h0⟩ | ⟨h6, h1, h0⟩
      · subst h6
        clear HCASE
        have KFL : Hid (∀ w', In [] w w' (Cells g5 (plC 2 0 2 vp (.slice ar rc4.length nr)) 43 :: ByR vp pk4 :: RecR (.slice ar rc4.length nr) rc4 :: FA bt 4 100 L4 :: ChL cb cM2 vl2 vt2 (Cells gt #[.int .u32 k0, .int .u32 k1, .int .i64 6, .int .i64 k3, .int .i64 k4] 24 :: [])) → Calls Tryz.prog 16 #[.pointer (some ⟨bt, 0, none⟩)] w' fun e w'' => e = .returned (.int .i64 0) ∧ w' = w'') := Lib.hid fun w' h' => by
          have := o_flen h' 3 rfl
          rw [h0] at this; exact this
        go_upto_region 19 with fail
        generalize wc = W7 at *
        have HD := Lib.hid (ho.drewN 1)
        have hS : W7.drew.cell? ⟨g5, 2, none⟩ = some (.int .i64 2) ∧ W7.drew.cell? ⟨g5, 4, none⟩ = some (.slice ar 1 nr) ∧ W7.drew.cell? ⟨gt, 2, none⟩ = some (.int .i64 6) := ⟨cell_of (HD.out.block 0 rfl) rfl, by rw [← h1]; exact cell_of (HD.out.block 0 rfl) rfl, cell_of (HD.out.block 7 rfl) rfl⟩
        clear ho
        refine e_start (fun w' => w'.cell? ⟨g5, 2, none⟩ = some (.int .i64 2) ∧ w'.cell? ⟨g5, 4, none⟩ = some (.slice ar 1 nr) ∧ w'.cell? ⟨gt, 2, none⟩ = some (.int .i64 6)) (by kernel_rfl) hS (fun hS => ?_)
        refine e_take (i := 0) (v := ?_) rfl (by kernel_rfl) (fun _ _ _ h => h) (by rfl) ?_ hS ?_
        rotate_left
        · (intro w hSw; (try dsimp only at hSw); go_simp; try with_reducible rfl)
        try simp only [Act.put, List.setIfInBounds_toArray, List.set_cons_zero, List.set_cons_succ]
        refine e_take (i := 1) (v := ?_) rfl (by kernel_rfl) (fun _ _ _ h => h) (by rfl) ?_ hS ?_
        rotate_left
        · (intro w hSw; (try dsimp only at hSw); go_simp; try with_reducible rfl)
        try simp only [Act.put, List.setIfInBounds_toArray, List.set_cons_zero, List.set_cons_succ]
        refine e_take (i := 2) (v := ?_) rfl (by kernel_rfl) (fun _ _ _ h => h) (by rfl) ?_ hS ?_
        rotate_left
        · (intro w hSw; (try dsimp only at hSw); go_simp; try with_reducible rfl)
        try simp only [Act.put, List.setIfInBounds_toArray, List.set_cons_zero, List.set_cons_succ]
        refine e_take (i := 3) (v := ?_) rfl (by kernel_rfl) (fun _ _ _ h => h) (by rfl) ?_ hS ?_
        rotate_left
        · (intro w hSw; (try dsimp only at hSw); go_simp; try with_reducible rfl)
        try simp only [Act.put, List.setIfInBounds_toArray, List.set_cons_zero, List.set_cons_succ]
        refine e_take (i := 4) (v := ?_) rfl (by kernel_rfl) (fun _ _ _ h => h) (by rfl) ?_ hS ?_
        rotate_left
        · (intro w hSw; (try dsimp only at hSw); go_simp; try with_reducible rfl)
        try simp only [Act.put, List.setIfInBounds_toArray, List.set_cons_zero, List.set_cons_succ]
        refine e_take (i := 5) (v := ?_) rfl (by kernel_rfl) (fun _ _ _ h => h) (by rfl) ?_ hS ?_
        rotate_left
        · (intro w hSw; (try dsimp only at hSw); go_simp; try with_reducible rfl)
        try simp only [Act.put, List.setIfInBounds_toArray, List.set_cons_zero, List.set_cons_succ]
        refine e_take (i := 6) (v := ?_) rfl (by kernel_rfl) (fun _ _ _ h => h) (by rfl) ?_ hS ?_
        rotate_left
        · (intro w hSw; (try dsimp only at hSw); go_simp; try with_reducible rfl)
        try simp only [Act.put, List.setIfInBounds_toArray, List.set_cons_zero, List.set_cons_succ]
        refine e_take (i := 7) (v := ?_) rfl (by kernel_rfl) (fun _ _ _ h => h) (by rfl) ?_ hS ?_
        rotate_left
        · (intro w hSw; (try dsimp only at hSw); go_simp; try with_reducible rfl)
        try simp only [Act.put, List.setIfInBounds_toArray, List.set_cons_zero, List.set_cons_succ]
        refine e_take (i := 8) (v := ?_) rfl (by kernel_rfl) (fun _ _ _ h => h) (by rfl) ?_ hS ?_
        rotate_left
        · (intro w hSw; (try dsimp only at hSw); go_simp; try with_reducible rfl)
        try simp only [Act.put, List.setIfInBounds_toArray, List.set_cons_zero, List.set_cons_succ]
        refine e_take (i := 9) (v := ?_) rfl (by kernel_rfl) (fun _ _ _ h => h) (by rfl) ?_ hS ?_
        rotate_left
        · (intro w hSw; (try dsimp only at hSw); go_simp; try with_reducible rfl)
        try simp only [Act.put, List.setIfInBounds_toArray, List.set_cons_zero, List.set_cons_succ]
        refine e_take (i := 10) (v := ?_) rfl (by kernel_rfl) (fun _ _ _ h => h) (by rfl) ?_ hS ?_
        rotate_left
        · (intro w hSw; (try dsimp only at hSw); go_simp; try with_reducible rfl)
        try simp only [Act.put, List.setIfInBounds_toArray, List.set_cons_zero, List.set_cons_succ]
        refine e_take (i := 11) (v := ?_) rfl (by kernel_rfl) (fun _ _ _ h => h) (by rfl) ?_ hS ?_
        rotate_left
        · (intro w hSw; (try dsimp only at hSw); go_simp; try with_reducible rfl)
        try simp only [Act.put, List.setIfInBounds_toArray, List.set_cons_zero, List.set_cons_succ]
        refine e_take (i := 12) (v := ?_) rfl (by kernel_rfl) (fun _ _ _ h => h) (by rfl) ?_ hS ?_
        rotate_left
        · (intro w hSw; (try dsimp only at hSw); go_simp; try with_reducible rfl)
        try simp only [Act.put, List.setIfInBounds_toArray, List.set_cons_zero, List.set_cons_succ]
        refine e_take (i := 13) (v := ?_) rfl (by kernel_rfl) (fun _ _ _ h => h) (by rfl) ?_ hS ?_
        rotate_left
        · (intro w hSw; (try dsimp only at hSw); go_simp; try with_reducible rfl)
        try simp only [Act.put, List.setIfInBounds_toArray, List.set_cons_zero, List.set_cons_succ]
        refine e_take (i := 14) (v := ?_) rfl (by kernel_rfl) (fun _ _ _ h => h) (by rfl) ?_ hS ?_
        rotate_left
        · (intro w hSw; (try dsimp only at hSw); go_simp; try with_reducible rfl)
        try simp only [Act.put, List.setIfInBounds_toArray, List.set_cons_zero, List.set_cons_succ]
        refine e_take (i := 15) (v := ?_) rfl (by kernel_rfl) (fun _ _ _ h => h) (by rfl) ?_ hS ?_
        rotate_left
        · (intro w hSw; (try dsimp only at hSw); go_simp; try with_reducible rfl)
        try simp only [Act.put, List.setIfInBounds_toArray, List.set_cons_zero, List.set_cons_succ]
        refine e_take (i := 17) (v := ?_) rfl (by kernel_rfl) (fun _ _ _ h => h) (by rfl) ?_ hS ?_
        rotate_left
        · (intro w hSw; (try dsimp only at hSw); go_simp; try with_reducible rfl)
        try simp only [Act.put, List.setIfInBounds_toArray, List.set_cons_zero, List.set_cons_succ]
        refine e_take (i := 18) (v := ?_) rfl (by kernel_rfl) (fun _ _ _ h => h) (by rfl) ?_ hS ?_
        rotate_left
        · (intro w hSw; (try dsimp only at hSw); go_simp; try with_reducible rfl)
        try simp only [Act.put, List.setIfInBounds_toArray, List.set_cons_zero, List.set_cons_succ]
        refine e_take (i := 19) (v := ?_) rfl (by kernel_rfl) (fun _ _ _ h => h) (by rfl) ?_ hS ?_
        rotate_left
        · (intro w hSw; (try dsimp only at hSw); go_simp; try with_reducible rfl)
        try simp only [Act.put, List.setIfInBounds_toArray, List.set_cons_zero, List.set_cons_succ]
        refine e_take (i := 20) (v := ?_) rfl (by kernel_rfl) (fun _ _ _ h => h) (by rfl) ?_ hS ?_
        rotate_left
        · (intro w hSw; (try dsimp only at hSw); go_simp; try with_reducible rfl)
        try simp only [Act.put, List.setIfInBounds_toArray, List.set_cons_zero, List.set_cons_succ]
        refine e_pin (i := 16) rfl (by kernel_rfl) (fun K' hK => ?_)
        go_simp
        go_at_call 16
        refine (KFL.out _ HD.out).mono ?_
        rintro e w15 ⟨rfl, rfl⟩
        refine hK.out _ _ hS (fun hS => ?_)
        clear hK K'
        try simp only [Act.put, List.setIfInBounds_toArray, List.set_cons_zero, List.set_cons_succ]
        refine e_take (i := 21) (v := ?_) rfl (by kernel_rfl) (fun _ _ _ h => h) (by rfl) ?_ hS ?_
        rotate_left
        · (intro w hSw; (try dsimp only at hSw); go_simp; try with_reducible rfl)
        try simp only [Act.put, List.setIfInBounds_toArray, List.set_cons_zero, List.set_cons_succ]
        refine e_take (i := 22) (v := ?_) rfl (by kernel_rfl) (fun _ _ _ h => h) (by rfl) ?_ hS ?_
        rotate_left
        · (intro w hSw; (try dsimp only at hSw); go_simp; try with_reducible rfl)
        try simp only [Act.put, List.setIfInBounds_toArray, List.set_cons_zero, List.set_cons_succ]
        refine e_take (i := 23) (v := ?_) rfl (by kernel_rfl) (fun _ _ _ h => h) (by rfl) ?_ hS ?_
        rotate_left
        · (intro w hSw; (try dsimp only at hSw); go_simp; try with_reducible rfl)
        try simp only [Act.put, List.setIfInBounds_toArray, List.set_cons_zero, List.set_cons_succ]
        refine e_pin (i := 24) rfl (by kernel_rfl) (fun K' hK => ?_)
        go_simp
        go_at_call 17
        refine (KRT.out _).mono ?_
        rintro e w16 ⟨rfl, rfl⟩
        refine hK.out _ _ hS (fun hS => ?_)
        clear hK K'
        try simp only [Act.put, List.setIfInBounds_toArray, List.set_cons_zero, List.set_cons_succ]
        refine e_take (i := 25) (v := ?_) rfl (by kernel_rfl) (fun _ _ _ h => h) (by rfl) ?_ hS ?_
        rotate_left
        · (intro w hSw; (try dsimp only at hSw); go_simp; try with_reducible rfl)
        try simp only [Act.put, List.setIfInBounds_toArray, List.set_cons_zero, List.set_cons_succ]
        refine e_take (i := 26) (v := ?_) rfl (by kernel_rfl) (fun _ _ _ h => h) (by rfl) ?_ hS ?_
        rotate_left
        · (intro w hSw; (try dsimp only at hSw); go_simp; try with_reducible rfl)
        try simp only [Act.put, List.setIfInBounds_toArray, List.set_cons_zero, List.set_cons_succ]
        refine e_pin (i := 27) rfl (by kernel_rfl) (fun K' hK => ?_)
        go_simp
        go_at_call 7
        refine (KA.out _ _ HD.out).mono ?_
        rintro e w17 ⟨rfl, g17⟩
        have hz : w17.cell? ⟨g5, 2, none⟩ = some (.int .i64 2) ∧ w17.cell? ⟨g5, 4, none⟩ = some (.slice ar 1 nr) ∧ w17.cell? ⟨gt, 2, none⟩ = some (.int .i64 6) := ⟨cell_of (g17.block 0 rfl) rfl, by rw [← h1]; exact cell_of (g17.block 0 rfl) rfl, cell_of (g17.block 7 rfl) rfl⟩
        have HG := Lib.hid g17.mod
        clear g17
        refine hK.out _ _ hz (fun hS => ?_)
        clear hK K'
        try simp only [Act.put, List.setIfInBounds_toArray, List.set_cons_zero, List.set_cons_succ]
        refine e_take (i := 28) (v := ?_) rfl (by kernel_rfl) (fun _ _ _ h => h) (by rfl) ?_ hS ?_
        rotate_left
        · (intro w hSw; (try dsimp only at hSw); go_simp; try with_reducible rfl)
        try simp only [Act.put, List.setIfInBounds_toArray, List.set_cons_zero, List.set_cons_succ]
        refine e_last (i := 29) rfl (by kernel_rfl) (fun K' hK => ?_)
        go_simp
        refine hK.out _ _ ?_
        clear hK K' hS
        go_wp2_with fail
        go_ret
        exact ⟨rfl, HG.out⟩
      · clear HCASE
        have KFL : Hid (∀ w', In [] w w' (Cells g5 (plC 2 0 2 vp (.slice ar rc4.length nr)) 43 :: ByR vp pk4 :: RecR (.slice ar rc4.length nr) rc4 :: FA bt 4 100 L4 :: ChL cb cM2 vl2 vt2 (Cells gt #[.int .u32 k0, .int .u32 k1, .int .i64 k2, .int .i64 k3, .int .i64 k4] 24 :: [])) → Calls Tryz.prog 16 #[.pointer (some ⟨bt, 0, none⟩)] w' fun e w'' => e = .returned (.int .i64 1) ∧ w' = w'') := Lib.hid fun w' h' => by
          have := o_flen h' 3 rfl
          rw [h0] at this; exact this
        have hk6 : (k2 == 6) = false := beq_eq_false_iff_ne.2 h6
        go_upto_region 19 with fail
        generalize wc = W7 at *
        have HD := Lib.hid (ho.drewN 1)
        have hS : W7.drew.cell? ⟨g5, 2, none⟩ = some (.int .i64 2) ∧ W7.drew.cell? ⟨g5, 4, none⟩ = some (.slice ar 0 nr) ∧ W7.drew.cell? ⟨gt, 2, none⟩ = some (.int .i64 k2) := ⟨cell_of (HD.out.block 0 rfl) rfl, by rw [← h1]; exact cell_of (HD.out.block 0 rfl) rfl, cell_of (HD.out.block 7 rfl) rfl⟩
        clear ho
        refine e_start (fun w' => w'.cell? ⟨g5, 2, none⟩ = some (.int .i64 2) ∧ w'.cell? ⟨g5, 4, none⟩ = some (.slice ar 0 nr) ∧ w'.cell? ⟨gt, 2, none⟩ = some (.int .i64 k2)) (by kernel_rfl) hS (fun hS => ?_)
        refine e_take (i := 0) (v := ?_) rfl (by kernel_rfl) (fun _ _ _ h => h) (by rfl) ?_ hS ?_
        rotate_left
        · (intro w hSw; (try dsimp only at hSw); go_simp; try with_reducible rfl)
        try simp only [Act.put, List.setIfInBounds_toArray, List.set_cons_zero, List.set_cons_succ]
        refine e_take (i := 1) (v := ?_) rfl (by kernel_rfl) (fun _ _ _ h => h) (by rfl) ?_ hS ?_
        rotate_left
        · (intro w hSw; (try dsimp only at hSw); go_simp; try with_reducible rfl)
        try simp only [Act.put, List.setIfInBounds_toArray, List.set_cons_zero, List.set_cons_succ]
        refine e_take (i := 2) (v := ?_) rfl (by kernel_rfl) (fun _ _ _ h => h) (by rfl) ?_ hS ?_
        rotate_left
        · (intro w hSw; (try dsimp only at hSw); go_simp; try with_reducible rfl)
        try simp only [Act.put, List.setIfInBounds_toArray, List.set_cons_zero, List.set_cons_succ]
        refine e_take (i := 3) (v := ?_) rfl (by kernel_rfl) (fun _ _ _ h => h) (by rfl) ?_ hS ?_
        rotate_left
        · (intro w hSw; (try dsimp only at hSw); go_simp; try with_reducible rfl)
        try simp only [Act.put, List.setIfInBounds_toArray, List.set_cons_zero, List.set_cons_succ]
        refine e_take (i := 4) (v := ?_) rfl (by kernel_rfl) (fun _ _ _ h => h) (by rfl) ?_ hS ?_
        rotate_left
        · (intro w hSw; (try dsimp only at hSw); go_simp; try with_reducible rfl)
        try simp only [Act.put, List.setIfInBounds_toArray, List.set_cons_zero, List.set_cons_succ]
        refine e_take (i := 5) (v := ?_) rfl (by kernel_rfl) (fun _ _ _ h => h) (by rfl) ?_ hS ?_
        rotate_left
        · (intro w hSw; (try dsimp only at hSw); go_simp; try with_reducible rfl)
        try simp only [Act.put, List.setIfInBounds_toArray, List.set_cons_zero, List.set_cons_succ]
        refine e_take (i := 6) (v := ?_) rfl (by kernel_rfl) (fun _ _ _ h => h) (by rfl) ?_ hS ?_
        rotate_left
        · (intro w hSw; (try dsimp only at hSw); go_simp; try with_reducible rfl)
        try simp only [Act.put, List.setIfInBounds_toArray, List.set_cons_zero, List.set_cons_succ]
        refine e_take (i := 7) (v := ?_) rfl (by kernel_rfl) (fun _ _ _ h => h) (by rfl) ?_ hS ?_
        rotate_left
        · (intro w hSw; (try dsimp only at hSw); go_simp; try with_reducible rfl)
        try simp only [Act.put, List.setIfInBounds_toArray, List.set_cons_zero, List.set_cons_succ]
        refine e_take (i := 8) (v := ?_) rfl (by kernel_rfl) (fun _ _ _ h => h) (by rfl) ?_ hS ?_
        rotate_left
        · (intro w hSw; (try dsimp only at hSw); go_simp; try with_reducible rfl)
        try simp only [Act.put, List.setIfInBounds_toArray, List.set_cons_zero, List.set_cons_succ]
        refine e_take (i := 9) (v := ?_) rfl (by kernel_rfl) (fun _ _ _ h => h) (by rfl) ?_ hS ?_
        rotate_left
        · (intro w hSw; (try dsimp only at hSw); go_simp; try with_reducible rfl)
        try simp only [Act.put, List.setIfInBounds_toArray, List.set_cons_zero, List.set_cons_succ]
        refine e_take (i := 10) (v := ?_) rfl (by kernel_rfl) (fun _ _ _ h => h) (by rfl) ?_ hS ?_
        rotate_left
        · (intro w hSw; (try dsimp only at hSw); go_simp; try with_reducible rfl)
        try simp only [Act.put, List.setIfInBounds_toArray, List.set_cons_zero, List.set_cons_succ]
        refine e_take (i := 11) (v := ?_) rfl (by kernel_rfl) (fun _ _ _ h => h) (by rfl) ?_ hS ?_
        rotate_left
        · (intro w hSw; (try dsimp only at hSw); go_simp; try with_reducible rfl)
        try simp only [Act.put, List.setIfInBounds_toArray, List.set_cons_zero, List.set_cons_succ]
        refine e_take (i := 12) (v := ?_) rfl (by kernel_rfl) (fun _ _ _ h => h) (by rfl) ?_ hS ?_
        rotate_left
        · (intro w hSw; (try dsimp only at hSw); go_simp; try with_reducible rfl)
        try simp only [Act.put, List.setIfInBounds_toArray, List.set_cons_zero, List.set_cons_succ]
        refine e_take (i := 13) (v := ?_) rfl (by kernel_rfl) (fun _ _ _ h => h) (by rfl) ?_ hS ?_
        rotate_left
        · (intro w hSw; (try dsimp only at hSw); go_simp; try with_reducible rfl)
        try simp only [Act.put, List.setIfInBounds_toArray, List.set_cons_zero, List.set_cons_succ]
        refine e_take (i := 14) (v := ?_) rfl (by kernel_rfl) (fun _ _ _ h => h) (by rfl) ?_ hS ?_
        rotate_left
        · (intro w hSw; (try dsimp only at hSw); go_simp; try with_reducible rfl)
        try simp only [Act.put, List.setIfInBounds_toArray, List.set_cons_zero, List.set_cons_succ]
        refine e_take (i := 15) (v := ?_) rfl (by kernel_rfl) (fun _ _ _ h => h) (by rfl) ?_ hS ?_
        rotate_left
        · (intro w hSw; (try dsimp only at hSw); go_simp; try with_reducible rfl)
        try simp only [Act.put, List.setIfInBounds_toArray, List.set_cons_zero, List.set_cons_succ]
        refine e_take (i := 17) (v := ?_) rfl (by kernel_rfl) (fun _ _ _ h => h) (by rfl) ?_ hS ?_
        rotate_left
        · (intro w hSw; (try dsimp only at hSw); go_simp; try with_reducible rfl)
        try simp only [Act.put, List.setIfInBounds_toArray, List.set_cons_zero, List.set_cons_succ]
        refine e_take (i := 18) (v := ?_) rfl (by kernel_rfl) (fun _ _ _ h => h) (by rfl) ?_ hS ?_
        rotate_left
        · (intro w hSw; (try dsimp only at hSw); go_simp; try with_reducible rfl)
        try simp only [Act.put, List.setIfInBounds_toArray, List.set_cons_zero, List.set_cons_succ]
        refine e_take (i := 19) (v := ?_) rfl (by kernel_rfl) (fun _ _ _ h => h) (by rfl) ?_ hS ?_
        rotate_left
        · (intro w hSw; (try dsimp only at hSw); go_simp; try with_reducible rfl)
        try simp only [Act.put, List.setIfInBounds_toArray, List.set_cons_zero, List.set_cons_succ]
        refine e_take (i := 20) (v := ?_) rfl (by kernel_rfl) (fun _ _ _ h => h) (by rfl) ?_ hS ?_
        rotate_left
        · (intro w hSw; (try dsimp only at hSw); go_simp; try with_reducible rfl)
        try simp only [Act.put, List.setIfInBounds_toArray, List.set_cons_zero, List.set_cons_succ]
        refine e_pin (i := 16) rfl (by kernel_rfl) (fun K' hK => ?_)
        go_simp
        go_at_call 16
        refine (KFL.out _ HD.out).mono ?_
        rintro e w15 ⟨rfl, rfl⟩
        refine hK.out _ _ hS (fun hS => ?_)
        clear hK K'
        try simp only [Act.put, List.setIfInBounds_toArray, List.set_cons_zero, List.set_cons_succ]
        refine e_take (i := 21) (v := ?_) rfl (by kernel_rfl) (fun _ _ _ h => h) (by rfl) ?_ hS ?_
        rotate_left
        · (intro w hSw; (try dsimp only at hSw); go_simp; try with_reducible rfl)
        try simp only [Act.put, List.setIfInBounds_toArray, List.set_cons_zero, List.set_cons_succ]
        refine e_take (i := 22) (v := ?_) rfl (by kernel_rfl) (fun _ _ _ h => h) (by rfl) ?_ hS ?_
        rotate_left
        · (intro w hSw; (try dsimp only at hSw); go_simp; try with_reducible rfl)
        try simp only [Act.put, List.setIfInBounds_toArray, List.set_cons_zero, List.set_cons_succ]
        refine e_take (i := 23) (v := ?_) rfl (by kernel_rfl) (fun _ _ _ h => h) (by rfl) ?_ hS ?_
        rotate_left
        · (intro w hSw; (try dsimp only at hSw); go_simp; try with_reducible rfl)
        try simp only [Act.put, List.setIfInBounds_toArray, List.set_cons_zero, List.set_cons_succ]
        refine e_pin (i := 24) rfl (by kernel_rfl) (fun K' hK => ?_)
        go_simp
        go_at_call 17
        refine (KRT.out _).mono ?_
        rintro e w16 ⟨rfl, rfl⟩
        refine hK.out _ _ hS (fun hS => ?_)
        clear hK K'
        try simp only [Act.put, List.setIfInBounds_toArray, List.set_cons_zero, List.set_cons_succ]
        refine e_take (i := 25) (v := ?_) rfl (by kernel_rfl) (fun _ _ _ h => h) (by rfl) ?_ hS ?_
        rotate_left
        · (intro w hSw; (try dsimp only at hSw); go_simp; try with_reducible rfl)
        try simp only [Act.put, List.setIfInBounds_toArray, List.set_cons_zero, List.set_cons_succ]
        refine e_take (i := 26) (v := ?_) rfl (by kernel_rfl) (fun _ _ _ h => h) (by rfl) ?_ hS ?_
        rotate_left
        · (intro w hSw; (try dsimp only at hSw); go_simp; try with_reducible rfl)
        try simp only [Act.put, List.setIfInBounds_toArray, List.set_cons_zero, List.set_cons_succ]
        refine e_pin (i := 27) rfl (by kernel_rfl) (fun K' hK => ?_)
        go_simp
        go_at_call 7
        refine (KA.out _ _ HD.out).mono ?_
        rintro e w17 ⟨rfl, g17⟩
        have hz : w17.cell? ⟨g5, 2, none⟩ = some (.int .i64 2) ∧ w17.cell? ⟨g5, 4, none⟩ = some (.slice ar 0 nr) ∧ w17.cell? ⟨gt, 2, none⟩ = some (.int .i64 k2) := ⟨cell_of (g17.block 0 rfl) rfl, by rw [← h1]; exact cell_of (g17.block 0 rfl) rfl, cell_of (g17.block 7 rfl) rfl⟩
        have HG := Lib.hid g17.mod
        clear g17
        refine hK.out _ _ hz (fun hS => ?_)
        clear hK K'
        try simp only [Act.put, List.setIfInBounds_toArray, List.set_cons_zero, List.set_cons_succ]
        refine e_take (i := 28) (v := ?_) rfl (by kernel_rfl) (fun _ _ _ h => h) (by rfl) ?_ hS ?_
        rotate_left
        · (intro w hSw; (try dsimp only at hSw); go_simp; try with_reducible rfl)
        try simp only [Act.put, List.setIfInBounds_toArray, List.set_cons_zero, List.set_cons_succ]
        refine e_last (i := 29) rfl (by kernel_rfl) (fun K' hK => ?_)
        go_simp
        refine hK.out _ _ ?_
        clear hK K' hS
        go_wp2_with fail
        go_ret
        exact ⟨rfl, HG.out⟩
end Go.Proofs.YtgapbecddgfkmaaGreat
