/- Rows.PathNilSaid -/
import Derived.Test.YtgapbecddgfkmaaPN20
import Derived.Test.YtgapbecddgfkmaaPN21
namespace Go.Proofs.Ytgapbecddgfkmaa
open Go.RowKit
set_option linter.unusedVariables false
set_option maxHeartbeats 64000000
set_option maxRecDepth 100000
theorem walk_PathNil (w : World) (v : Value) : Calls Try.prog 3 #[v] w fun e w' => e = .returned (.bool true) ∧ Mod [] w w' := by
  have h0 := In.start (w := w) (R := []) (F := []) (by simp) rfl
  have KC := Lib.hid (fun n w' (R' : List Asrt) (h' : In [] w w' R') => o_config n h')
  have K1 := Lib.hid (fun w' (R' : List Asrt) (h' : In [] w w' R') => o_chnew may13 cov13 h')
  have KF := Lib.hid (fun w' (R' : List Asrt) (h' : In [] w w' R') => o_fnew h' 3 9)
  have KA := Lib.hid (fun w' (R' : List Asrt) (h' : In [] w w' R') => o_awake23 h')
  have KP1 := Lib.hid (fun (pc pb : Value) w' (R' : List Asrt) (h' : In [] w w' R') => o_pktnil (self := 168364297) (sl := 13) (fl := 3) (idle0 := 20) (mtu := 1500) (sg := 200) (qu := 20000) (ve := 3) (gen := 0) (now := 0) (a := none) (pc := pc) (pb := pb) (Or.inl rfl) h')
  have KP2 := Lib.hid (fun (a : Option Addr) (pb : Value) w' (R' : List Asrt) (h' : In [] w w' R') => o_pktnil (self := 168364297) (sl := 13) (fl := 3) (idle0 := 20) (mtu := 1500) (sg := 200) (qu := 20000) (ve := 3) (gen := 0) (now := 0) (a := a) (pc := .pointer none) (pb := pb) (Or.inr rfl) h')
  have K0 := Lib.hid (KC.out 3 _ _ h0)
  clear h0
  go_enter Try.func3, Try.ntmps3
  go_wp2_with fail
  refine K0.out.mono ?_
  rintro e w1 ⟨rfl, ho⟩
  have K1H := Lib.hid (K1.out _ _ ho)
  clear ho K0
  go_wp2_with fail
  refine K1H.out.mono ?_
  rintro e w2 ⟨cb, a2, n2, rfl, ho⟩
  have K2H := Lib.hid (KP1.out (pC cb) v _ _ ho)
  clear ho K1 K1H
  go_wp2_with fail
  refine K2H.out.mono ?_
  rintro e w3 ⟨rfl, ho⟩
  have h3 := ho.cells (plC 0 0 0 (.slice none 0 0) (.slice none 0 0)) 27
  have K3H := Lib.hid (KC.out 3 _ _ h3)
  clear ho K2H KP1 h3
  go_wp2_with fail
  refine K3H.out.mono ?_
  rintro e w4 ⟨rfl, ho⟩
  have K4H := Lib.hid (KF.out _ _ ho)
  clear ho K3H KC
  go_wp2_with fail
  refine K4H.out.mono ?_
  rintro e w5 ⟨bt, rfl, ho⟩
  have K5H := Lib.hid (KP2.out (some ⟨bt, 0, none⟩) v _ _ ho)
  clear ho K4H KF
  go_wp2_with fail
  refine K5H.out.mono ?_
  rintro e w6 ⟨rfl, ho⟩
  have h6 := ho.cells (plC 0 0 0 (.slice none 0 0) (.slice none 0 0)) 27
  have hb1 := h6.block 2 rfl
  have hb2 := h6.block 0 rfl
  have K6H := Lib.hid (KA.out _ _ h6)
  have p0 := cell_of (o := 0) (v := .int .i64 0) hb1 rfl
  have p4 := cell_of (o := 4) (v := .slice none 0 0) hb1 rfl
  have q0 := cell_of (o := 0) (v := .int .i64 0) hb2 rfl
  have q4 := cell_of (o := 4) (v := .slice none 0 0) hb2 rfl
  clear ho K5H KP2 KA h6 hb1 hb2
  go_wp2_with fail
  refine K6H.out.mono ?_
  rintro e w7 ⟨rfl, ho⟩
  have G := Lib.hid ho.mod
  clear ho K6H p0 p4 q0 q4
  go_wp2_with fail
  go_ret
  exact ⟨rfl, G.out⟩
end Go.Proofs.Ytgapbecddgfkmaa
