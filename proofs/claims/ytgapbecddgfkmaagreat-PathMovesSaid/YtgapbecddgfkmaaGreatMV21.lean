/- Rows.PathMovesSaid -/
import Derived.Test.YtgapbecddgfkmaaGreatMV20
import Derived.Deep.CutBlock
import Derived.Test.YtgapbecddgfkmaaGreatMV10
import Derived.Test.YtgapbecddgfkmaaGreatMV19
import Derived.Test.YtgapbecddgfkmaaGreatMV3
namespace Go.Proofs.YtgapbecddgfkmaaGreat
open Go.RowKit
set_option linter.unusedVariables false
set_option maxHeartbeats 64000000
set_option maxRecDepth 100000
section
variable {F0 : List Nat} {w0 w : World} {R : List Asrt} {body : List UInt8}
def headK (k : Tup) (flags : Int) (n : Nat) : List UInt8 := be (u64 k.sport) 2 ++ be (u64 k.dport) 2 ++ (if k.proto = 6 then [0, 0, 0, 0, 0, 0, 0, 0, 80, UInt8.ofNat (u64 flags), 0, 0, 0, 0, 0, 0] else be (8 + n) 2 ++ [0, 0])
theorem headK_inner (k : Tup) (flags : Int) (body : List UInt8) : headK k flags body.length ++ body = innerL k flags body := rfl
theorem headK_length (k : Tup) (flags : Int) (n : Nat) : (headK k flags n).length ≤ 20 := by unfold headK; split <;> simp [be, beTo_length]
theorem made_app (k : Tup) (ttl flags : Int) (body : List UInt8) : buildD ⟨0, 0, 20 + ((innerL k flags body).length : Int), 0, 0, 0, ttl, k.proto, 0, k.src, k.dst⟩ ++ innerL k flags body = madeD k ttl flags body := rfl
def MadeMid (k : Tup) (flags : Int) (n gk : Nat) (F0 : List Nat) (w0 : World) (R : List Asrt) (v : Value) (wx : World) : Prop :=
  ∃ a c, v = .slice a (headK k flags n).length c ∧ In F0 w0 wx (ByR (.slice a (headK k flags n).length c) (headK k flags n) :: Cells gk (encT k) 24 :: R)
theorem o_made (h : In F0 w0 w R) {k : Tup} (hk : WfT k) (ttl flags : Int) {A : Option Addr} {c : Nat} (hb : Bytes F0 w0 R A c body) (hm : body.length ≤ 100000) :
    Calls Tryz.prog 10 #[.agg (encT k), .int .i64 ttl, .int .i64 flags, .slice A body.length c] w fun e w' => ∃ v, e = .returned v ∧ In F0 w0 w' (ByR v (madeD k ttl flags body) :: R) := by
  have h1 := h.cells (encT k) 24
  have HU := Lib.hid (fun (n : Int) W R' (hW : In F0 w0 W R') => md_b2 n hW)
  have HB := Lib.hid hb
  have HM := Lib.hid hm
  have HSD := Lib.hid (And.intro (And.intro hk.1 hk.2) (And.intro hk.3 hk.4))
  have HI := Lib.hid (headK_inner k flags body)
  have HA := Lib.hid (made_app k ttl flags body)
  have HHL := Lib.hid (headK_length k flags body.length)
  have HK : Hid (headK k flags body.length = be (u64 k.sport) 2 ++ be (u64 k.dport) 2 ++ (if k.proto = 6 then [0, 0, 0, 0, 0, 0, 0, 0, 80, UInt8.ofNat (u64 flags), 0, 0, 0, 0, 0, 0] else be (8 + body.length) 2 ++ [0, 0])) := Lib.hid rfl
  clear h hb hm hk
  obtain ⟨k0, k1, k2, k3, k4⟩ := k
  go_enter Tryz.func10, Tryz.ntmps10
  go_upto_region 1 with fail
  generalize w.heap.size = gk at *
  generalize (w.alloc (.cells #[.int .u32 k0, .int .u32 k1, .int .i64 k2, .int .i64 k3, .int .i64 k4] 24)) = w1 at *
  have X0 := Lib.hid h1
  have hS : w1.drew.cell? ⟨gk, 3, none⟩ = some (.int .i64 k3) ∧ w1.drew.cell? ⟨gk, 4, none⟩ = some (.int .i64 k4) := ⟨cell_of ((X0.out.drewN 1).block 0 rfl) rfl, cell_of ((X0.out.drewN 1).block 0 rfl) rfl⟩
  have K1 := Lib.hid (HU.out k3 _ _ (X0.out.drewN 1))
  clear h1 X0
  refine e_start (fun w' => w'.cell? ⟨gk, 3, none⟩ = some (.int .i64 k3) ∧ w'.cell? ⟨gk, 4, none⟩ = some (.int .i64 k4)) (by kernel_rfl) hS (fun hS => ?_)
  refine e_take (i := 0) (v := ?_) rfl (by kernel_rfl) (fun _ _ _ h => h) (by rfl) ?_ hS ?_
  rotate_left
  · (intro w hSw; (try dsimp only at hSw); go_simp; try with_reducible rfl)
  try simp only [Act.put, List.setIfInBounds_toArray, List.set_cons_zero, List.set_cons_succ]
  refine e_take (i := 1) (v := ?_) rfl (by kernel_rfl) (fun _ _ _ h => h) (by rfl) ?_ hS ?_
  rotate_left
  · (intro w hSw; (try dsimp only at hSw); go_simp; try with_reducible rfl)
  try simp only [Act.put, List.setIfInBounds_toArray, List.set_cons_zero, List.set_cons_succ]
  refine e_take (i := 3) (v := ?_) rfl (by kernel_rfl) (fun _ _ _ h => h) (by rfl) ?_ hS ?_
  rotate_left
  · (intro w hSw; (try dsimp only at hSw); go_simp; try with_reducible rfl)
  try simp only [Act.put, List.setIfInBounds_toArray, List.set_cons_zero, List.set_cons_succ]
  refine e_take (i := 4) (v := ?_) rfl (by kernel_rfl) (fun _ _ _ h => h) (by rfl) ?_ hS ?_
  rotate_left
  · (intro w hSw; (try dsimp only at hSw); go_simp; try with_reducible rfl)
  try simp only [Act.put, List.setIfInBounds_toArray, List.set_cons_zero, List.set_cons_succ]
  refine e_pin (i := 2) rfl (by kernel_rfl) (fun K' hK => ?_)
  go_simp
  go_at_call 34
  refine K1.out.mono ?_
  rintro e x1 ⟨pa, pac, rfl, ho⟩
  have hz : x1.cell? ⟨gk, 3, none⟩ = some (.int .i64 k3) ∧ x1.cell? ⟨gk, 4, none⟩ = some (.int .i64 k4) := ⟨cell_of (ho.block 1 rfl) rfl, cell_of (ho.block 1 rfl) rfl⟩
  have X1 := Lib.hid ho
  have K2 := Lib.hid (HU.out k4 _ _ ho)
  clear ho hS K1
  refine hK.out _ _ hz (fun hS => ?_)
  clear hK K' hz
  try simp only [Act.put, List.setIfInBounds_toArray, List.set_cons_zero, List.set_cons_succ]
  refine e_pin (i := 5) rfl (by kernel_rfl) (fun K' hK => ?_)
  go_simp
  go_at_call 34
  refine K2.out.mono ?_
  rintro e x2 ⟨pb, pbc, rfl, ho⟩
  have hz : x2.cell? ⟨gk, 3, none⟩ = some (.int .i64 k3) ∧ x2.cell? ⟨gk, 4, none⟩ = some (.int .i64 k4) := ⟨cell_of (ho.block 2 rfl) rfl, cell_of (ho.block 2 rfl) rfl⟩
  have X2 := Lib.hid ho
  clear ho hS K2
  refine hK.out _ _ hz (fun hS => ?_)
  clear hK K' hz
  try simp only [Act.put, List.setIfInBounds_toArray, List.set_cons_zero, List.set_cons_succ]
  refine e_pin (i := 6) rfl (by kernel_rfl) (fun K' hK => ?_)
  refine app_step rfl X2.out 1 rfl (.tmp 13) (.tmp 16) 35 (by rfl) Tryz.underlying35 infoByte (by decide) (by decide) (by rfl) (by rfl) (ByR.src X2.out 0 rfl) (u8s_one _) (by simp [be, beTo_length]) ?_
  intro y1 x3 ho hg
  have hA := by_app (ho.sel2 (R1 := [_, _, _]) (R2 := R) [1, 2] (by decide) rfl)
  obtain ⟨ya, yc, hy⟩ := ByR.shape hA
  rw [show (be (u64 k3) 2 ++ be (u64 k4) 2).length = 4 by simp [be, beTo_length]] at hy
  subst hy
  have hz : x3.cell? ⟨gk, 3, none⟩ = some (.int .i64 k3) ∧ x3.cell? ⟨gk, 4, none⟩ = some (.int .i64 k4) := ⟨cell_of (hA.block 1 rfl) rfl, cell_of (hA.block 1 rfl) rfl⟩
  obtain ⟨l1, hl1⟩ : ∃ l1 : List UInt8, l1 = be (u64 k3) 2 ++ be (u64 k4) 2 := ⟨_, rfl⟩
  have n1 : l1.length = 4 := by rw [hl1]; simp [be, beTo_length]
  rw [← hl1] at hA
  have X3 := Lib.hid (show In F0 w0 x3 (ByR (.slice ya 4 yc) l1 :: Cells gk #[.int .u32 k0, .int .u32 k1, .int .i64 k2, .int .i64 k3, .int .i64 k4] 24 :: R) from hA)
  have E1 := Lib.hid hl1
  have N1 := Lib.hid n1
  clear ho hg hA hS X1 X2 hl1 n1
  refine hK.out _ _ hz (fun hS => ?_)
  clear hK K' hz
  try simp only [Act.put, List.setIfInBounds_toArray, List.set_cons_zero, List.set_cons_succ]
  refine e_last (i := 7) rfl (by kernel_rfl) (fun K' hK => ?_)
  go_simp
  refine hK.out _ _ ?_
  clear hK K' hS
  have j2 : x3.cell? ⟨gk, 2, none⟩ = some (.int .i64 k2) := cell_of (X3.out.block 1 rfl) rfl
  go_upto_if 20 with fail
  go_cut [9] (fun v9 wx => MadeMid ⟨k0, k1, k2, k3, k4⟩ flags body.length gk F0 w0 R v9 wx)
  case first =>
    by_cases h6 : k2 = 6
    · have q6 : (k2 == 6) = true := by rw [h6]; rfl
      have hq : headK ⟨k0, k1, k2, k3, k4⟩ flags body.length = l1 ++ [0, 0, 0, 0, 0, 0, 0, 0, 80, UInt8.ofNat (u64 flags), 0, 0, 0, 0, 0, 0] := by rw [HK.out, E1.out]; simp only [h6, if_true]
      have g7 := (X3.out.cells #[.int .u8 0, .int .u8 0, .int .u8 0, .int .u8 0, .int .u8 0, .int .u8 0, .int .u8 0, .int .u8 0, .int .u8 80, .int .u8 (flags % 256), .int .u8 0, .int .u8 0, .int .u8 0, .int .u8 0, .int .u8 0, .int .u8 0] 5).rowFull 0 (n := 16) (k := 1) rfl rfl (by decide)
      have e7 : (#[.int .u8 0, .int .u8 0, .int .u8 0, .int .u8 0, .int .u8 0, .int .u8 0, .int .u8 0, .int .u8 0, .int .u8 80, .int .u8 (flags % 256), .int .u8 0, .int .u8 0, .int .u8 0, .int .u8 0, .int .u8 0, .int .u8 0] : Array Value).toList = u8s [0, 0, 0, 0, 0, 0, 0, 0, 80, UInt8.ofNat (u64 flags), 0, 0, 0, 0, 0, 0] := by
        rw [u64_mod256 flags]; simp only [u8s, List.map_cons, List.map_nil]
        rw [show (UInt8.ofNat (u64 flags)).toNat = u64 flags % 256 from lo8_nat _]; rfl
      rw [e7] at g7
      have X4 := Lib.hid (show In F0 w0 _ (ByR (.slice (some ⟨x3.heap.size, 0, none⟩) 16 16) [0, 0, 0, 0, 0, 0, 0, 0, 80, UInt8.ofNat (u64 flags), 0, 0, 0, 0, 0, 0] :: ByR (.slice ya 4 yc) l1 :: Cells gk #[.int .u32 k0, .int .u32 k1, .int .i64 k2, .int .i64 k3, .int .i64 k4] 24 :: R) from g7)
      have HQ := Lib.hid hq
      clear hq h6 g7 e7
      go_wp2_with (at_builtin; refine app_list rfl X4.out 1 rfl (.tmp 21) (.tmp 24) 35 (by rfl) Tryz.underlying35 infoByte (by decide) (by decide) (by rfl) (by rfl) (ByR.src X4.out 0 rfl) (u8s_one _) (by rw [N1.out]; simp) ?_)
      intro y7 x8 ho hg
      have hA := by_app (ho.sel2 (R1 := [_, _, _]) (R2 := R) [1, 2] (by decide) rfl)
      have hB : In F0 w0 x8 (ByR y7 (headK ⟨k0, k1, k2, k3, k4⟩ flags body.length) :: Cells gk #[.int .u32 k0, .int .u32 k1, .int .i64 k2, .int .i64 k3, .int .i64 k4] 24 :: R) := by rw [HQ.out]; exact hA
      obtain ⟨za, zc, rfl⟩ := ByR.shape hB
      have HF : Hid (MadeMid ⟨k0, k1, k2, k3, k4⟩ flags body.length gk F0 w0 R (.slice za (headK ⟨k0, k1, k2, k3, k4⟩ flags body.length).length zc) x8) := Lib.hid ⟨_, _, rfl, hB⟩
      clear ho hg hA hB X4
      go_wp2_with fail
      go_meet
      exact HF.out
    · have q6 : (k2 == 6) = false := beq_eq_false_iff_ne.2 h6
      have hq : headK ⟨k0, k1, k2, k3, k4⟩ flags body.length = (l1 ++ be (u64 (8 + (body.length : Int))) 2) ++ [0, 0] := by
        have hmm := HM.out
        have e8 : u64 (8 + (body.length : Int)) = 8 + body.length := by unfold u64; omega
        rw [HK.out, E1.out, e8]; simp only [h6, if_false, List.append_assoc]
      have HQ := Lib.hid hq
      have w8 : wrap64 (8 + (body.length : Int)) = 8 + (body.length : Int) := by have := HM.out; unfold wrap64; omega
      have w8' : IntKind.i64.wrap (8 + (body.length : Int)) = 8 + (body.length : Int) := by have := HM.out; exact IntWalk.i64_in _ (by omega)
      have K4 := Lib.hid (HU.out (8 + (body.length : Int)) _ _ X3.out)
      clear hq h6
      go_wp2_with fail
      refine K4.out.mono ?_
      rintro e x4 ⟨pc, pcc, rfl, ho⟩
      have X4 := Lib.hid ho
      clear ho K4
      go_wp2_with (at_builtin; refine app_list rfl X4.out 1 rfl (.tmp 26) (.tmp 30) 35 (by rfl) Tryz.underlying35 infoByte (by decide) (by decide) (by rfl) (by rfl) (ByR.src X4.out 0 rfl) (u8s_one _) (by rw [N1.out]; simp [be, beTo_length]) ?_)
      intro y5 x5 ho hg
      have hA := by_app (ho.sel2 (R1 := [_, _, _]) (R2 := R) [1, 2] (by decide) rfl)
      obtain ⟨l2, hl2⟩ : ∃ l2 : List UInt8, l2 = l1 ++ be (u64 (8 + (body.length : Int))) 2 := ⟨_, rfl⟩
      have n2 : l2.length = 6 := by rw [hl2]; simp [N1.out, be, beTo_length]
      rw [← hl2] at hA
      obtain ⟨ta, tc, hy⟩ := ByR.shape hA
      rw [n2] at hy
      subst hy
      have HQ2 : Hid (headK ⟨k0, k1, k2, k3, k4⟩ flags body.length = l2 ++ [0, 0]) := Lib.hid (by rw [hl2]; exact HQ.out)
      have g7 := (hA.cells #[.int .u8 0, .int .u8 0] 5).rowFull 0 (n := 2) (k := 1) rfl rfl (by decide)
      have X5 := Lib.hid (show In F0 w0 _ (ByR (.slice (some ⟨x5.heap.size, 0, none⟩) 2 2) [0, 0] :: ByR (.slice ta 6 tc) l2 :: Cells gk #[.int .u32 k0, .int .u32 k1, .int .i64 k2, .int .i64 k3, .int .i64 k4] 24 :: R) from g7)
      have N2 := Lib.hid n2
      clear ho hg hA hl2 n2 g7 X4 HQ
      go_wp2_with (at_builtin; refine app_list rfl X5.out 1 rfl (.tmp 31) (.tmp 32) 35 (by rfl) Tryz.underlying35 infoByte (by decide) (by decide) (by rfl) (by rfl) (ByR.src X5.out 0 rfl) (u8s_one _) (by rw [N2.out]; simp) ?_)
      intro y7 x8 ho hg
      have hA := by_app (ho.sel2 (R1 := [_, _, _]) (R2 := R) [1, 2] (by decide) rfl)
      have hB : In F0 w0 x8 (ByR y7 (headK ⟨k0, k1, k2, k3, k4⟩ flags body.length) :: Cells gk #[.int .u32 k0, .int .u32 k1, .int .i64 k2, .int .i64 k3, .int .i64 k4] 24 :: R) := by rw [HQ2.out]; exact hA
      obtain ⟨za, zc, rfl⟩ := ByR.shape hB
      have HF : Hid (MadeMid ⟨k0, k1, k2, k3, k4⟩ flags body.length gk F0 w0 R (.slice za (headK ⟨k0, k1, k2, k3, k4⟩ flags body.length).length zc) x8) := Lib.hid ⟨_, _, rfl, hB⟩
      clear ho hg hA hB X5
      go_wp2_with fail
      go_meet
      exact HF.out
  case rest =>
  obtain ⟨ma, mc, rfl, ho⟩ := hcut
  have X4 := Lib.hid ho
  have hl := HHL.out
  obtain ⟨l3, hl3⟩ : ∃ l3 : List UInt8, l3 = headK ⟨k0, k1, k2, k3, k4⟩ flags body.length := ⟨_, rfl⟩
  rw [← hl3] at HI X4 hl
  rw [← hl3]
  have HL3 := Lib.hid hl
  clear ho hl hl3 HK E1 N1 X3 j2 HHL
  have HL4 : Hid (l3.length + body.length ≤ 1000000000) := Lib.hid (by have := HL3.out; have := HM.out; omega)
  go_wp2_with (at_builtin; refine app_list rfl X4.out 0 rfl (.tmp 34) (.tmp 35) 35 (by rfl) Tryz.underlying35 infoByte (by decide) (by decide) (by rfl) (by rfl) (HB.out.src _ X4.out.drop.drop) (u8s_one _) HL4.out ?_)
  intro y9 x9 ho hg
  have hA := by_app ho
  rw [HI.out] at hA
  obtain ⟨va, vc, rfl⟩ := ByR.shape hA
  have hnl : (innerL ⟨k0, k1, k2, k3, k4⟩ flags body).length ≤ 100020 := by rw [← HI.out, List.length_append]; have := HL3.out; have := HM.out; omega
  obtain ⟨q, hq⟩ : ∃ q : List UInt8, q = innerL ⟨k0, k1, k2, k3, k4⟩ flags body := ⟨_, rfl⟩
  rw [← hq] at hA hnl HA
  rw [← hq]
  have c0 : x9.cell? ⟨gk, 0, none⟩ = some (.int .u32 k0) := cell_of (hA.block 1 rfl) rfl
  have c1 : x9.cell? ⟨gk, 1, none⟩ = some (.int .u32 k1) := cell_of (hA.block 1 rfl) rfl
  have c2 : x9.cell? ⟨gk, 2, none⟩ = some (.int .i64 k2) := cell_of (hA.block 1 rfl) rfl
  have w9 : IntKind.i64.wrap (20 + (q.length : Int)) = 20 + (q.length : Int) := IntWalk.i64_in _ (by omega)
  have KB : Hid (Calls Tryz.prog 35 #[.agg (hC 0 0 (20 + (q.length : Int)) 0 ((0 : Nat) : Int) 0 ttl k2 0 k0 k1)] x9 fun e w' => ∃ v, e = .returned v ∧ In F0 w0 w' (ByR v (buildD ⟨0, 0, 20 + (q.length : Int), 0, ((0 : Nat) : Int), 0, ttl, k2, 0, k0, k1⟩) :: ByR (.slice va q.length vc) q :: Cells gk #[.int .u32 k0, .int .u32 k1, .int .i64 k2, .int .i64 k3, .int .i64 k4] 24 :: R)) :=
    Lib.hid (o_r20build hA (fl := 0) (by omega) HSD.out.1.1 HSD.out.1.2 HSD.out.2.1 HSD.out.2.2)
  have HN := Lib.hid hnl
  clear ho hg hA X4 hnl hq HI
  go_wp2_with fail
  refine KB.out.mono ?_
  rintro e x10 ⟨vb, rfl, ho⟩
  obtain ⟨ba, bc, rfl⟩ := ByR.shape ho
  have X10 := Lib.hid ho
  have HL5 : Hid ((buildD ⟨0, 0, 20 + (q.length : Int), 0, ((0 : Nat) : Int), 0, ttl, k2, 0, k0, k1⟩).length + q.length ≤ 1000000000) := Lib.hid (by rw [buildD_length]; have := HN.out; omega)
  clear ho KB c0 c1 c2 w9
  go_wp2_with (at_builtin; refine app_list rfl X10.out 0 rfl (.tmp 48) (.tmp 49) 35 (by rfl) Tryz.underlying35 infoByte (by decide) (by decide) (by rfl) (by rfl) (ByR.src X10.out 1 rfl) (u8s_one _) HL5.out ?_)
  intro y11 x11 ho hg
  have G := Lib.hid (by_app (ho.sel2 (R1 := [_, _, _]) (R2 := R) [0] (by decide) rfl))
  clear ho hg X10
  go_wp2_with fail
  go_ret
  exact ⟨_, rfl, by rw [← HA.out]; exact G.out⟩
end
section
variable {P : Program} {Q : Exit → Act → World → Prop} {S : World → Prop} {l : List Oper}
def twoB (l : List Oper) (i j : Nat) (listed : Array Bool) : Bool := decide (Region.ready .any l.toArray listed = [i, j]) && (decide (i + 1 < l.toArray.size) && decide (j + 1 < l.toArray.size))
def EArm (P : Program) (l : List Oper) (Q : Exit → Act → World → Prop) (S : World → Prop) (fuel : Nat) (listed : Array Bool) (i : Nat) (o : Oper) (a : Act) (w : World) : Prop :=
  ∀ K' : Act → World → Prop, Shut (∀ a w, S w → (S w → EAt P l Q S fuel (listed.setIfInBounds i true) a w) → K' a w) → if Region.wanted o (yielded l.toArray a.tmps) = true then Oper.wp P o a w K' Q else K' (a.put o.dst undef) w
theorem e_two {i j : Nat} {oi oj : Oper} {fuel : Nat} {listed : Array Bool} {a : Act} {w : World} (hi : l[i]? = some oi) (hj : l[j]? = some oj) (hc : twoB l i j listed = true)
    (h1 : EArm P l Q S fuel listed i oi a w) (h2 : EArm P l Q S fuel listed j oj a w) : EAt P l Q S (fuel + 1) listed a w := by
  simp only [twoB, Bool.and_eq_true, decide_eq_true_eq] at hc
  obtain ⟨hc0, hci, hcj⟩ := hc
  have arm : ∀ (x : Nat) (o : Oper), l[x]? = some o → x + 1 < l.toArray.size → x ∈ Region.ready .any l.toArray listed → EArm P l Q S fuel listed x o a w → HeadInv .any l.toArray (l.toArray.size - 1) listed →
      wpOp P l.toArray Q x (fun a' w' => (x + 1 < l.toArray.size → S w') ∧ wpAnyE P .any l.toArray Q S fuel (listed.setIfInBounds x true) a' w') a w := by
    intro x o hx hxs hr h inv
    have hx' : l.toArray[x]? = some o := by simpa using hx
    have := h (fun a' w' => (x + 1 < l.toArray.size → S w') ∧ wpAnyE P .any l.toArray Q S fuel (listed.setIfInBounds x true) a' w') (fun a w hS hn => ⟨fun _ => hS, hn hS (inv.set hr (by omega))⟩)
    unfold wpOp
    simp only [hx']
    by_cases hwd : Region.wanted o (yielded l.toArray a.tmps) = true
    · rw [if_pos hwd] at this ⊢; exact Or.inl this
    · rw [if_neg hwd] at this ⊢; exact this
  intro inv
  refine ⟨fun h0 => (by rw [hc0] at h0; cases h0), fun x hx => ?_⟩
  have hr := hx
  rw [hc0] at hx
  rcases List.mem_cons.1 hx with rfl | hx
  · exact arm x oi hi hci hr h1 inv
  · obtain rfl : x = j := by simpa using hx
    exact arm x oj hj hcj hr h2 inv
end
structure ChOk (c : ChD) : Prop where
  s : 1 ≤ c.slots ∧ c.slots ≤ 251
  t : c.t.length = c.slots
  l : c.l.length ≤ 1000000
  wf : ∀ x ∈ c.l, 0 ≤ x.addr ∧ x.addr < 4294967296
section
variable {F0 : List Nat} {w0 w : World} {R : List Asrt} {bt cb : Nat} {most idle : Int} {L : List Fl} {c : ChD} {vl vt : Value}
theorem o_config (n : Int) (h : In F0 w0 w R) : Calls Tryz.prog 13 #[.int .i64 n] w fun e w' => e = .returned (.agg (cfC 168364297 13 n 20 1500 200 20000 3)) ∧ In F0 w0 w' R := by
  have G := Lib.hid (h.alloc (.cells (cfC 168364297 13 n 20 1500 200 20000 3) 46))
  clear h
  go_enter Tryz.func13, Tryz.ntmps13
  go_wp2_with fail
  exact bodyPost_ret (results_cell_row Tryz.results13 _ _ w.heap.size 46 _ (0, 0) _ rfl (heap_alloc_new _ _) Tryz.underlying46 rfl (by kernel_rfl)) rfl ⟨rfl, G.out⟩
theorem o_pktown {self sl fl idle0 mtu sg qu ve : Int} (hself : 0 ≤ self ∧ self < 4294967296) (hok : ChOk c) {gen now : Int} {m : List UInt8} (hm : m.length ≤ 100000000) {a : Option Addr} {n : Nat}
    (h : In F0 w0 w (ByR (.slice a m.length n) m :: FA bt most idle L :: ChL cb c vl vt R)) :
    Calls Tryz.prog 12 #[.agg (cfC self sl fl idle0 mtu sg qu ve), .pointer (some ⟨bt, 0, none⟩), pC cb, .int .i64 gen, .int .i64 now, .slice a m.length n] w (PktPost (pktD self mtu most L c gen now m) bt most idle cb c vl vt F0 w0 R) := by
  have h1 : In F0 w0 w (FA bt most idle L :: ChL cb c vl vt (ByR (.slice a m.length n) m :: R)) := h.sel2 (R1 := [_, _, _, _, _]) [1, 2, 3, 4, 0] (by decide) rfl
  have h2 : In F0 w0 w (ByR (.slice a m.length n) m :: R) := h.sel2 (R1 := [_, _, _, _, _]) [0] (by decide) rfl
  refine (o_packet hself hok.s hok.t hok.l hok.wf (ByR.bytes 0 rfl h2) hm h1).mono ?_
  rintro e w' ⟨vp, vr, rfl, ho⟩
  exact ⟨vp, vr, rfl, ho.sel2 (R1 := [_, _, _, _, _, _, _]) [0, 1, 2, 3, 4, 5] (by decide) rfl⟩
theorem bytes_nil : Bytes F0 w0 R none 0 [] := ⟨fun W hW => (by
    obtain ⟨F, r⟩ := (hW.rownil 5 1).get 0 rfl
    exact r.all), fun _ => ⟨rfl, rfl⟩, Or.inl rfl, Nat.le_refl _, Nat.zero_le _⟩
theorem o_chset1 {x : Bk} {g : Nat} (hmd : 0 ≤ c.made ∧ c.made ≤ 1000) (hs : c.slots = 13) (h : In F0 w0 w (Cells g (encBa x) 33 :: ChL cb c vl vt R)) :
    Calls Tryz.prog 11 #[pC cb, .slice (some ⟨g, 0, none⟩) 1 1, .nilFunc] w (SetPost cb (setCh c [x] noneOut) F0 w0 R) := by
  have h0 : In F0 w0 w (ChL cb c vl vt (Cells g (encBa x) 33 :: R)) := h.sel2 (R1 := [_, _, _, _]) [1, 2, 3, 0] (by decide) rfl
  have hsrc : BksAt F0 w0 (Cells g (encBa x) 33 :: R) (some ⟨g, 0, none⟩) [x] := fun W hW => Src.of_block (hW.block 0 rfl) rfl
  refine (o_chset (l := [x]) (n := 1) (by rw [hs]; exact may13) (by rw [hs]; exact cov13) (by omega) hsrc (fun e => by cases e) (by simp) h0).mono ?_
  rintro e w' ⟨vl', vt', rfl, ho⟩
  exact ⟨vl', vt', rfl, ho.sel2 (R1 := [_, _, _, _]) [0, 1, 2] (by decide) rfl⟩
end
def cM1 : ChD := ⟨13, [⟨1, 1, 1⟩], List.replicate 13 1, 1⟩
def cM2 : ChD := ⟨13, [⟨2, 2, 1⟩], List.replicate 13 2, 2⟩
theorem setM1 : setCh (newCh 13) [⟨1, 1, 1⟩] noneOut = (cM1, 0) := by
  have h : gensMay [⟨1, 1, 1⟩] = true := by decide
  unfold setCh
  rw [if_pos h, withoutL_none]
  show (_, _) = _
  rw [show (newCh 13).slots = 13 from rfl, table1]
  rfl
theorem setM2 : setCh cM1 [⟨2, 2, 1⟩] noneOut = (cM2, 0) := by
  have h : gensMay [⟨2, 2, 1⟩] = true := by decide
  unfold setCh
  rw [if_pos h, withoutL_none]
  show (_, _) = _
  rw [show cM1.slots = 13 from rfl, table2]
  rfl
theorem chOkM1 : ChOk cM1 := ⟨by decide, by decide, by decide, fun x hx => by simp [cM1] at hx; subst hx; decide⟩
theorem chOkM2 : ChOk cM2 := ⟨by decide, by decide, by decide, fun x hx => by simp [cM2] at hx; subst hx; decide⟩
theorem mtuM (k : Tup) (flags : Int) : ¬ min 1500 2000 < 40 + ((innerL k flags []).length : Int) := by
  rw [innerL_length, show min (1500 : Int) 2000 = 1500 from by decide]; split <;> simp
theorem endM (k : Tup) : (decide (k.proto = 6) && decide (u64 0 % 256 &&& 5 ≠ 0)) = false := by
  rw [show u64 0 % 256 &&& 5 = 0 from by decide]; simp
theorem endM4 (k : Tup) : (decide (k.proto = 6) && decide (u64 4 % 256 &&& 5 ≠ 0)) = decide (k.proto = 6) := by
  rw [show u64 4 % 256 &&& 5 = 4 from by decide]; simp
theorem atM (f : Fl) : atF [f] f.t = some f := by unfold atF; simp
theorem mayM_of {k : Tup} (mk : MayT k) {b g t : Int} (h0 : 0 ≤ b) (h1 : b ≤ 65535) (h2 : 0 ≤ g) (h3 : g ≤ 1000000) (h4 : 0 ≤ t) (h5 : t ≤ 1099511627776) : MayF ⟨k, b, g, t⟩ := ⟨mk, h0, h1, h2, h3, h4, h5⟩
theorem putM0 {f : Fl} (h : MayF f) : putF 4 [] f = ([f], true, 0) := by
  unfold putF
  rw [if_neg (fun hn => hn h), if_neg (by simp)]; rfl
theorem putM1 {f g : Fl} (h : MayF f) (e : g.t = f.t) : putF 4 [g] f = ([f], false, 0) := by
  have ha : atF [g] f.t = some g := by rw [← e]; exact atM g
  unfold putF
  rw [if_neg (fun hn => hn h), ha, if_neg (by simp)]
  have hd : delF f.t [g] = [] := by unfold delF; simp [notT, e]
  rw [hd]; rfl
theorem choiceM2 {k : Tup} {gn sn : Int} : choiceD [⟨k, 2, gn, sn⟩] cM2 k = some ⟨2, 2, 1⟩ := by
  rw [choice_eq, atM ⟨k, 2, gn, sn⟩]
  have hf : findBk cM2.l 2 = some ⟨2, 2, 1⟩ := by decide
  simp only [Option.getD_some]
  rw [hf]; rfl
theorem touchM {k : Tup} {now : Int} {gn sn : Int} (h : 0 ≤ now ∧ now ≤ 1099511627776) (hs : sn ≤ now) : touchF [⟨k, 2, gn, sn⟩] k now = ([⟨k, 2, gn, now⟩], true) := by
  have hd : delF k [⟨k, 2, gn, sn⟩] = [] := by unfold delF; simp [notT]
  unfold touchF
  rw [atM ⟨k, 2, gn, sn⟩]
  dsimp only
  rw [if_pos ⟨h, hs⟩, hd]; rfl
section
variable {k : Tup} (wk : WfT k) (mk : MayT k) {gen : Int} (g0 : 0 ≤ gen) (g1 : gen < 1000000)
include wk mk g0 g1
theorem pM : ∃ pk, pktD 168364297 1500 4 [] cM1 gen 0 (madeD k 9 0 []) = (⟨2, 0, 1, pk, [putRec ⟨k, 1, gen, 0⟩]⟩, [⟨k, 1, gen, 0⟩]) := by
  obtain ⟨pk, e⟩ := made_goes (self := 168364297) (mtu := 1500) (most := 4) (gen := gen) (now := 0) (L := []) (c := cM1) wk mk 9 0 [] (by decide) (by decide) (pick_one rfl rfl rfl mk) (by decide) (mtuM k 0)
  refine ⟨pk, e.trans ?_⟩
  rw [endM]
  have hm : MayF ⟨k, 1, gen, 0⟩ := mayM_of mk (by decide) (by decide) g0 (by omega) (by decide) (by decide)
  have e2 : keepD 4 [] ⟨k, 1, gen, 0⟩ (atF [] k).isSome (wasD [] k) false = ([putRec ⟨k, 1, gen, 0⟩], [⟨k, 1, gen, 0⟩]) := by
    have e1 : (atF [] k).isSome = false := rfl
    rw [e1]
    unfold keepD
    rw [if_neg (by decide), if_neg (by simp), putM0 hm]; rfl
  rw [e2]
theorem qM : ∃ pk, pktD 168364297 1500 4 [⟨k, 1, gen, 0⟩] cM2 (gen + 1) 3 (madeD k 9 0 []) = (⟨2, 0, 2, pk, [putRec ⟨k, 2, gen + 1, 3⟩]⟩, [⟨k, 2, gen + 1, 3⟩]) := by
  have ha : atF [⟨k, 1, gen, 0⟩] k = some ⟨k, 1, gen, 0⟩ := atM ⟨k, 1, gen, 0⟩
  have hc : choiceD [⟨k, 1, gen, 0⟩] cM2 k = some ⟨2, 2, 1⟩ := by
    rw [choice_eq, ha]
    have hf : findBk cM2.l 1 = none := by decide
    simp only [Option.getD_some]
    rw [hf]
    simp only [Option.isSome_none, Bool.false_eq_true, and_false, if_false]
    exact pick_one rfl rfl rfl mk
  obtain ⟨pk, e⟩ := made_goes (self := 168364297) (mtu := 1500) (most := 4) (gen := gen + 1) (now := 3) (L := [⟨k, 1, gen, 0⟩]) (c := cM2) wk mk 9 0 [] (by decide) (by decide) hc (by decide) (mtuM k 0)
  refine ⟨pk, e.trans ?_⟩
  have hm : MayF ⟨k, 2, gen + 1, 3⟩ := mayM_of mk (by decide) (by decide) (by omega) (by omega) (by decide) (by decide)
  have e2 : keepD 4 [⟨k, 1, gen, 0⟩] ⟨k, 2, gen + 1, 3⟩ (atF [⟨k, 1, gen, 0⟩] k).isSome (wasD [⟨k, 1, gen, 0⟩] k) false = ([putRec ⟨k, 2, gen + 1, 3⟩], [⟨k, 2, gen + 1, 3⟩]) := by
    have e3 : wasD [⟨k, 1, gen, 0⟩] k = 1 := by unfold wasD; rw [ha]; rfl
    rw [ha, e3]
    unfold keepD
    rw [if_neg (by decide), if_neg (by simp), putM1 (g := ⟨k, 1, gen, 0⟩) hm rfl]; rfl
  rw [endM, e2]
end
theorem rM {k : Tup} (wk : WfT k) (mk : MayT k) {gen : Int} : ∃ pk, pktD 168364297 1500 4 [⟨k, 2, gen + 1, 3⟩] cM2 (gen + 1) 4 (madeD k 9 0 []) = (⟨2, 0, 2, pk, []⟩, [⟨k, 2, gen + 1, 4⟩]) := by
  obtain ⟨pk, e⟩ := made_goes (self := 168364297) (mtu := 1500) (most := 4) (gen := gen + 1) (now := 4) (L := [⟨k, 2, gen + 1, 3⟩]) (c := cM2) wk mk 9 0 [] (by decide) (by decide) choiceM2 (by decide) (mtuM k 0)
  refine ⟨pk, e.trans ?_⟩
  have e2 : keepD 4 [⟨k, 2, gen + 1, 3⟩] ⟨k, 2, gen + 1, 4⟩ (atF [⟨k, 2, gen + 1, 3⟩] k).isSome (wasD [⟨k, 2, gen + 1, 3⟩] k) false = ([], [⟨k, 2, gen + 1, 4⟩]) := by
    have e3 : wasD [⟨k, 2, gen + 1, 3⟩] k = 2 := by unfold wasD; rw [atM ⟨k, 2, gen + 1, 3⟩]; rfl
    rw [atM ⟨k, 2, gen + 1, 3⟩, e3]
    unfold keepD
    rw [if_neg (by decide), if_pos ⟨rfl, rfl⟩]
    dsimp only
    rw [touchM (by decide) (by decide)]
  rw [endM, e2]
theorem eM {k : Tup} (wk : WfT k) (mk : MayT k) {gen : Int} : ∃ pk, pktD 168364297 1500 4 [⟨k, 2, gen + 1, 4⟩] cM2 (gen + 1) 5 (madeD k 9 4 []) = (⟨2, 0, 2, pk, if k.proto = 6 then [delRec k] else []⟩, if k.proto = 6 then [] else [⟨k, 2, gen + 1, 5⟩]) := by
  obtain ⟨pk, e⟩ := made_goes (self := 168364297) (mtu := 1500) (most := 4) (gen := gen + 1) (now := 5) (L := [⟨k, 2, gen + 1, 4⟩]) (c := cM2) wk mk 9 4 [] (by decide) (by decide) choiceM2 (by decide) (mtuM k 4)
  refine ⟨pk, e.trans ?_⟩
  have hd : delF k [⟨k, 2, gen + 1, 4⟩] = [] := by unfold delF; simp [notT]
  have e2 : keepD 4 [⟨k, 2, gen + 1, 4⟩] ⟨k, 2, gen + 1, 5⟩ (atF [⟨k, 2, gen + 1, 4⟩] k).isSome (wasD [⟨k, 2, gen + 1, 4⟩] k) (decide (k.proto = 6)) = (if k.proto = 6 then [delRec k] else [], if k.proto = 6 then [] else [⟨k, 2, gen + 1, 5⟩]) := by
    have e3 : wasD [⟨k, 2, gen + 1, 4⟩] k = 2 := by unfold wasD; rw [atM ⟨k, 2, gen + 1, 4⟩]; rfl
    rw [atM ⟨k, 2, gen + 1, 4⟩, e3]
    unfold keepD
    by_cases hp : k.proto = 6
    · rw [decide_eq_true hp, if_pos rfl, if_pos hp, if_pos hp]
      show ([delRec k], delF k [⟨k, 2, gen + 1, 4⟩]) = _
      rw [hd]
    · rw [decide_eq_false hp, if_neg (by decide), if_pos ⟨rfl, rfl⟩, if_neg hp, if_neg hp]
      dsimp only
      rw [touchM (by decide) (by decide)]
  rw [endM4, e2]
section
variable {F0 : List Nat} {w0 w : World} {R : List Asrt}
theorem o_qmayt (t : Tup) (h : In F0 w0 w R) : Calls Tryz.prog 6 #[.agg (encT t)] w fun e w' => e = .returned (.bool (decide (MayT t))) ∧ In F0 w0 w' R := by
  have G := Lib.hid ((h.cells (encT t) 24).drop)
  clear h
  by_cases hm : MayT t
  · rw [decide_eq_true hm]
    obtain ⟨h1, h2, h3, h4, h5⟩ := hm
    by_cases hp : t.proto = 6
    · have hp' : (t.proto == 6) = true := by simpa using hp
      clear h1 hp
      go_enter Tryz.func6, Tryz.ntmps6
      go_wp2_with fail
      go_ret
      exact ⟨rfl, G.out⟩
    · have hp' : (t.proto == 6) = false := by simpa using hp
      have hq' : (t.proto == 17) = true := by have := h1; simp; omega
      clear h1 hp
      go_enter Tryz.func6, Tryz.ntmps6
      go_wp2_with fail
      go_ret
      exact ⟨rfl, G.out⟩
  · rw [decide_eq_false hm]
    have hb : ((t.proto == 6) = false ∧ (t.proto == 17) = false) ∨ (((t.proto == 6) = true ∨ ((t.proto == 6) = false ∧ (t.proto == 17) = true)) ∧ (decide (0 ≤ t.sport) = false ∨ (0 ≤ t.sport ∧ (decide (t.sport ≤ 65535) = false ∨ (t.sport ≤ 65535 ∧ (decide (0 ≤ t.dport) = false ∨ (0 ≤ t.dport ∧ decide (t.dport ≤ 65535) = false))))))) := by
      have hm' : ¬ ((t.proto = 6 ∨ t.proto = 17) ∧ 0 ≤ t.sport ∧ t.sport ≤ 65535 ∧ 0 ≤ t.dport ∧ t.dport ≤ 65535) := fun ⟨a, b, c, d, e⟩ => hm ⟨a, b, c, d, e⟩
      simp only [beq_eq_false_iff_ne, beq_iff_eq, decide_eq_false_iff_not]; omega
    clear hm
    rcases hb with ⟨p1, p2⟩ | ⟨p, q⟩
    · go_enter Tryz.func6, Tryz.ntmps6
      go_wp2_with fail
      go_ret
      exact ⟨rfl, G.out⟩
    · rcases p with p | ⟨p, p2⟩ <;> rcases q with q | ⟨q, q2 | ⟨q2, q3 | ⟨q3, q4⟩⟩⟩
      all_goals
        go_enter Tryz.func6, Tryz.ntmps6
        go_wp2_with fail
        go_ret
        exact ⟨rfl, G.out⟩
end
end Go.Proofs.YtgapbecddgfkmaaGreat
