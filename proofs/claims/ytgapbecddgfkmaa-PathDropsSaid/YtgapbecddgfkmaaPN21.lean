/- Rows.PathNilSaid -/
import Derived.Test.YtgapbecddgfkmaaPN20
import Derived.Deep.CutBlock
import Derived.Test.YtgapbecddgfkmaaPN10
import Derived.Test.YtgapbecddgfkmaaPN19
namespace Go.Proofs.Ytgapbecddgfkmaa
open Go.RowKit
set_option linter.unusedVariables false
set_option maxHeartbeats 64000000
set_option maxRecDepth 100000
section
variable {F0 : List Nat} {w0 w : World} {R : List Asrt} {body : List UInt8}
def headK (k : Tup) (flags : Int) (n : Nat) : List UInt8 := be (u64 k.sport) 2 ++ be (u64 k.dport) 2 ++ (if k.proto = 6 then [0, 0, 0, 0, 0, 0, 0, 0, 80, UInt8.ofNat (u64 flags), 0, 0, 0, 0, 0, 0] else be (8 + n) 2 ++ [0, 0])
theorem headK_inner (k : Tup) (flags : Int) (body : List UInt8) : headK k flags body.length ++ body = innerL k flags body := rfl
theorem headK_length (k : Tup) (flags : Int) (n : Nat) : (headK k flags n).length ≤ 20 := by unfold headK; split <;> simp [be, beTo_length]
theorem made_app (k : Tup) (ttl flags : Int) (body : List UInt8) : buildD ⟨0, 0, 20 + ((innerL k flags body).length : Int), 0, 0, 0, ttl, k.proto, 0, k.src, k.dst⟩ ++ innerL k flags body = madeD k ttl flags body := rfl
def MadeMid (k : Tup) (flags : Int) (n gk : Nat) (F0 : List Nat) (w0 : World) (R : List Asrt) (v : Value) (wx : World) : Prop :=
  ∃ a c, v = .slice a (headK k flags n).length c ∧ In F0 w0 wx (ByR (.slice a (headK k flags n).length c) (headK k flags n) :: Cells gk (encT k) 46 :: R)
theorem o_made (h : In F0 w0 w R) {k : Tup} (hk : WfT k) (ttl flags : Int) {A : Option Addr} {c : Nat} (hb : Bytes F0 w0 R A c body) (hm : body.length ≤ 100000) :
    Calls Try.prog 13 #[.agg (encT k), .int .i64 ttl, .int .i64 flags, .slice A body.length c] w fun e w' => ∃ v, e = .returned v ∧ In F0 w0 w' (ByR v (madeD k ttl flags body) :: R) := by
  have h1 := h.cells (encT k) 46
  have HU := Lib.hid (fun (n : Int) W R' (hW : In F0 w0 W R') => md_b2 n hW)
  have HB := Lib.hid hb
  have HM := Lib.hid hm
  have HSD := Lib.hid (And.intro (And.intro hk.1 hk.2) (And.intro hk.3 hk.4))
  have HI := Lib.hid (headK_inner k flags body)
  have HA := Lib.hid (made_app k ttl flags body)
  have HHL := Lib.hid (headK_length k flags body.length)
  have HK : Hid (headK k flags body.length = be (u64 k.sport) 2 ++ be (u64 k.dport) 2 ++ (if k.proto = 6 then [0, 0, 0, 0, 0, 0, 0, 0, 80, UInt8.ofNat (u64 flags), 0, 0, 0, 0, 0, 0] else be (8 + body.length) 2 ++ [0, 0])) := Lib.hid rfl
  clear h hb hm hk
  obtain ⟨k0, k1, k2, k3, k4⟩ := k
  go_enter Try.func13, Try.ntmps13
  go_upto_region 1 with fail
  generalize w.heap.size = gk at *
  generalize (w.alloc (.cells #[.int .u32 k0, .int .u32 k1, .int .i64 k2, .int .i64 k3, .int .i64 k4] 46)) = w1 at *
  have X0 := Lib.hid h1
  have hS : w1.drew.cell? ⟨gk, 3, none⟩ = some (.int .i64 k3) ∧ w1.drew.cell? ⟨gk, 4, none⟩ = some (.int .i64 k4) := ⟨cell_of ((X0.out.drewN 1).block 0 rfl) rfl, cell_of ((X0.out.drewN 1).block 0 rfl) rfl⟩
  have K1 := Lib.hid (HU.out k3 _ _ (X0.out.drewN 1))
  clear h1 X0
  refine e_start (fun w' => w'.cell? ⟨gk, 3, none⟩ = some (.int .i64 k3) ∧ w'.cell? ⟨gk, 4, none⟩ = some (.int .i64 k4)) (by kernel_rfl) hS (fun hS => ?_)
  refine e_take (i := 0) (v := ?_) rfl (by kernel_rfl) (fun _ _ _ h => h) (by rfl) ?_ hS ?_
  rotate_left
  · (intro w hSw; (try dsimp only at hSw); go_simp; try with_reducible rfl)
  try simp only [Act.put, List.setIfInBounds_toArray, List.set_cons_zero, List.set_cons_succ]
  refine e_take (i := 1) (v := ?_) rfl (by kernel_rfl) (fun _ _ _ h => h) (by rfl) ?_ hS ?_
  rotate_left
  · (intro w hSw; (try dsimp only at hSw); go_simp; try with_reducible rfl)
  try simp only [Act.put, List.setIfInBounds_toArray, List.set_cons_zero, List.set_cons_succ]
  refine e_take (i := 3) (v := ?_) rfl (by kernel_rfl) (fun _ _ _ h => h) (by rfl) ?_ hS ?_
  rotate_left
  · (intro w hSw; (try dsimp only at hSw); go_simp; try with_reducible rfl)
  try simp only [Act.put, List.setIfInBounds_toArray, List.set_cons_zero, List.set_cons_succ]
  refine e_take (i := 4) (v := ?_) rfl (by kernel_rfl) (fun _ _ _ h => h) (by rfl) ?_ hS ?_
  rotate_left
  · (intro w hSw; (try dsimp only at hSw); go_simp; try with_reducible rfl)
  try simp only [Act.put, List.setIfInBounds_toArray, List.set_cons_zero, List.set_cons_succ]
  refine e_pin (i := 2) rfl (by kernel_rfl) (fun K' hK => ?_)
  go_simp
  go_at_call 30
  refine K1.out.mono ?_
  rintro e x1 ⟨pa, pac, rfl, ho⟩
  have hz : x1.cell? ⟨gk, 3, none⟩ = some (.int .i64 k3) ∧ x1.cell? ⟨gk, 4, none⟩ = some (.int .i64 k4) := ⟨cell_of (ho.block 1 rfl) rfl, cell_of (ho.block 1 rfl) rfl⟩
  have X1 := Lib.hid ho
  have K2 := Lib.hid (HU.out k4 _ _ ho)
  clear ho hS K1
  refine hK.out _ _ hz (fun hS => ?_)
  clear hK K' hz
  try simp only [Act.put, List.setIfInBounds_toArray, List.set_cons_zero, List.set_cons_succ]
  refine e_pin (i := 5) rfl (by kernel_rfl) (fun K' hK => ?_)
  go_simp
  go_at_call 30
  refine K2.out.mono ?_
  rintro e x2 ⟨pb, pbc, rfl, ho⟩
  have hz : x2.cell? ⟨gk, 3, none⟩ = some (.int .i64 k3) ∧ x2.cell? ⟨gk, 4, none⟩ = some (.int .i64 k4) := ⟨cell_of (ho.block 2 rfl) rfl, cell_of (ho.block 2 rfl) rfl⟩
  have X2 := Lib.hid ho
  clear ho hS K2
  refine hK.out _ _ hz (fun hS => ?_)
  clear hK K' hz
  try simp only [Act.put, List.setIfInBounds_toArray, List.set_cons_zero, List.set_cons_succ]
  refine e_pin (i := 6) rfl (by kernel_rfl) (fun K' hK => ?_)
  refine app_step rfl X2.out 1 rfl (.tmp 13) (.tmp 16) 22 (by rfl) Try.underlying22 infoByte (by decide) (by decide) (by rfl) (by rfl) (ByR.src X2.out 0 rfl) (u8s_one _) (by simp [be, beTo_length]) ?_
  intro y1 x3 ho hg
  have hA := by_app (ho.sel2 (R1 := [_, _, _]) (R2 := R) [1, 2] (by decide) rfl)
  obtain ⟨ya, yc, hy⟩ := ByR.shape hA
  rw [show (be (u64 k3) 2 ++ be (u64 k4) 2).length = 4 by simp [be, beTo_length]] at hy
  subst hy
  have hz : x3.cell? ⟨gk, 3, none⟩ = some (.int .i64 k3) ∧ x3.cell? ⟨gk, 4, none⟩ = some (.int .i64 k4) := ⟨cell_of (hA.block 1 rfl) rfl, cell_of (hA.block 1 rfl) rfl⟩
  obtain ⟨l1, hl1⟩ : ∃ l1 : List UInt8, l1 = be (u64 k3) 2 ++ be (u64 k4) 2 := ⟨_, rfl⟩
  have n1 : l1.length = 4 := by rw [hl1]; simp [be, beTo_length]
  rw [← hl1] at hA
  have X3 := Lib.hid (show In F0 w0 x3 (ByR (.slice ya 4 yc) l1 :: Cells gk #[.int .u32 k0, .int .u32 k1, .int .i64 k2, .int .i64 k3, .int .i64 k4] 46 :: R) from hA)
  have E1 := Lib.hid hl1
  have N1 := Lib.hid n1
  clear ho hg hA hS X1 X2 hl1 n1
  refine hK.out _ _ hz (fun hS => ?_)
  clear hK K' hz
  try simp only [Act.put, List.setIfInBounds_toArray, List.set_cons_zero, List.set_cons_succ]
  refine e_last (i := 7) rfl (by kernel_rfl) (fun K' hK => ?_)
  go_simp
  refine hK.out _ _ ?_
  clear hK K' hS
  have j2 : x3.cell? ⟨gk, 2, none⟩ = some (.int .i64 k2) := cell_of (X3.out.block 1 rfl) rfl
  go_upto_if 20 with fail
  go_cut [9] (fun v9 wx => MadeMid ⟨k0, k1, k2, k3, k4⟩ flags body.length gk F0 w0 R v9 wx)
  case first =>
    by_cases h6 : k2 = 6
    · have q6 : (k2 == 6) = true := by rw [h6]; rfl
      have hq : headK ⟨k0, k1, k2, k3, k4⟩ flags body.length = l1 ++ [0, 0, 0, 0, 0, 0, 0, 0, 80, UInt8.ofNat (u64 flags), 0, 0, 0, 0, 0, 0] := by rw [HK.out, E1.out]; simp only [h6, if_true]
      have g7 := (X3.out.cells #[.int .u8 0, .int .u8 0, .int .u8 0, .int .u8 0, .int .u8 0, .int .u8 0, .int .u8 0, .int .u8 0, .int .u8 80, .int .u8 (flags % 256), .int .u8 0, .int .u8 0, .int .u8 0, .int .u8 0, .int .u8 0, .int .u8 0] 5).rowFull 0 (n := 16) (k := 1) rfl rfl (by decide)
      have e7 : (#[.int .u8 0, .int .u8 0, .int .u8 0, .int .u8 0, .int .u8 0, .int .u8 0, .int .u8 0, .int .u8 0, .int .u8 80, .int .u8 (flags % 256), .int .u8 0, .int .u8 0, .int .u8 0, .int .u8 0, .int .u8 0, .int .u8 0] : Array Value).toList = u8s [0, 0, 0, 0, 0, 0, 0, 0, 80, UInt8.ofNat (u64 flags), 0, 0, 0, 0, 0, 0] := by
        rw [u64_mod256 flags]; simp only [u8s, List.map_cons, List.map_nil]
        rw [show (UInt8.ofNat (u64 flags)).toNat = u64 flags % 256 from lo8_nat _]; rfl
      rw [e7] at g7
      have X4 := Lib.hid (show In F0 w0 _ (ByR (.slice (some ⟨x3.heap.size, 0, none⟩) 16 16) [0, 0, 0, 0, 0, 0, 0, 0, 80, UInt8.ofNat (u64 flags), 0, 0, 0, 0, 0, 0] :: ByR (.slice ya 4 yc) l1 :: Cells gk #[.int .u32 k0, .int .u32 k1, .int .i64 k2, .int .i64 k3, .int .i64 k4] 46 :: R) from g7)
      have HQ := Lib.hid hq
      clear hq h6 g7 e7
      go_wp2_with (at_builtin; refine app_list rfl X4.out 1 rfl (.tmp 21) (.tmp 24) 22 (by rfl) Try.underlying22 infoByte (by decide) (by decide) (by rfl) (by rfl) (ByR.src X4.out 0 rfl) (u8s_one _) (by rw [N1.out]; simp) ?_)
      intro y7 x8 ho hg
      have hA := by_app (ho.sel2 (R1 := [_, _, _]) (R2 := R) [1, 2] (by decide) rfl)
      have hB : In F0 w0 x8 (ByR y7 (headK ⟨k0, k1, k2, k3, k4⟩ flags body.length) :: Cells gk #[.int .u32 k0, .int .u32 k1, .int .i64 k2, .int .i64 k3, .int .i64 k4] 46 :: R) := by rw [HQ.out]; exact hA
      obtain ⟨za, zc, rfl⟩ := ByR.shape hB
      have HF : Hid (MadeMid ⟨k0, k1, k2, k3, k4⟩ flags body.length gk F0 w0 R (.slice za (headK ⟨k0, k1, k2, k3, k4⟩ flags body.length).length zc) x8) := Lib.hid ⟨_, _, rfl, hB⟩
      clear ho hg hA hB X4
      go_wp2_with fail
      go_meet
      exact HF.out
    · have q6 : (k2 == 6) = false := beq_eq_false_iff_ne.2 h6
      have hq : headK ⟨k0, k1, k2, k3, k4⟩ flags body.length = (l1 ++ be (u64 (8 + (body.length : Int))) 2) ++ [0, 0] := by
        have hmm := HM.out
        have e8 : u64 (8 + (body.length : Int)) = 8 + body.length := by unfold u64; omega
        rw [HK.out, E1.out, e8]; simp only [h6, if_false, List.append_assoc]
      have HQ := Lib.hid hq
      have w8 : wrap64 (8 + (body.length : Int)) = 8 + (body.length : Int) := by have := HM.out; unfold wrap64; omega
      have w8' : IntKind.i64.wrap (8 + (body.length : Int)) = 8 + (body.length : Int) := by have := HM.out; exact IntWalk.i64_in _ (by omega)
      have K4 := Lib.hid (HU.out (8 + (body.length : Int)) _ _ X3.out)
      clear hq h6
      go_wp2_with fail
      refine K4.out.mono ?_
      rintro e x4 ⟨pc, pcc, rfl, ho⟩
      have X4 := Lib.hid ho
      clear ho K4
      go_wp2_with (at_builtin; refine app_list rfl X4.out 1 rfl (.tmp 26) (.tmp 30) 22 (by rfl) Try.underlying22 infoByte (by decide) (by decide) (by rfl) (by rfl) (ByR.src X4.out 0 rfl) (u8s_one _) (by rw [N1.out]; simp [be, beTo_length]) ?_)
      intro y5 x5 ho hg
      have hA := by_app (ho.sel2 (R1 := [_, _, _]) (R2 := R) [1, 2] (by decide) rfl)
      obtain ⟨l2, hl2⟩ : ∃ l2 : List UInt8, l2 = l1 ++ be (u64 (8 + (body.length : Int))) 2 := ⟨_, rfl⟩
      have n2 : l2.length = 6 := by rw [hl2]; simp [N1.out, be, beTo_length]
      rw [← hl2] at hA
      obtain ⟨ta, tc, hy⟩ := ByR.shape hA
      rw [n2] at hy
      subst hy
      have HQ2 : Hid (headK ⟨k0, k1, k2, k3, k4⟩ flags body.length = l2 ++ [0, 0]) := Lib.hid (by rw [hl2]; exact HQ.out)
      have g7 := (hA.cells #[.int .u8 0, .int .u8 0] 5).rowFull 0 (n := 2) (k := 1) rfl rfl (by decide)
      have X5 := Lib.hid (show In F0 w0 _ (ByR (.slice (some ⟨x5.heap.size, 0, none⟩) 2 2) [0, 0] :: ByR (.slice ta 6 tc) l2 :: Cells gk #[.int .u32 k0, .int .u32 k1, .int .i64 k2, .int .i64 k3, .int .i64 k4] 46 :: R) from g7)
      have N2 := Lib.hid n2
      clear ho hg hA hl2 n2 g7 X4 HQ
      go_wp2_with (at_builtin; refine app_list rfl X5.out 1 rfl (.tmp 31) (.tmp 32) 22 (by rfl) Try.underlying22 infoByte (by decide) (by decide) (by rfl) (by rfl) (ByR.src X5.out 0 rfl) (u8s_one _) (by rw [N2.out]; simp) ?_)
      intro y7 x8 ho hg
      have hA := by_app (ho.sel2 (R1 := [_, _, _]) (R2 := R) [1, 2] (by decide) rfl)
      have hB : In F0 w0 x8 (ByR y7 (headK ⟨k0, k1, k2, k3, k4⟩ flags body.length) :: Cells gk #[.int .u32 k0, .int .u32 k1, .int .i64 k2, .int .i64 k3, .int .i64 k4] 46 :: R) := by rw [HQ2.out]; exact hA
      obtain ⟨za, zc, rfl⟩ := ByR.shape hB
      have HF : Hid (MadeMid ⟨k0, k1, k2, k3, k4⟩ flags body.length gk F0 w0 R (.slice za (headK ⟨k0, k1, k2, k3, k4⟩ flags body.length).length zc) x8) := Lib.hid ⟨_, _, rfl, hB⟩
      clear ho hg hA hB X5
      go_wp2_with fail
      go_meet
      exact HF.out
  case rest =>
  obtain ⟨ma, mc, rfl, ho⟩ := hcut
  have X4 := Lib.hid ho
  have hl := HHL.out
  obtain ⟨l3, hl3⟩ : ∃ l3 : List UInt8, l3 = headK ⟨k0, k1, k2, k3, k4⟩ flags body.length := ⟨_, rfl⟩
  rw [← hl3] at HI X4 hl
  rw [← hl3]
  have HL3 := Lib.hid hl
  clear ho hl hl3 HK E1 N1 X3 j2 HHL
  have HL4 : Hid (l3.length + body.length ≤ 1000000000) := Lib.hid (by have := HL3.out; have := HM.out; omega)
  go_wp2_with (at_builtin; refine app_list rfl X4.out 0 rfl (.tmp 34) (.tmp 35) 22 (by rfl) Try.underlying22 infoByte (by decide) (by decide) (by rfl) (by rfl) (HB.out.src _ X4.out.drop.drop) (u8s_one _) HL4.out ?_)
  intro y9 x9 ho hg
  have hA := by_app ho
  rw [HI.out] at hA
  obtain ⟨va, vc, rfl⟩ := ByR.shape hA
  have hnl : (innerL ⟨k0, k1, k2, k3, k4⟩ flags body).length ≤ 100020 := by rw [← HI.out, List.length_append]; have := HL3.out; have := HM.out; omega
  obtain ⟨q, hq⟩ : ∃ q : List UInt8, q = innerL ⟨k0, k1, k2, k3, k4⟩ flags body := ⟨_, rfl⟩
  rw [← hq] at hA hnl HA
  rw [← hq]
  have c0 : x9.cell? ⟨gk, 0, none⟩ = some (.int .u32 k0) := cell_of (hA.block 1 rfl) rfl
  have c1 : x9.cell? ⟨gk, 1, none⟩ = some (.int .u32 k1) := cell_of (hA.block 1 rfl) rfl
  have c2 : x9.cell? ⟨gk, 2, none⟩ = some (.int .i64 k2) := cell_of (hA.block 1 rfl) rfl
  have w9 : IntKind.i64.wrap (20 + (q.length : Int)) = 20 + (q.length : Int) := IntWalk.i64_in _ (by omega)
  have KB : Hid (Calls Try.prog 31 #[.agg (hC 0 0 (20 + (q.length : Int)) 0 ((0 : Nat) : Int) 0 ttl k2 0 k0 k1)] x9 fun e w' => ∃ v, e = .returned v ∧ In F0 w0 w' (ByR v (buildD ⟨0, 0, 20 + (q.length : Int), 0, ((0 : Nat) : Int), 0, ttl, k2, 0, k0, k1⟩) :: ByR (.slice va q.length vc) q :: Cells gk #[.int .u32 k0, .int .u32 k1, .int .i64 k2, .int .i64 k3, .int .i64 k4] 46 :: R)) :=
    Lib.hid (o_r20build hA (fl := 0) (by omega) HSD.out.1.1 HSD.out.1.2 HSD.out.2.1 HSD.out.2.2)
  have HN := Lib.hid hnl
  clear ho hg hA X4 hnl hq HI
  go_wp2_with fail
  refine KB.out.mono ?_
  rintro e x10 ⟨vb, rfl, ho⟩
  obtain ⟨ba, bc, rfl⟩ := ByR.shape ho
  have X10 := Lib.hid ho
  have HL5 : Hid ((buildD ⟨0, 0, 20 + (q.length : Int), 0, ((0 : Nat) : Int), 0, ttl, k2, 0, k0, k1⟩).length + q.length ≤ 1000000000) := Lib.hid (by rw [buildD_length]; have := HN.out; omega)
  clear ho KB c0 c1 c2 w9
  go_wp2_with (at_builtin; refine app_list rfl X10.out 0 rfl (.tmp 48) (.tmp 49) 22 (by rfl) Try.underlying22 infoByte (by decide) (by decide) (by rfl) (by rfl) (ByR.src X10.out 1 rfl) (u8s_one _) HL5.out ?_)
  intro y11 x11 ho hg
  have G := Lib.hid (by_app (ho.sel2 (R1 := [_, _, _]) (R2 := R) [0] (by decide) rfl))
  clear ho hg X10
  go_wp2_with fail
  go_ret
  exact ⟨_, rfl, by rw [← HA.out]; exact G.out⟩
end
section
variable {P : Program} {Q : Exit → Act → World → Prop} {S : World → Prop} {l : List Oper}
def twoB (l : List Oper) (i j : Nat) (listed : Array Bool) : Bool := decide (Region.ready .any l.toArray listed = [i, j]) && (decide (i + 1 < l.toArray.size) && decide (j + 1 < l.toArray.size))
def EArm (P : Program) (l : List Oper) (Q : Exit → Act → World → Prop) (S : World → Prop) (fuel : Nat) (listed : Array Bool) (i : Nat) (o : Oper) (a : Act) (w : World) : Prop :=
  ∀ K' : Act → World → Prop, Shut (∀ a w, S w → (S w → EAt P l Q S fuel (listed.setIfInBounds i true) a w) → K' a w) → if Region.wanted o (yielded l.toArray a.tmps) = true then Oper.wp P o a w K' Q else K' (a.put o.dst undef) w
theorem e_two {i j : Nat} {oi oj : Oper} {fuel : Nat} {listed : Array Bool} {a : Act} {w : World} (hi : l[i]? = some oi) (hj : l[j]? = some oj) (hc : twoB l i j listed = true)
    (h1 : EArm P l Q S fuel listed i oi a w) (h2 : EArm P l Q S fuel listed j oj a w) : EAt P l Q S (fuel + 1) listed a w := by
  simp only [twoB, Bool.and_eq_true, decide_eq_true_eq] at hc
  obtain ⟨hc0, hci, hcj⟩ := hc
  have arm : ∀ (x : Nat) (o : Oper), l[x]? = some o → x + 1 < l.toArray.size → x ∈ Region.ready .any l.toArray listed → EArm P l Q S fuel listed x o a w → HeadInv .any l.toArray (l.toArray.size - 1) listed →
      wpOp P l.toArray Q x (fun a' w' => (x + 1 < l.toArray.size → S w') ∧ wpAnyE P .any l.toArray Q S fuel (listed.setIfInBounds x true) a' w') a w := by
    intro x o hx hxs hr h inv
    have hx' : l.toArray[x]? = some o := by simpa using hx
    have := h (fun a' w' => (x + 1 < l.toArray.size → S w') ∧ wpAnyE P .any l.toArray Q S fuel (listed.setIfInBounds x true) a' w') (fun a w hS hn => ⟨fun _ => hS, hn hS (inv.set hr (by omega))⟩)
    unfold wpOp
    simp only [hx']
    by_cases hwd : Region.wanted o (yielded l.toArray a.tmps) = true
    · rw [if_pos hwd] at this ⊢; exact Or.inl this
    · rw [if_neg hwd] at this ⊢; exact this
  intro inv
  refine ⟨fun h0 => (by rw [hc0] at h0; cases h0), fun x hx => ?_⟩
  have hr := hx
  rw [hc0] at hx
  rcases List.mem_cons.1 hx with rfl | hx
  · exact arm x oi hi hci hr h1 inv
  · obtain rfl : x = j := by simpa using hx
    exact arm x oj hj hcj hr h2 inv
end
structure ChOk (c : ChD) : Prop where
  s : 1 ≤ c.slots ∧ c.slots ≤ 251
  t : c.t.length = c.slots
  l : c.l.length ≤ 1000000
  wf : ∀ x ∈ c.l, 0 ≤ x.addr ∧ x.addr < 4294967296
section
variable {F0 : List Nat} {w0 w : World} {R : List Asrt} {bt cb : Nat} {most idle : Int} {L : List Fl} {c : ChD} {vl vt : Value}
theorem o_config (n : Int) (h : In F0 w0 w R) : Calls Try.prog 7 #[.int .i64 n] w fun e w' => e = .returned (.agg (cfC 168364297 13 n 20 1500 200 20000 3)) ∧ In F0 w0 w' R := by
  have G := Lib.hid (h.alloc (.cells (cfC 168364297 13 n 20 1500 200 20000 3) 31))
  clear h
  go_enter Try.func7, Try.ntmps7
  go_wp2_with fail
  exact bodyPost_ret (results_cell_row Try.results7 _ _ w.heap.size 31 _ (0, 0) _ rfl (heap_alloc_new _ _) Try.underlying31 rfl (by kernel_rfl)) rfl ⟨rfl, G.out⟩
theorem o_pktown {self sl fl idle0 mtu sg qu ve : Int} (hself : 0 ≤ self ∧ self < 4294967296) (hok : ChOk c) {gen now : Int} {m : List UInt8} (hm : m.length ≤ 100000000) {a : Option Addr} {n : Nat}
    (h : In F0 w0 w (ByR (.slice a m.length n) m :: FA bt most idle L :: ChL cb c vl vt R)) :
    Calls Try.prog 6 #[.agg (cfC self sl fl idle0 mtu sg qu ve), .pointer (some ⟨bt, 0, none⟩), pC cb, .int .i64 gen, .int .i64 now, .slice a m.length n] w (PktPost (pktD self mtu most L c gen now m) bt most idle cb c vl vt F0 w0 R) := by
  have h1 : In F0 w0 w (FA bt most idle L :: ChL cb c vl vt (ByR (.slice a m.length n) m :: R)) := h.sel2 (R1 := [_, _, _, _, _]) [1, 2, 3, 4, 0] (by decide) rfl
  have h2 : In F0 w0 w (ByR (.slice a m.length n) m :: R) := h.sel2 (R1 := [_, _, _, _, _]) [0] (by decide) rfl
  refine (o_packet hself hok.s hok.t hok.l hok.wf (ByR.bytes 0 rfl h2) hm h1).mono ?_
  rintro e w' ⟨vp, vr, rfl, ho⟩
  exact ⟨vp, vr, rfl, ho.sel2 (R1 := [_, _, _, _, _, _, _]) [0, 1, 2, 3, 4, 5] (by decide) rfl⟩
theorem bytes_nil : Bytes F0 w0 R none 0 [] := ⟨fun W hW => (by
    obtain ⟨F, r⟩ := (hW.rownil 5 1).get 0 rfl
    exact r.all), fun _ => ⟨rfl, rfl⟩, Or.inl rfl, Nat.le_refl _, Nat.zero_le _⟩
theorem o_chset1 {x : Bk} {g : Nat} (hmd : 0 ≤ c.made ∧ c.made ≤ 1000) (hs : c.slots = 13) (h : In F0 w0 w (Cells g (encBa x) 43 :: ChL cb c vl vt R)) :
    Calls Try.prog 11 #[pC cb, .slice (some ⟨g, 0, none⟩) 1 1, .nilFunc] w (SetPost cb (setCh c [x] noneOut) F0 w0 R) := by
  have h0 : In F0 w0 w (ChL cb c vl vt (Cells g (encBa x) 43 :: R)) := h.sel2 (R1 := [_, _, _, _]) [1, 2, 3, 0] (by decide) rfl
  have hsrc : BksAt F0 w0 (Cells g (encBa x) 43 :: R) (some ⟨g, 0, none⟩) [x] := fun W hW => Src.of_block (hW.block 0 rfl) rfl
  refine (o_chset (l := [x]) (n := 1) (by rw [hs]; exact may13) (by rw [hs]; exact cov13) (by omega) hsrc (fun e => by cases e) (by simp) h0).mono ?_
  rintro e w' ⟨vl', vt', rfl, ho⟩
  exact ⟨vl', vt', rfl, ho.sel2 (R1 := [_, _, _, _]) [0, 1, 2] (by decide) rfl⟩
end
def k23 : Tup := ⟨1, 2, 6, 3, 4⟩
def f23 : Fl := ⟨k23, 4, 1, 5⟩
theorem k23_wf : WfT k23 := ⟨by decide, by decide, by decide, by decide, by decide, by decide, by decide, by decide, by decide, by decide⟩
theorem k23_may : MayT k23 := by decide
def c23 : ChD := ⟨13, [⟨4, 9, 1⟩], List.replicate 13 4, 1⟩
theorem set23 : setCh (newCh 13) [⟨4, 9, 1⟩] noneOut = (c23, 0) := by
  have h : gensMay [⟨4, 9, 1⟩] = true := by decide
  unfold setCh
  rw [if_pos h, withoutL_none]
  show (_, _) = _
  rw [show (newCh 13).slots = 13 from rfl, table4]
  rfl
theorem chOk23 : ChOk c23 := ⟨by decide, by decide, by decide, fun x hx => by simp [c23] at hx; subst hx; decide⟩
theorem put23 : putF 2 [] f23 = ([f23], true, 0) := by decide +kernel
theorem pkt23 : ∃ pk, pktD 168364297 1500 2 [] c23 1 5 (madeD k23 9 0 []) = (⟨2, 0, 4, pk, [putRec f23]⟩, [f23]) := by
  have hc : choiceD [] c23 k23 = some ⟨4, 9, 1⟩ := pick_one rfl rfl rfl k23_may
  obtain ⟨pk, h⟩ := made_goes (self := 168364297) (mtu := 1500) (most := 2) (gen := 1) (now := 5) (L := []) (c := c23) k23_wf k23_may 9 0 [] (by decide) (by decide) hc (by decide) (by rw [innerL_length]; decide)
  refine ⟨pk, h.trans ?_⟩
  have e : keepD 2 [] ⟨k23, 4, 1, 5⟩ (atF [] k23).isSome (wasD [] k23) (decide (k23.proto = 6) && decide (u64 0 % 256 &&& 5 ≠ 0)) = ([putRec f23], [f23]) := by
    have e1 : (decide (k23.proto = 6) && decide (u64 0 % 256 &&& 5 ≠ 0)) = false := by decide
    rw [e1]
    have e2 : (atF [] k23).isSome = false := rfl
    rw [e2]
    unfold keepD
    rw [if_neg (by decide), if_neg (by simp)]
    have := put23
    unfold f23 at this ⊢
    rw [this]; rfl
  rw [e]
section
variable {F0 : List Nat} {w0 w : World} {R : List Asrt}
theorem o_awake23 (h : In F0 w0 w R) : Calls Try.prog 10 #[] w fun e w' => e = .returned (.bool true) ∧ In F0 w0 w' R := by
  obtain ⟨pk, hpk⟩ := pkt23
  have K0 := Lib.hid (o_fnew h 2 20)
  have K1 := Lib.hid (fun w' (R' : List Asrt) (h' : In F0 w0 w' R') => o_chnew may13 cov13 h')
  have K2 := Lib.hid (fun w' cb g vl vt (R' : List Asrt) (h' : In F0 w0 w' (Cells g (encBa ⟨4, 9, 1⟩) 43 :: ChL cb (newCh 13) vl vt R')) => o_chset1 (x := ⟨4, 9, 1⟩) (by decide) rfl h')
  have KC := Lib.hid (fun w' (R' : List Asrt) (h' : In F0 w0 w' R') => o_config 2 h')
  have HML : Hid ((madeD k23 9 0 []).length ≤ 100000000) := Lib.hid (by decide +kernel)
  have KM0 := fun w' (R' : List Asrt) (h' : In F0 w0 w' R') => o_made h' k23_wf 9 0 (A := none) (c := 0) (body := []) bytes_nil (by decide)
  have KP0 := fun bt cb vl vt w' (R' : List Asrt) a n (h' : In F0 w0 w' (ByR (.slice a (madeD k23 9 0 []).length n) (madeD k23 9 0 []) :: FA bt 2 20 [] :: ChL cb c23 vl vt R')) => o_pktown (self := 168364297) (sl := 13) (fl := 2) (idle0 := 20) (mtu := 1500) (sg := 200) (qu := 20000) (ve := 3) (by decide) chOk23 (gen := 1) (now := 5) HML.out h'
  rw [hpk] at KP0
  generalize madeD k23 9 0 [] = m at *
  have KM1 := Lib.hid KM0
  have KP1 := Lib.hid KP0
  have HW := Lib.hid set23
  clear KM0 KP0 hpk h
  go_enter Try.func10, Try.ntmps10
  go_wp2_with fail
  refine K0.out.mono ?_
  rintro e w1 ⟨bt, rfl, ho⟩
  have h1 : In F0 w0 w1 (FA bt 2 20 [] :: R) := ho
  have K1H := Lib.hid (K1.out _ _ h1)
  clear ho h1 K0 K1
  go_wp2_with fail
  refine K1H.out.mono ?_
  rintro e w2 ⟨cb, a2, n2, rfl, ho⟩
  have h2 := ho.cells (encBa ⟨4, 9, 1⟩) 43
  have K2H := K2.out _ _ _ _ _ _ h2
  rw [HW.out] at K2H
  have K2G := Lib.hid K2H
  clear ho h2 K2 K1H K2H
  go_wp2_with fail
  refine K2G.out.mono ?_
  rintro e w3 ⟨vl, vt, rfl, ho⟩
  obtain ⟨F8, r8⟩ := ho.get 1 rfl
  obtain ⟨al, nl, rfl, -, -, -⟩ := RowA.shape r8
  obtain ⟨F9, r9⟩ := ho.get 2 rfl
  obtain ⟨at', nt, rfl, -, -, -⟩ := RowA.shape r9
  generalize hvl : Value.slice al c23.l.length nl = vl at *
  generalize hvt : Value.slice at' c23.t.length nt = vt at *
  have h3 := ho.cells #[.int .u32 1, .int .u32 2, .int .i64 6, .int .i64 3, .int .i64 4] 46
  clear K2G r8 r9 ho
  go_upto_region 4 with fail
  generalize w3.heap.size = g3 at *
  generalize (w3.alloc (.cells #[.int .u32 1, .int .u32 2, .int .i64 6, .int .i64 3, .int .i64 4] 46)) = V at *
  have HD0 : In F0 w0 V (FA bt 2 20 [] :: ChL cb ⟨13, [⟨4, 9, 1⟩], List.replicate 13 4, 1⟩ vl vt (Cells g3 #[.int .u32 1, .int .u32 2, .int .i64 6, .int .i64 3, .int .i64 4] 46 :: R)) := h3.sel2 (R1 := [_, _, _, _, _]) [4, 1, 2, 3, 0] (by decide) rfl
  have HD1 := HD0.drewN 1
  have KM := Lib.hid (fun w' (R' : List Asrt) (h' : In F0 w0 w' R') => KM1.out w' R' h')
  have KP := Lib.hid (fun w' (R' : List Asrt) a n (h' : In F0 w0 w' (ByR (.slice a m.length n) m :: FA bt 2 20 [] :: ChL cb ⟨13, [⟨4, 9, 1⟩], List.replicate 13 4, 1⟩ vl vt R')) => KP1.out bt cb vl vt w' R' a n h')
  clear h3 HD0 KM1 KP1
  go_cut [4] (fun x4 wx => ∃ g4 vp vr, x4 = .pointer (some ⟨g4, 0, none⟩) ∧ In F0 w0 wx (Cells g4 (plC 2 0 4 vp vr) 27 :: ByR vp pk :: RecR vr [putRec f23] :: FA bt 2 20 [f23] :: ChL cb ⟨13, [⟨4, 9, 1⟩], List.replicate 13 4, 1⟩ vl vt (Cells g3 #[.int .u32 1, .int .u32 2, .int .i64 6, .int .i64 3, .int .i64 4] 46 :: R)))
  case first =>
    have HD : Hid (In F0 w0 V.drew (FA bt 2 20 [] :: ChL cb ⟨13, [⟨4, 9, 1⟩], List.replicate 13 4, 1⟩ vl vt (Cells g3 #[.int .u32 1, .int .u32 2, .int .i64 6, .int .i64 3, .int .i64 4] 46 :: R))) := Lib.hid HD1
    clear HD1
    unfold k23 at KM
    refine e_start (fun w' => w'.cell? ⟨g3, 0, none⟩ = some (.int .u32 1) ∧ w'.cell? ⟨g3, 1, none⟩ = some (.int .u32 2) ∧ w'.cell? ⟨g3, 2, none⟩ = some (.int .i64 6) ∧ w'.cell? ⟨g3, 3, none⟩ = some (.int .i64 3) ∧ w'.cell? ⟨g3, 4, none⟩ = some (.int .i64 4)) (by kernel_rfl) ⟨cell_of (HD.out.block 4 rfl) rfl, cell_of (HD.out.block 4 rfl) rfl, cell_of (HD.out.block 4 rfl) rfl, cell_of (HD.out.block 4 rfl) rfl, cell_of (HD.out.block 4 rfl) rfl⟩ (fun hS => ?_)
    generalize V.drew = VD at *
    refine e_take (i := 1) (v := ?_) rfl (by kernel_rfl) (fun _ _ _ h => h) (by rfl) ?_ hS ?_
    rotate_left
    · (intro w hSw; (try dsimp only at hSw); go_simp; try with_reducible rfl)
    try simp only [Act.put, List.setIfInBounds_toArray, List.set_cons_zero, List.set_cons_succ]
    refine e_take (i := 2) (v := ?_) rfl (by kernel_rfl) (fun _ _ _ h => h) (by rfl) ?_ hS ?_
    rotate_left
    · (intro w hSw; (try dsimp only at hSw); go_simp; try with_reducible rfl)
    try simp only [Act.put, List.setIfInBounds_toArray, List.set_cons_zero, List.set_cons_succ]
    refine e_take (i := 3) (v := ?_) rfl (by kernel_rfl) (fun _ _ _ h => h) (by rfl) ?_ hS ?_
    rotate_left
    · (intro w hSw; (try dsimp only at hSw); go_simp; try with_reducible rfl)
    try simp only [Act.put, List.setIfInBounds_toArray, List.set_cons_zero, List.set_cons_succ]
    refine e_two (i := 0) (j := 6) rfl rfl (by kernel_rfl) (fun K' hK => ?_) (fun K' hK => ?_)
    · go_simp
      go_at_call 7
      refine (KC.out _ _ HD.out).mono ?_
      rintro e u1 ⟨rfl, hN1⟩
      have HU1 : Hid (In F0 w0 u1 (FA bt 2 20 [] :: ChL cb ⟨13, [⟨4, 9, 1⟩], List.replicate 13 4, 1⟩ vl vt (Cells g3 #[.int .u32 1, .int .u32 2, .int .i64 6, .int .i64 3, .int .i64 4] 46 :: R))) := Lib.hid hN1
      clear hN1
      refine hK.out _ _ ⟨cell_of (HU1.out.block 4 rfl) rfl, cell_of (HU1.out.block 4 rfl) rfl, cell_of (HU1.out.block 4 rfl) rfl, cell_of (HU1.out.block 4 rfl) rfl, cell_of (HU1.out.block 4 rfl) rfl⟩ (fun hS => ?_)
      clear hK K'
      try simp only [Act.put, List.setIfInBounds_toArray, List.set_cons_zero, List.set_cons_succ]
      refine e_two (i := 4) (j := 6) rfl rfl (by kernel_rfl) (fun K' hK => ?_) (fun K' hK => ?_)
      · go_simp
        go_at_call 13
        refine (KM.out _ _ HU1.out).mono ?_
        rintro e u2 ⟨vM, rfl, hN2⟩
        obtain ⟨aM, nM, rfl⟩ := ByR.shape hN2
        have HU2 : Hid (In F0 w0 u2 (ByR (.slice aM m.length nM) m :: FA bt 2 20 [] :: ChL cb ⟨13, [⟨4, 9, 1⟩], List.replicate 13 4, 1⟩ vl vt (Cells g3 #[.int .u32 1, .int .u32 2, .int .i64 6, .int .i64 3, .int .i64 4] 46 :: R))) := Lib.hid hN2
        clear hN2
        refine hK.out _ _ ⟨cell_of (HU2.out.block 5 rfl) rfl, cell_of (HU2.out.block 5 rfl) rfl, cell_of (HU2.out.block 5 rfl) rfl, cell_of (HU2.out.block 5 rfl) rfl, cell_of (HU2.out.block 5 rfl) rfl⟩ (fun hS => ?_)
        clear hK K'
        try simp only [Act.put, List.setIfInBounds_toArray, List.set_cons_zero, List.set_cons_succ]
        refine e_two (i := 5) (j := 6) rfl rfl (by kernel_rfl) (fun K' hK => ?_) (fun K' hK => ?_)
        · go_simp
          go_at_call 6
          refine (KP.out _ _ _ _ HU2.out).mono ?_
          rintro e u3 ⟨vp, vr, rfl, hN3⟩
          obtain ⟨ap, np, rfl⟩ := ByR.shape hN3
          obtain ⟨Fr, rr⟩ := hN3.get 1 rfl
          obtain ⟨ar, nr, rfl, -, -, -⟩ := RowA.shape rr
          have HU3 : Hid (In F0 w0 u3 (ByR (.slice ap pk.length np) pk :: RecR (.slice ar [putRec f23].length nr) [putRec f23] :: FA bt 2 20 [f23] :: ChL cb ⟨13, [⟨4, 9, 1⟩], List.replicate 13 4, 1⟩ vl vt (Cells g3 #[.int .u32 1, .int .u32 2, .int .i64 6, .int .i64 3, .int .i64 4] 46 :: R))) := Lib.hid hN3
          clear hN3 rr
          refine hK.out _ _ ⟨cell_of (HU3.out.block 6 rfl) rfl, cell_of (HU3.out.block 6 rfl) rfl, cell_of (HU3.out.block 6 rfl) rfl, cell_of (HU3.out.block 6 rfl) rfl, cell_of (HU3.out.block 6 rfl) rfl⟩ (fun hS => ?_)
          clear hK K'
          skip
          refine e_pin (i := 6) rfl (by kernel_rfl) (fun K' hK => ?_)
          go_simp
          have hA4 := HU3.out.cells (plC 0 0 0 (.slice none 0 0) (.slice none 0 0)) 27
          generalize u3.heap.size = gA at *
          generalize (u3.alloc (.cells (plC 0 0 0 (.slice none 0 0) (.slice none 0 0)) 27)) = u4 at *
          have HU4 : Hid (In F0 w0 u4 (ByR (.slice ap pk.length np) pk :: RecR (.slice ar [putRec f23].length nr) [putRec f23] :: FA bt 2 20 [f23] :: ChL cb ⟨13, [⟨4, 9, 1⟩], List.replicate 13 4, 1⟩ vl vt (Cells gA (plC 0 0 0 (.slice none 0 0) (.slice none 0 0)) 27 :: Cells g3 #[.int .u32 1, .int .u32 2, .int .i64 6, .int .i64 3, .int .i64 4] 46 :: R))) := Lib.hid (hA4.sel2 (R1 := [_, _, _, _, _, _, _, _]) [1, 2, 3, 4, 5, 6, 0, 7] (by decide) rfl)
          clear hA4
          refine hK.out _ _ ⟨cell_of (HU4.out.block 7 rfl) rfl, cell_of (HU4.out.block 7 rfl) rfl, cell_of (HU4.out.block 7 rfl) rfl, cell_of (HU4.out.block 7 rfl) rfl, cell_of (HU4.out.block 7 rfl) rfl⟩ (fun hS => ?_)
          clear hK K'
          try simp only [Act.put, List.setIfInBounds_toArray, List.set_cons_zero, List.set_cons_succ]
          refine e_last (i := 7) rfl (by kernel_rfl) (fun K' hK => ?_)
          have hF := HU4.out.setFull 6 rfl (xs := (plC 2 0 4 (.slice ap pk.length np) (.slice ar [putRec f23].length nr)).toList) (b := gA) (C := (plC 0 0 0 (.slice none 0 0) (.slice none 0 0))) (T := 27) rfl
          refine store_step (by rfl) 27 (.tmp 4) (.tmp 17) (by rfl) gA 0 (plC 2 0 4 (.slice ap pk.length np) (.slice ar [putRec f23].length nr)) (by rfl) (by rfl) (there_of (C := (plC 0 0 0 (.slice none 0 0) (.slice none 0 0))) (T := 27) (HU4.out.block 6 rfl)) (by kernel_rfl) (plC_all _ _ _ _ _ _ _ _ _) ?_
          refine hK.out _ _ ?_
          clear hK K' hS
          go_wp2_with fail
          go_meet
          exact ⟨gA, _, _, rfl, hF.sel2 (R1 := [_, _, _, _, _, _, _, _]) [6, 0, 1, 2, 3, 4, 5, 7] (by decide) rfl⟩
        · go_simp
          have hA5 := HU2.out.cells (plC 0 0 0 (.slice none 0 0) (.slice none 0 0)) 27
          generalize u2.heap.size = gA at *
          generalize (u2.alloc (.cells (plC 0 0 0 (.slice none 0 0) (.slice none 0 0)) 27)) = u5 at *
          have HU5 : Hid (In F0 w0 u5 (ByR (.slice aM m.length nM) m :: FA bt 2 20 [] :: ChL cb ⟨13, [⟨4, 9, 1⟩], List.replicate 13 4, 1⟩ vl vt (Cells gA (plC 0 0 0 (.slice none 0 0) (.slice none 0 0)) 27 :: Cells g3 #[.int .u32 1, .int .u32 2, .int .i64 6, .int .i64 3, .int .i64 4] 46 :: R))) := Lib.hid (hA5.sel2 (R1 := [_, _, _, _, _, _, _]) [1, 2, 3, 4, 5, 0, 6] (by decide) rfl)
          clear hA5
          refine hK.out _ _ ⟨cell_of (HU5.out.block 6 rfl) rfl, cell_of (HU5.out.block 6 rfl) rfl, cell_of (HU5.out.block 6 rfl) rfl, cell_of (HU5.out.block 6 rfl) rfl, cell_of (HU5.out.block 6 rfl) rfl⟩ (fun hS => ?_)
          clear hK K'
          try simp only [Act.put, List.setIfInBounds_toArray, List.set_cons_zero, List.set_cons_succ]
          refine e_pin (i := 5) rfl (by kernel_rfl) (fun K' hK => ?_)
          go_simp
          go_at_call 6
          refine (KP.out _ _ _ _ HU5.out).mono ?_
          rintro e u6 ⟨vp, vr, rfl, hN6⟩
          obtain ⟨ap, np, rfl⟩ := ByR.shape hN6
          obtain ⟨Fr, rr⟩ := hN6.get 1 rfl
          obtain ⟨ar, nr, rfl, -, -, -⟩ := RowA.shape rr
          have HU6 : Hid (In F0 w0 u6 (ByR (.slice ap pk.length np) pk :: RecR (.slice ar [putRec f23].length nr) [putRec f23] :: FA bt 2 20 [f23] :: ChL cb ⟨13, [⟨4, 9, 1⟩], List.replicate 13 4, 1⟩ vl vt (Cells gA (plC 0 0 0 (.slice none 0 0) (.slice none 0 0)) 27 :: Cells g3 #[.int .u32 1, .int .u32 2, .int .i64 6, .int .i64 3, .int .i64 4] 46 :: R))) := Lib.hid hN6
          clear hN6 rr
          refine hK.out _ _ ⟨cell_of (HU6.out.block 7 rfl) rfl, cell_of (HU6.out.block 7 rfl) rfl, cell_of (HU6.out.block 7 rfl) rfl, cell_of (HU6.out.block 7 rfl) rfl, cell_of (HU6.out.block 7 rfl) rfl⟩ (fun hS => ?_)
          clear hK K'
          skip
          refine e_last (i := 7) rfl (by kernel_rfl) (fun K' hK => ?_)
          have hF := HU6.out.setFull 6 rfl (xs := (plC 2 0 4 (.slice ap pk.length np) (.slice ar [putRec f23].length nr)).toList) (b := gA) (C := (plC 0 0 0 (.slice none 0 0) (.slice none 0 0))) (T := 27) rfl
          refine store_step (by rfl) 27 (.tmp 4) (.tmp 17) (by rfl) gA 0 (plC 2 0 4 (.slice ap pk.length np) (.slice ar [putRec f23].length nr)) (by rfl) (by rfl) (there_of (C := (plC 0 0 0 (.slice none 0 0) (.slice none 0 0))) (T := 27) (HU6.out.block 6 rfl)) (by kernel_rfl) (plC_all _ _ _ _ _ _ _ _ _) ?_
          refine hK.out _ _ ?_
          clear hK K' hS
          go_wp2_with fail
          go_meet
          exact ⟨gA, _, _, rfl, hF.sel2 (R1 := [_, _, _, _, _, _, _, _]) [6, 0, 1, 2, 3, 4, 5, 7] (by decide) rfl⟩
      · go_simp
        have hA7 := HU1.out.cells (plC 0 0 0 (.slice none 0 0) (.slice none 0 0)) 27
        generalize u1.heap.size = gA at *
        generalize (u1.alloc (.cells (plC 0 0 0 (.slice none 0 0) (.slice none 0 0)) 27)) = u7 at *
        have HU7 : Hid (In F0 w0 u7 (FA bt 2 20 [] :: ChL cb ⟨13, [⟨4, 9, 1⟩], List.replicate 13 4, 1⟩ vl vt (Cells gA (plC 0 0 0 (.slice none 0 0) (.slice none 0 0)) 27 :: Cells g3 #[.int .u32 1, .int .u32 2, .int .i64 6, .int .i64 3, .int .i64 4] 46 :: R))) := Lib.hid (hA7.sel2 (R1 := [_, _, _, _, _, _]) [1, 2, 3, 4, 0, 5] (by decide) rfl)
        clear hA7
        refine hK.out _ _ ⟨cell_of (HU7.out.block 5 rfl) rfl, cell_of (HU7.out.block 5 rfl) rfl, cell_of (HU7.out.block 5 rfl) rfl, cell_of (HU7.out.block 5 rfl) rfl, cell_of (HU7.out.block 5 rfl) rfl⟩ (fun hS => ?_)
        clear hK K'
        try simp only [Act.put, List.setIfInBounds_toArray, List.set_cons_zero, List.set_cons_succ]
        refine e_pin (i := 4) rfl (by kernel_rfl) (fun K' hK => ?_)
        go_simp
        go_at_call 13
        refine (KM.out _ _ HU7.out).mono ?_
        rintro e u8 ⟨vM, rfl, hN8⟩
        obtain ⟨aM, nM, rfl⟩ := ByR.shape hN8
        have HU8 : Hid (In F0 w0 u8 (ByR (.slice aM m.length nM) m :: FA bt 2 20 [] :: ChL cb ⟨13, [⟨4, 9, 1⟩], List.replicate 13 4, 1⟩ vl vt (Cells gA (plC 0 0 0 (.slice none 0 0) (.slice none 0 0)) 27 :: Cells g3 #[.int .u32 1, .int .u32 2, .int .i64 6, .int .i64 3, .int .i64 4] 46 :: R))) := Lib.hid hN8
        clear hN8
        refine hK.out _ _ ⟨cell_of (HU8.out.block 6 rfl) rfl, cell_of (HU8.out.block 6 rfl) rfl, cell_of (HU8.out.block 6 rfl) rfl, cell_of (HU8.out.block 6 rfl) rfl, cell_of (HU8.out.block 6 rfl) rfl⟩ (fun hS => ?_)
        clear hK K'
        try simp only [Act.put, List.setIfInBounds_toArray, List.set_cons_zero, List.set_cons_succ]
        refine e_pin (i := 5) rfl (by kernel_rfl) (fun K' hK => ?_)
        go_simp
        go_at_call 6
        refine (KP.out _ _ _ _ HU8.out).mono ?_
        rintro e u9 ⟨vp, vr, rfl, hN9⟩
        obtain ⟨ap, np, rfl⟩ := ByR.shape hN9
        obtain ⟨Fr, rr⟩ := hN9.get 1 rfl
        obtain ⟨ar, nr, rfl, -, -, -⟩ := RowA.shape rr
        have HU9 : Hid (In F0 w0 u9 (ByR (.slice ap pk.length np) pk :: RecR (.slice ar [putRec f23].length nr) [putRec f23] :: FA bt 2 20 [f23] :: ChL cb ⟨13, [⟨4, 9, 1⟩], List.replicate 13 4, 1⟩ vl vt (Cells gA (plC 0 0 0 (.slice none 0 0) (.slice none 0 0)) 27 :: Cells g3 #[.int .u32 1, .int .u32 2, .int .i64 6, .int .i64 3, .int .i64 4] 46 :: R))) := Lib.hid hN9
        clear hN9 rr
        refine hK.out _ _ ⟨cell_of (HU9.out.block 7 rfl) rfl, cell_of (HU9.out.block 7 rfl) rfl, cell_of (HU9.out.block 7 rfl) rfl, cell_of (HU9.out.block 7 rfl) rfl, cell_of (HU9.out.block 7 rfl) rfl⟩ (fun hS => ?_)
        clear hK K'
        skip
        refine e_last (i := 7) rfl (by kernel_rfl) (fun K' hK => ?_)
        have hF := HU9.out.setFull 6 rfl (xs := (plC 2 0 4 (.slice ap pk.length np) (.slice ar [putRec f23].length nr)).toList) (b := gA) (C := (plC 0 0 0 (.slice none 0 0) (.slice none 0 0))) (T := 27) rfl
        refine store_step (by rfl) 27 (.tmp 4) (.tmp 17) (by rfl) gA 0 (plC 2 0 4 (.slice ap pk.length np) (.slice ar [putRec f23].length nr)) (by rfl) (by rfl) (there_of (C := (plC 0 0 0 (.slice none 0 0) (.slice none 0 0))) (T := 27) (HU9.out.block 6 rfl)) (by kernel_rfl) (plC_all _ _ _ _ _ _ _ _ _) ?_
        refine hK.out _ _ ?_
        clear hK K' hS
        go_wp2_with fail
        go_meet
        exact ⟨gA, _, _, rfl, hF.sel2 (R1 := [_, _, _, _, _, _, _, _]) [6, 0, 1, 2, 3, 4, 5, 7] (by decide) rfl⟩
    · go_simp
      have hA10 := HD.out.cells (plC 0 0 0 (.slice none 0 0) (.slice none 0 0)) 27
      generalize VD.heap.size = gA at *
      generalize (VD.alloc (.cells (plC 0 0 0 (.slice none 0 0) (.slice none 0 0)) 27)) = u10 at *
      have HU10 : Hid (In F0 w0 u10 (FA bt 2 20 [] :: ChL cb ⟨13, [⟨4, 9, 1⟩], List.replicate 13 4, 1⟩ vl vt (Cells gA (plC 0 0 0 (.slice none 0 0) (.slice none 0 0)) 27 :: Cells g3 #[.int .u32 1, .int .u32 2, .int .i64 6, .int .i64 3, .int .i64 4] 46 :: R))) := Lib.hid (hA10.sel2 (R1 := [_, _, _, _, _, _]) [1, 2, 3, 4, 0, 5] (by decide) rfl)
      clear hA10
      refine hK.out _ _ ⟨cell_of (HU10.out.block 5 rfl) rfl, cell_of (HU10.out.block 5 rfl) rfl, cell_of (HU10.out.block 5 rfl) rfl, cell_of (HU10.out.block 5 rfl) rfl, cell_of (HU10.out.block 5 rfl) rfl⟩ (fun hS => ?_)
      clear hK K'
      try simp only [Act.put, List.setIfInBounds_toArray, List.set_cons_zero, List.set_cons_succ]
      refine e_pin (i := 0) rfl (by kernel_rfl) (fun K' hK => ?_)
      go_simp
      go_at_call 7
      refine (KC.out _ _ HU10.out).mono ?_
      rintro e u11 ⟨rfl, hN11⟩
      have HU11 : Hid (In F0 w0 u11 (FA bt 2 20 [] :: ChL cb ⟨13, [⟨4, 9, 1⟩], List.replicate 13 4, 1⟩ vl vt (Cells gA (plC 0 0 0 (.slice none 0 0) (.slice none 0 0)) 27 :: Cells g3 #[.int .u32 1, .int .u32 2, .int .i64 6, .int .i64 3, .int .i64 4] 46 :: R))) := Lib.hid hN11
      clear hN11
      refine hK.out _ _ ⟨cell_of (HU11.out.block 5 rfl) rfl, cell_of (HU11.out.block 5 rfl) rfl, cell_of (HU11.out.block 5 rfl) rfl, cell_of (HU11.out.block 5 rfl) rfl, cell_of (HU11.out.block 5 rfl) rfl⟩ (fun hS => ?_)
      clear hK K'
      try simp only [Act.put, List.setIfInBounds_toArray, List.set_cons_zero, List.set_cons_succ]
      refine e_pin (i := 4) rfl (by kernel_rfl) (fun K' hK => ?_)
      go_simp
      go_at_call 13
      refine (KM.out _ _ HU11.out).mono ?_
      rintro e u12 ⟨vM, rfl, hN12⟩
      obtain ⟨aM, nM, rfl⟩ := ByR.shape hN12
      have HU12 : Hid (In F0 w0 u12 (ByR (.slice aM m.length nM) m :: FA bt 2 20 [] :: ChL cb ⟨13, [⟨4, 9, 1⟩], List.replicate 13 4, 1⟩ vl vt (Cells gA (plC 0 0 0 (.slice none 0 0) (.slice none 0 0)) 27 :: Cells g3 #[.int .u32 1, .int .u32 2, .int .i64 6, .int .i64 3, .int .i64 4] 46 :: R))) := Lib.hid hN12
      clear hN12
      refine hK.out _ _ ⟨cell_of (HU12.out.block 6 rfl) rfl, cell_of (HU12.out.block 6 rfl) rfl, cell_of (HU12.out.block 6 rfl) rfl, cell_of (HU12.out.block 6 rfl) rfl, cell_of (HU12.out.block 6 rfl) rfl⟩ (fun hS => ?_)
      clear hK K'
      try simp only [Act.put, List.setIfInBounds_toArray, List.set_cons_zero, List.set_cons_succ]
      refine e_pin (i := 5) rfl (by kernel_rfl) (fun K' hK => ?_)
      go_simp
      go_at_call 6
      refine (KP.out _ _ _ _ HU12.out).mono ?_
      rintro e u13 ⟨vp, vr, rfl, hN13⟩
      obtain ⟨ap, np, rfl⟩ := ByR.shape hN13
      obtain ⟨Fr, rr⟩ := hN13.get 1 rfl
      obtain ⟨ar, nr, rfl, -, -, -⟩ := RowA.shape rr
      have HU13 : Hid (In F0 w0 u13 (ByR (.slice ap pk.length np) pk :: RecR (.slice ar [putRec f23].length nr) [putRec f23] :: FA bt 2 20 [f23] :: ChL cb ⟨13, [⟨4, 9, 1⟩], List.replicate 13 4, 1⟩ vl vt (Cells gA (plC 0 0 0 (.slice none 0 0) (.slice none 0 0)) 27 :: Cells g3 #[.int .u32 1, .int .u32 2, .int .i64 6, .int .i64 3, .int .i64 4] 46 :: R))) := Lib.hid hN13
      clear hN13 rr
      refine hK.out _ _ ⟨cell_of (HU13.out.block 7 rfl) rfl, cell_of (HU13.out.block 7 rfl) rfl, cell_of (HU13.out.block 7 rfl) rfl, cell_of (HU13.out.block 7 rfl) rfl, cell_of (HU13.out.block 7 rfl) rfl⟩ (fun hS => ?_)
      clear hK K'
      skip
      refine e_last (i := 7) rfl (by kernel_rfl) (fun K' hK => ?_)
      have hF := HU13.out.setFull 6 rfl (xs := (plC 2 0 4 (.slice ap pk.length np) (.slice ar [putRec f23].length nr)).toList) (b := gA) (C := (plC 0 0 0 (.slice none 0 0) (.slice none 0 0))) (T := 27) rfl
      refine store_step (by rfl) 27 (.tmp 4) (.tmp 17) (by rfl) gA 0 (plC 2 0 4 (.slice ap pk.length np) (.slice ar [putRec f23].length nr)) (by rfl) (by rfl) (there_of (C := (plC 0 0 0 (.slice none 0 0) (.slice none 0 0))) (T := 27) (HU13.out.block 6 rfl)) (by kernel_rfl) (plC_all _ _ _ _ _ _ _ _ _) ?_
      refine hK.out _ _ ?_
      clear hK K' hS
      go_wp2_with fail
      go_meet
      exact ⟨gA, _, _, rfl, hF.sel2 (R1 := [_, _, _, _, _, _, _, _]) [6, 0, 1, 2, 3, 4, 5, 7] (by decide) rfl⟩
  case rest =>
    obtain ⟨g4, vp, vr, rfl, ho⟩ := hcut
    obtain ⟨F8, r8⟩ := ho.get 2 rfl
    obtain ⟨ar, nr, rfl, -, -, -⟩ := RowA.shape r8
    have hb := ho.block 0 rfl
    have p0 : wc.cell? ⟨g4, 0, none⟩ = some (.int .i64 2) := cell_of hb rfl
    have p2 : wc.cell? ⟨g4, 2, none⟩ = some (.int .i64 4) := cell_of hb rfl
    have p4 : wc.cell? ⟨g4, 4, none⟩ = some (.slice ar 1 nr) := cell_of hb rfl
    have K5 := Lib.hid (o_flen ho 3 rfl)
    have G := Lib.hid (ho.sel2 (R1 := [_, _, _, _, _, _, _, _]) [] (by decide) rfl)
    clear ho hb r8 KM KP
    go_wp2_with fail
    refine K5.out.mono ?_
    rintro e w5 ⟨rfl, rfl⟩
    clear K5
    go_wp2_with fail
    go_ret
    exact ⟨rfl, G.out⟩
end
end Go.Proofs.Ytgapbecddgfkmaa
