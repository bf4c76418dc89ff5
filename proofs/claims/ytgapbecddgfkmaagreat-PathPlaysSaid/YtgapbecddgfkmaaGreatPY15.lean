/- Rows.PathPlaysSaid -/
import Derived.Test.YtgapbecddgfkmaaGreatPY14
import Derived.Deep.CutBlock
namespace Go.Proofs.YtgapbecddgfkmaaGreat
open Go.RowKit
set_option linter.unusedVariables false
set_option maxHeartbeats 64000000
set_option maxRecDepth 100000
section
variable {F0 : List Nat} {w0 w : World} {R : List Asrt} {b : List UInt8}
theorem Bytes.more {A : Option Addr} {c : Nat} (hb : Bytes F0 w0 R A c b) (X : Asrt) : Bytes F0 w0 (X :: R) A c b := ⟨fun W hW => hb.src W hW.drop, hb.nil, hb.ad, hb.cap, hb.room⟩
theorem ByR.bytes {A : Option Addr} {n c : Nat} (i : Nat) (hA : R[i]? = some (ByR (.slice A n c) b)) (h : In F0 w0 w R) : Bytes F0 w0 R A c b := by
  obtain ⟨F, r⟩ := h.get i hA
  obtain ⟨a', c', e, h1, h2, h3⟩ := RowA.shape r
  cases e
  refine ⟨fun W hW => ByR.src hW i hA, fun e => ?_, ?_, h1, h2⟩
  · obtain ⟨_, ⟨h4, h5⟩ | ⟨g, cc, cur, e2, _⟩⟩ := r.2
    · rw [Value.slice.injEq] at h4
      exact ⟨h4.2.2, List.length_eq_zero_iff.1 h4.2.1⟩
    · rw [Value.slice.injEq] at e2
      rw [e] at e2; cases e2.1
  · obtain ⟨_, ⟨h4, h5⟩ | ⟨g, cc, cur, e2, _⟩⟩ := r.2
    · rw [Value.slice.injEq] at h4
      exact Or.inl h4.1
    · rw [Value.slice.injEq] at e2
      exact Or.inr (Or.inr ⟨g, 0, e2.1⟩)
theorem two_store {W : World} {g1 g2 : Nat} {T1 T2 : TypeId} {C D C' D' : Array Value} (h : In F0 w0 W (Cells g1 C T1 :: Cells g2 D T2 :: R)) (hc : C'.size = C.size) (hd : D'.size = D.size) :
    W.there g1 0 C'.size ∧ (W.setCells g1 0 C'.toList).there g2 0 D'.size ∧ In F0 w0 ((W.setCells g1 0 C'.toList).setCells g2 0 D'.toList) (Cells g1 C' T1 :: Cells g2 D' T2 :: R) := by
  have h1 := h.setFull (xs := C'.toList) 0 rfl (by simpa using hc)
  have h2 := h1.setFull (xs := D'.toList) 1 rfl (by simpa using hd)
  refine ⟨by rw [hc]; exact there_of (h.block 0 rfl), by rw [hd]; exact there_of (h1.block 1 rfl), ?_⟩
  exact h2
abbrev tz : Array Value := #[.int .u32 0, .int .u32 0, .int .i64 0, .int .i64 0, .int .i64 0]
abbrev hz : Array Value := hC 0 0 0 0 0 0 0 0 0 0 0
theorem tz_all (a b c d e : Int) : (#[.int .u32 a, .int .u32 b, .int .i64 c, .int .i64 d, .int .i64 e] : Array Value).all (·.oneCell') = true := by simp [Value.oneCell']
def WithinPost (b : List UInt8) (F0 : List Nat) (w0 : World) (R : List Asrt) (e : Ending) (w' : World) : Prop :=
  ∃ v, e = .returned (.tuple #[.agg (encT (withinD b).1), .agg (encH (withinD b).2.1), v, .int .i64 (withinD b).2.2.2]) ∧ In F0 w0 w' (ByR v (withinD b).2.2.1 :: R)
theorem WithinPost.err {r : Int} (h : In F0 w0 w R) (e : withinD b = (zT0, zH, [], r)) : WithinPost b F0 w0 R (.returned (.tuple #[.agg tz, .agg hz, .slice none 0 0, .int .i64 r])) w :=
  ⟨.slice none 0 0, by rw [e]; rfl, by rw [e]; exact h.rownil _ _⟩
theorem parse_ok (h : (parseD b).2.2 = 0) : (parseD b).1 = readH b := by
  unfold parseD at h ⊢
  repeat' split at h
  all_goals first | (cases h; done) | (simp only at h; omega) | skip
  repeat' split
  all_goals first | rfl | (exfalso; omega)
theorem o_ptwithin (h : In F0 w0 w R) {A : Option Addr} {c : Nat} (hb : Bytes F0 w0 R A c b) (hm : b.length ≤ 100000000) :
    Calls Tryz.prog 76 #[.slice A b.length c] w (WithinPost b F0 w0 R) := by
  have h1 := (h.cells tz 24).cells hz 84
  simp only [World.size_alloc] at h1
  have K0 := o_ipparse h1 ((hb.more _).more _) hm
  have HW : withinD b = withinOf (parseD b) := rfl
  have HOK := parse_ok (b := b)
  unfold ParsePost at K0
  have hfl : (readH b).flags = ((p16 b 6 / 8192 : Nat) : Int) := rfl
  have hfl2 : p16 b 6 / 8192 < 8 := by have := p16_lt b 6; omega
  have hsp : (parseD b).2.1.length ≤ 100000000 := by
    unfold parseD
    repeat' split
    all_goals (simp; try omega)
  rcases hpd : parseD b with ⟨hd, rest, why⟩
  rw [hpd] at K0 HW HOK hsp
  have K := Lib.hid K0
  clear h h1 hb hm K0 hpd
  go_enter Tryz.func76, Tryz.ntmps76
  go_wp2_with fail
  generalize w.heap.size = gt at *
  refine K.out.mono ?_
  rintro e w1 ⟨v, rfl, ho⟩
  clear K
  by_cases hw : why = 0
  case neg =>
    have ho2 := ho.cells (encH hd) 84
    obtain ⟨z1, z2, z3⟩ := two_store (C' := tz) (D' := hz) (ho2.sel2 (R1 := [_, _, _, _]) (R2 := R) [3, 2] (by decide) rfl) rfl rfl
    have Z3 := Lib.hid z3
    clear z3
    have q := Lib.hid (WithinPost.err (r := why) Z3.out.drop.drop (by rw [HW]; unfold withinOf; exact if_pos hw))
    have hw' : (why != 0) = true := by rw [bne_iff_ne]; exact hw
    obtain ⟨a0, a1, a2, a3, a4, a5, a6, a7, a8, a9, a10⟩ := hd
    have ee : encH ⟨a0, a1, a2, a3, a4, a5, a6, a7, a8, a9, a10⟩ = hC a0 a1 a2 a3 a4 a5 a6 a7 a8 a9 a10 := rfl
    simp only [ee] at z1 z2 Z3 q
    rw [ee]
    clear ee ho ho2 HW HOK hw hsp
    go_wp2_with (first | (refine wpList_store_mid (op := ⟨none, Op.store 24 (.tmp 2) (.tmp 20), _, _, _, _⟩) (by rfl) 24 (.tmp 2) (.tmp 20) rfl gt 0 tz (by rfl) (by rfl) z1 (by kernel_rfl) (tz_all _ _ _ _ _) ?_) | (refine wpList_store_mid (op := ⟨none, Op.store 84 (.tmp 3) (.tmp 21), _, _, _, _⟩) (by rfl) 84 (.tmp 3) (.tmp 21) rfl (gt + 1) 0 hz (by rfl) (by rfl) z2 (by kernel_rfl) (hC_all _ _ _ _ _ _ _ _ _ _ _) ?_))
    exact bodyPost_ret (results_cell2_tmp2_row Tryz.results76 _ _ gt (gt + 1) 24 84 _ _ (0, 0) (0, 0) _ _ rfl (Z3.out.block 0 rfl) rfl (Z3.out.block 1 rfl) Tryz.underlying24 rfl (by kernel_rfl) Tryz.underlying84 rfl (by kernel_rfl)) rfl q.out
  have hd1 := HOK hw
  subst hw hd1
  have HW2 : Hid (withinD b = if (decide (((p16 b 6 / 8192 : Nat) : Int) % 2 = 0) && decide (((p16 b 6 % 8192 : Nat) : Int) = 0)) = false then (zT0, zH, [], 6)
      else if ((byN b 9 : Nat) : Int) = 6 then (if tcpOk rest = true then (⟨p32 b 12, p32 b 16, byN b 9, p16 rest 0, p16 rest 2⟩, readH b, rest, 0) else (zT0, zH, [], 9))
      else if ((byN b 9 : Nat) : Int) = 17 then (if udpOk rest = true then (⟨p32 b 12, p32 b 16, byN b 9, p16 rest 0, p16 rest 2⟩, readH b, rest, 0) else (zT0, zH, [], 9)) else (zT0, zH, [], 8)) :=
    Lib.hid (by rw [HW]; unfold withinOf; exact if_neg (show ¬ ((0 : Int) ≠ 0) by decide))
  have HE : Hid (encH (readH b) = hC ((byN b 0 % 16 : Nat) : Int) (byN b 1) (p16 b 2) (p16 b 4) ((p16 b 6 / 8192 : Nat) : Int) ((p16 b 6 % 8192 : Nat) : Int) (byN b 8) (byN b 9) (p16 b 10) (p32 b 12) (p32 b 16)) := Lib.hid rfl
  obtain ⟨va, vc, rfl⟩ := ByR.shape ho
  have ho2 := ho.cells (encH (readH b)) 84
  rw [HE.out] at ho2 ⊢
  clear HW HOK hfl ho
  generalize byN b 0 % 16 = n0 at *
  generalize byN b 1 = n1 at *
  generalize p16 b 2 = n2 at *
  generalize p16 b 4 = n4 at *
  generalize p16 b 6 / 8192 = nf at *
  generalize p16 b 6 % 8192 = n7 at *
  generalize byN b 8 = n8 at *
  generalize byN b 9 = n9 at *
  generalize p16 b 10 = n10 at *
  generalize p32 b 12 = n12 at *
  generalize p32 b 16 = n16 at *
  have w0' : ((0 : Int) != 0) = false := rfl
  go_upto_block 0 with fail
  generalize w1.heap.size = g6 at *
  generalize (w1.alloc (.cells (hC n0 n1 n2 n4 nf n7 n8 n9 n10 n12 n16) 84)) = W at *
  have HO := Lib.hid (show In F0 w0 W (Cells g6 (hC n0 n1 n2 n4 nf n7 n8 n9 n10 n12 n16) 84 :: ByR (.slice va rest.length vc) rest :: Cells (gt + 1) hz 84 :: Cells gt tz 24 :: R) from ho2)
  have KW : Hid (Calls Tryz.prog 107 #[.agg (hC n0 n1 n2 n4 nf n7 n8 n9 n10 n12 n16)] W fun e w' => e = .returned (.bool (decide ((nf : Int) % 2 = 0) && decide ((n7 : Int) = 0))) ∧ In F0 w0 w' (Cells g6 (hC n0 n1 n2 n4 nf n7 n8 n9 n10 n12 n16) 84 :: ByR (.slice va rest.length vc) rest :: Cells (gt + 1) hz 84 :: Cells gt tz 24 :: R)) := Lib.hid (o_ipwhole ho2 n0 n1 n2 n4 n8 n9 n10 n12 n16 n7 hfl2)
  have Q := ho2.block 0 rfl
  have i0 : W.cell? ⟨g6, 0, none⟩ = some (.int .i64 (n0 : Nat)) := cell_of Q rfl
  have i1 : W.cell? ⟨g6, 1, none⟩ = some (.int .i64 (n1 : Nat)) := cell_of Q rfl
  have i2 : W.cell? ⟨g6, 2, none⟩ = some (.int .i64 (n2 : Nat)) := cell_of Q rfl
  have i3 : W.cell? ⟨g6, 3, none⟩ = some (.int .i64 (n4 : Nat)) := cell_of Q rfl
  have i4 : W.cell? ⟨g6, 4, none⟩ = some (.int .i64 (nf : Nat)) := cell_of Q rfl
  have i5 : W.cell? ⟨g6, 5, none⟩ = some (.int .i64 (n7 : Nat)) := cell_of Q rfl
  have i6 : W.cell? ⟨g6, 6, none⟩ = some (.int .i64 (n8 : Nat)) := cell_of Q rfl
  have i7 : W.cell? ⟨g6, 7, none⟩ = some (.int .i64 (n9 : Nat)) := cell_of Q rfl
  have i8 : W.cell? ⟨g6, 8, none⟩ = some (.int .i64 (n10 : Nat)) := cell_of Q rfl
  have i9 : W.cell? ⟨g6, 9, none⟩ = some (.int .u32 (n12 : Nat)) := cell_of Q rfl
  have i10 : W.cell? ⟨g6, 10, none⟩ = some (.int .u32 (n16 : Nat)) := cell_of Q rfl
  clear Q ho2
  go_cut [9] (fun v9 wx => ∃ ok : Bool, v9 = .bool ok ∧ In F0 w0 wx (Cells g6 (hC n0 n1 n2 n4 nf n7 n8 n9 n10 n12 n16) 84 :: ByR (.slice va rest.length vc) rest :: Cells (gt + 1) hz 84 :: Cells gt tz 24 :: R) ∧ (ok = true → 8 ≤ rest.length) ∧ withinD b = if ok = true then (⟨n12, n16, n9, p16 rest 0, p16 rest 2⟩, readH b, rest, 0) else (zT0, zH, [], 9))
  case first =>
    cases hwh : (decide ((nf : Int) % 2 = 0) && decide ((n7 : Int) = 0)) with
    | false =>
      rw [hwh] at KW
      go_wp2_with fail
      refine KW.out.mono ?_
      rintro e w2 ⟨rfl, ho⟩
      obtain ⟨z1, z2, z3⟩ := two_store (C' := tz) (D' := hz) (ho.sel2 (R1 := [_, _, _, _]) (R2 := R) [3, 2] (by decide) rfl) rfl rfl
      have Z3 := Lib.hid z3
      clear z3
      have q := Lib.hid (WithinPost.err (r := 6) Z3.out.drop.drop (by rw [HW2.out, hwh]; exact if_pos rfl))
      clear ho KW HW2 HE HO i0 i1 i2 i3 i4 i5 i6 i7 i8 i9 i10
      go_wp2_with (first | (refine wpList_store_mid (op := ⟨none, Op.store 24 (.tmp 2) (.tmp 29), _, _, _, _⟩) (by rfl) 24 (.tmp 2) (.tmp 29) rfl gt 0 tz (by rfl) (by rfl) z1 (by kernel_rfl) (tz_all _ _ _ _ _) ?_) | (refine wpList_store_mid (op := ⟨none, Op.store 84 (.tmp 3) (.tmp 30), _, _, _, _⟩) (by rfl) 84 (.tmp 3) (.tmp 30) rfl (gt + 1) 0 hz (by rfl) (by rfl) z2 (by kernel_rfl) (hC_all _ _ _ _ _ _ _ _ _ _ _) ?_))
      exact bodyPost_ret (results_cell2_tmp2_row Tryz.results76 _ _ gt (gt + 1) 24 84 _ _ (0, 0) (0, 0) _ _ rfl (Z3.out.block 0 rfl) rfl (Z3.out.block 1 rfl) Tryz.underlying24 rfl (by kernel_rfl) Tryz.underlying84 rfl (by kernel_rfl)) rfl q.out
    | true =>
      rw [hwh] at KW
      by_cases h6 : n9 = 6
      · have h6' : ((n9 : Int) == 6) = true := by rw [h6]; rfl
        have HC := Lib.hid (show withinD b = if tcpOk rest = true then (⟨n12, n16, n9, p16 rest 0, p16 rest 2⟩, readH b, rest, 0) else (zT0, zH, [], 9) by rw [HW2.out, hwh, if_neg (by decide), if_pos (by omega)])
        have HL : Hid (tcpOk rest = true → 8 ≤ rest.length) := Lib.hid (fun h => by unfold tcpOk at h; simp at h; omega)
        have KT : Hid (∀ W', In F0 w0 W' (Cells g6 (hC n0 n1 n2 n4 nf n7 n8 n9 n10 n12 n16) 84 :: ByR (.slice va rest.length vc) rest :: Cells (gt + 1) hz 84 :: Cells gt tz 24 :: R) → Calls Tryz.prog 108 #[.slice va rest.length vc] W' fun e w' => e = .returned (.bool (tcpOk rest)) ∧ w' = W') := Lib.hid (fun W' hW' => pt_tcp (ByR.src hW' 1 rfl))
        clear HW2 hwh h6 HE HO
        go_wp2_with fail
        refine KW.out.mono ?_
        rintro e w2 ⟨rfl, ho⟩
        have KT2 := Lib.hid (KT.out w2 ho)
        have c7 : w2.cell? ⟨g6, 7, none⟩ = some (.int .i64 (n9 : Nat)) := cell_of (ho.block 0 rfl) rfl
        have HO := Lib.hid ho
        clear ho KT KW i0 i1 i2 i3 i4 i5 i6 i7 i8 i9 i10
        go_wp2_with fail
        refine KT2.out.mono ?_
        rintro e w3 ⟨rfl, rfl⟩
        clear KT2 c7
        go_wp2_with fail
        go_meet
        exact ⟨_, rfl, HO.out, HL.out, HC.out⟩
      have h6' : ((n9 : Int) == 6) = false := by rw [beq_eq_false_iff_ne]; omega
      by_cases h17 : n9 = 17
      · have h17' : ((n9 : Int) == 17) = true := by rw [h17]; rfl
        have HC := Lib.hid (show withinD b = if udpOk rest = true then (⟨n12, n16, n9, p16 rest 0, p16 rest 2⟩, readH b, rest, 0) else (zT0, zH, [], 9) by rw [HW2.out, hwh, if_neg (by decide), if_neg (by omega), if_pos (by omega)])
        have HL : Hid (udpOk rest = true → 8 ≤ rest.length) := Lib.hid (fun h => by unfold udpOk at h; simp at h; omega)
        have HSP := Lib.hid hsp
        have KT : Hid (∀ W', In F0 w0 W' (Cells g6 (hC n0 n1 n2 n4 nf n7 n8 n9 n10 n12 n16) 84 :: ByR (.slice va rest.length vc) rest :: Cells (gt + 1) hz 84 :: Cells gt tz 24 :: R) → Calls Tryz.prog 109 #[.slice va rest.length vc] W' fun e w' => e = .returned (.bool (udpOk rest)) ∧ In F0 w0 w' (Cells g6 (hC n0 n1 n2 n4 nf n7 n8 n9 n10 n12 n16) 84 :: ByR (.slice va rest.length vc) rest :: Cells (gt + 1) hz 84 :: Cells gt tz 24 :: R)) := Lib.hid (fun W' hW' => o_ptudp hW' (ByR.bytes 1 rfl hW') HSP.out)
        clear HW2 hwh h17 h6 HE HO hsp
        go_wp2_with fail
        refine KW.out.mono ?_
        rintro e w2 ⟨rfl, ho⟩
        have KT2 := Lib.hid (KT.out w2 ho)
        have c7 : w2.cell? ⟨g6, 7, none⟩ = some (.int .i64 (n9 : Nat)) := cell_of (ho.block 0 rfl) rfl
        clear ho KT KW i0 i1 i2 i3 i4 i5 i6 i7 i8 i9 i10
        go_wp2_with fail
        refine KT2.out.mono ?_
        rintro e w3 ⟨rfl, ho⟩
        have HO := Lib.hid ho
        clear KT2 c7 ho
        go_wp2_with fail
        go_meet
        exact ⟨_, rfl, HO.out, HL.out, HC.out⟩
      have h17' : ((n9 : Int) == 17) = false := by rw [beq_eq_false_iff_ne]; omega
      go_wp2_with fail
      refine KW.out.mono ?_
      rintro e w2 ⟨rfl, ho⟩
      have c7 : w2.cell? ⟨g6, 7, none⟩ = some (.int .i64 (n9 : Nat)) := cell_of (ho.block 0 rfl) rfl
      obtain ⟨z1, z2, z3⟩ := two_store (C' := tz) (D' := hz) (ho.sel2 (R1 := [_, _, _, _]) (R2 := R) [3, 2] (by decide) rfl) rfl rfl
      have Z3 := Lib.hid z3
      clear z3
      have q := Lib.hid (WithinPost.err (r := 8) Z3.out.drop.drop (by rw [HW2.out, hwh, if_neg (by decide), if_neg (by omega), if_neg (by omega)]))
      clear ho KW HW2 HE HO i0 i1 i2 i3 i4 i5 i6 i7 i8 i9 i10 h6 h17
      go_wp2_with (first | (refine wpList_store_mid (op := ⟨none, Op.store 24 (.tmp 2) (.tmp 23), _, _, _, _⟩) (by rfl) 24 (.tmp 2) (.tmp 23) rfl gt 0 tz (by rfl) (by rfl) z1 (by kernel_rfl) (tz_all _ _ _ _ _) ?_) | (refine wpList_store_mid (op := ⟨none, Op.store 84 (.tmp 3) (.tmp 24), _, _, _, _⟩) (by rfl) 84 (.tmp 3) (.tmp 24) rfl (gt + 1) 0 hz (by rfl) (by rfl) z2 (by kernel_rfl) (hC_all _ _ _ _ _ _ _ _ _ _ _) ?_))
      exact bodyPost_ret (results_cell2_tmp2_row Tryz.results76 _ _ gt (gt + 1) 24 84 _ _ (0, 0) (0, 0) _ _ rfl (Z3.out.block 0 rfl) rfl (Z3.out.block 1 rfl) Tryz.underlying24 rfl (by kernel_rfl) Tryz.underlying84 rfl (by kernel_rfl)) rfl q.out
  case rest =>
  obtain ⟨ok, rfl, ho, hlen, hwd⟩ := hcut
  clear KW i0 i1 i2 i3 i4 i5 i6 i7 i8 i9 i10 HW2 HO
  cases ok with
  | false =>
    obtain ⟨z1, z2, z3⟩ := two_store (C' := tz) (D' := hz) (ho.sel2 (R1 := [_, _, _, _]) (R2 := R) [3, 2] (by decide) rfl) rfl rfl
    have Z3 := Lib.hid z3
    clear z3
    have q := Lib.hid (WithinPost.err (r := 9) Z3.out.drop.drop (by rw [hwd]; rfl))
    clear ho HE hlen hwd
    go_wp2_with (first | (refine wpList_store_mid (op := ⟨none, Op.store 24 (.tmp 2) (.tmp 45), _, _, _, _⟩) (by rfl) 24 (.tmp 2) (.tmp 45) rfl gt 0 tz (by rfl) (by rfl) z1 (by kernel_rfl) (tz_all _ _ _ _ _) ?_) | (refine wpList_store_mid (op := ⟨none, Op.store 84 (.tmp 3) (.tmp 46), _, _, _, _⟩) (by rfl) 84 (.tmp 3) (.tmp 46) rfl (gt + 1) 0 hz (by rfl) (by rfl) z2 (by kernel_rfl) (hC_all _ _ _ _ _ _ _ _ _ _ _) ?_))
    exact bodyPost_ret (results_cell2_tmp2_row Tryz.results76 _ _ gt (gt + 1) 24 84 _ _ (0, 0) (0, 0) _ _ rfl (Z3.out.block 0 rfl) rfl (Z3.out.block 1 rfl) Tryz.underlying24 rfl (by kernel_rfl) Tryz.underlying84 rfl (by kernel_rfl)) rfl q.out
  | true =>
    have HWD := Lib.hid (show withinD b = (⟨n12, n16, n9, p16 rest 0, p16 rest 2⟩, readH b, rest, 0) by rw [hwd]; rfl)
    have HL := Lib.hid (hlen rfl)
    have hbb := ByR.bytes 1 rfl ho
    have K0 : Hid (Calls Tryz.prog 110 #[.slice va rest.length vc] wc fun e w' => ∃ br, e = .returned (.pointer (some ⟨br, 0, none⟩)) ∧ In F0 w0 w' (RdA br (rest.drop 0) 0 :: Cells g6 (hC n0 n1 n2 n4 nf n7 n8 n9 n10 n12 n16) 84 :: ByR (.slice va rest.length vc) rest :: Cells (gt + 1) hz 84 :: Cells gt tz 24 :: R)) := Lib.hid (o_rnew ho hbb.nil (hbb.src _ ho) hsp)
    clear ho hbb hwd hlen w0'
    go_wp2_with fail
    refine K0.out.mono ?_
    rintro e w2 ⟨br, rfl, ho⟩
    have c7 : w2.cell? ⟨g6, 7, none⟩ = some (.int .i64 (n9 : Nat)) := cell_of (ho.block 1 rfl) rfl
    have c9 : w2.cell? ⟨g6, 9, none⟩ = some (.int .u32 (n12 : Nat)) := cell_of (ho.block 1 rfl) rfl
    have c10 : w2.cell? ⟨g6, 10, none⟩ = some (.int .u32 (n16 : Nat)) := cell_of (ho.block 1 rfl) rfl
    have ho2 := ho.cells #[.int .u32 (n12 : Nat), .int .u32 (n16 : Nat), .int .i64 (n9 : Nat), .int .i64 0, .int .i64 0] 24
    have K1 := Lib.hid (o_rd16 (k := 0) ho2 1 rfl (by have := HL.out; omega))
    clear ho ho2 K0
    go_upto_region 16 with fail
    generalize w2.heap.size = g11 at *
    go_wp2_with fail
    refine K1.out.mono ?_
    rintro e w3 ⟨rfl, ho0⟩
    have ho : In F0 w0 w3 (Cells g11 #[.int .u32 (n12 : Nat), .int .u32 (n16 : Nat), .int .i64 (n9 : Nat), .int .i64 0, .int .i64 0] 24 :: RdA br (rest.drop 2) 0 :: Cells g6 (hC n0 n1 n2 n4 nf n7 n8 n9 n10 n12 n16) 84 :: ByR (.slice va rest.length vc) rest :: Cells (gt + 1) hz 84 :: Cells gt tz 24 :: R) := ho0
    have c3 : w3.cell? ⟨g11, 3, none⟩ = some (.int .i64 0) := cell_of (ho.block 0 rfl) rfl
    have f3 : w3.frozen? ⟨g11, 3, none⟩ = false := free_of (ho.block 0 rfl)
    have hp := ho.put 0 rfl 3 (.int .i64 (p16 rest 0))
    have hp' : In F0 w0 (w3.setCell ⟨g11, 3, none⟩ (.int .i64 (p16 rest 0))) (Cells g11 #[.int .u32 (n12 : Nat), .int .u32 (n16 : Nat), .int .i64 (n9 : Nat), .int .i64 (p16 rest 0), .int .i64 0] 24 :: RdA br (rest.drop 2) 0 :: Cells g6 (hC n0 n1 n2 n4 nf n7 n8 n9 n10 n12 n16) 84 :: ByR (.slice va rest.length vc) rest :: Cells (gt + 1) hz 84 :: Cells gt tz 24 :: R) := hp
    have K2 := Lib.hid (o_rd16 (k := 2) hp' 1 rfl (by have := HL.out; omega))
    clear ho ho0 hp hp' K1
    go_wp2_with fail
    refine K2.out.mono ?_
    rintro e w4 ⟨rfl, ho0⟩
    have ho : In F0 w0 w4 (Cells g11 #[.int .u32 (n12 : Nat), .int .u32 (n16 : Nat), .int .i64 (n9 : Nat), .int .i64 (p16 rest 0), .int .i64 0] 24 :: RdA br (rest.drop 4) 0 :: Cells g6 (hC n0 n1 n2 n4 nf n7 n8 n9 n10 n12 n16) 84 :: ByR (.slice va rest.length vc) rest :: Cells (gt + 1) hz 84 :: Cells gt tz 24 :: R) := ho0
    have c4 : w4.cell? ⟨g11, 4, none⟩ = some (.int .i64 0) := cell_of (ho.block 0 rfl) rfl
    have f4 : w4.frozen? ⟨g11, 4, none⟩ = false := free_of (ho.block 0 rfl)
    have hp := ho.put 0 rfl 4 (.int .i64 (p16 rest 2))
    have hp' : In F0 w0 (w4.setCell ⟨g11, 4, none⟩ (.int .i64 (p16 rest 2))) (Cells g11 #[.int .u32 (n12 : Nat), .int .u32 (n16 : Nat), .int .i64 (n9 : Nat), .int .i64 (p16 rest 0), .int .i64 (p16 rest 2)] 24 :: RdA br (rest.drop 4) 0 :: Cells g6 (hC n0 n1 n2 n4 nf n7 n8 n9 n10 n12 n16) 84 :: ByR (.slice va rest.length vc) rest :: Cells (gt + 1) hz 84 :: Cells gt tz 24 :: R) := hp
    have HO := Lib.hid hp'
    clear ho ho0 hp hp' K2 c3 f3 c7 c9 c10
    go_upto_region 18 with fail
    generalize ((p16 rest 0 : Nat) : Int) = s0 at *
    generalize ((p16 rest 2 : Nat) : Int) = s2 at *
    generalize (w4.setCell ⟨g11, 4, none⟩ (.int .i64 s2)) = V at *
    have hd := HO.out.drewN 1
    have h1 := hd.setFull 5 rfl (xs := [.int .u32 (n12 : Nat), .int .u32 (n16 : Nat), .int .i64 (n9 : Nat), .int .i64 s0, .int .i64 s2]) (b := gt) (C := tz) (T := 24) rfl
    have h2 := h1.setFull 4 rfl (xs := [.int .i64 (n0 : Nat), .int .i64 (n1 : Nat), .int .i64 (n2 : Nat), .int .i64 (n4 : Nat), .int .i64 (nf : Nat), .int .i64 (n7 : Nat), .int .i64 (n8 : Nat), .int .i64 (n9 : Nat), .int .i64 (n10 : Nat), .int .u32 (n12 : Nat), .int .u32 (n16 : Nat)]) (b := gt + 1) (C := hz) (T := 84) rfl
    have hS : V.drew.cell? ⟨g11, 0, none⟩ = some (.int .u32 (n12 : Nat)) ∧ V.drew.cell? ⟨g11, 1, none⟩ = some (.int .u32 (n16 : Nat)) ∧ V.drew.cell? ⟨g11, 2, none⟩ = some (.int .i64 (n9 : Nat)) ∧ V.drew.cell? ⟨g11, 3, none⟩ = some (.int .i64 s0) ∧ V.drew.cell? ⟨g11, 4, none⟩ = some (.int .i64 s2) ∧ V.drew.cell? ⟨g6, 0, none⟩ = some (.int .i64 (n0 : Nat)) ∧ V.drew.cell? ⟨g6, 1, none⟩ = some (.int .i64 (n1 : Nat)) ∧ V.drew.cell? ⟨g6, 2, none⟩ = some (.int .i64 (n2 : Nat)) ∧ V.drew.cell? ⟨g6, 3, none⟩ = some (.int .i64 (n4 : Nat)) ∧ V.drew.cell? ⟨g6, 4, none⟩ = some (.int .i64 (nf : Nat)) ∧ V.drew.cell? ⟨g6, 5, none⟩ = some (.int .i64 (n7 : Nat)) ∧ V.drew.cell? ⟨g6, 6, none⟩ = some (.int .i64 (n8 : Nat)) ∧ V.drew.cell? ⟨g6, 7, none⟩ = some (.int .i64 (n9 : Nat)) ∧ V.drew.cell? ⟨g6, 8, none⟩ = some (.int .i64 (n10 : Nat)) ∧ V.drew.cell? ⟨g6, 9, none⟩ = some (.int .u32 (n12 : Nat)) ∧ V.drew.cell? ⟨g6, 10, none⟩ = some (.int .u32 (n16 : Nat)) ∧ V.drew.there gt 0 5 ∧ V.drew.there (gt + 1) 0 11 := ⟨cell_of (hd.block 0 rfl) rfl, cell_of (hd.block 0 rfl) rfl, cell_of (hd.block 0 rfl) rfl, cell_of (hd.block 0 rfl) rfl, cell_of (hd.block 0 rfl) rfl, cell_of (hd.block 2 rfl) rfl, cell_of (hd.block 2 rfl) rfl, cell_of (hd.block 2 rfl) rfl, cell_of (hd.block 2 rfl) rfl, cell_of (hd.block 2 rfl) rfl, cell_of (hd.block 2 rfl) rfl, cell_of (hd.block 2 rfl) rfl, cell_of (hd.block 2 rfl) rfl, cell_of (hd.block 2 rfl) rfl, cell_of (hd.block 2 rfl) rfl, cell_of (hd.block 2 rfl) rfl, there_of (hd.block 5 rfl), there_of (hd.block 4 rfl)⟩
    have HS1 : Hid ((V.drew.setCells gt 0 [.int .u32 (n12 : Nat), .int .u32 (n16 : Nat), .int .i64 (n9 : Nat), .int .i64 s0, .int .i64 s2]).cell? ⟨g11, 0, none⟩ = some (.int .u32 (n12 : Nat)) ∧ (V.drew.setCells gt 0 [.int .u32 (n12 : Nat), .int .u32 (n16 : Nat), .int .i64 (n9 : Nat), .int .i64 s0, .int .i64 s2]).cell? ⟨g11, 1, none⟩ = some (.int .u32 (n16 : Nat)) ∧ (V.drew.setCells gt 0 [.int .u32 (n12 : Nat), .int .u32 (n16 : Nat), .int .i64 (n9 : Nat), .int .i64 s0, .int .i64 s2]).cell? ⟨g11, 2, none⟩ = some (.int .i64 (n9 : Nat)) ∧ (V.drew.setCells gt 0 [.int .u32 (n12 : Nat), .int .u32 (n16 : Nat), .int .i64 (n9 : Nat), .int .i64 s0, .int .i64 s2]).cell? ⟨g11, 3, none⟩ = some (.int .i64 s0) ∧ (V.drew.setCells gt 0 [.int .u32 (n12 : Nat), .int .u32 (n16 : Nat), .int .i64 (n9 : Nat), .int .i64 s0, .int .i64 s2]).cell? ⟨g11, 4, none⟩ = some (.int .i64 s2) ∧ (V.drew.setCells gt 0 [.int .u32 (n12 : Nat), .int .u32 (n16 : Nat), .int .i64 (n9 : Nat), .int .i64 s0, .int .i64 s2]).cell? ⟨g6, 0, none⟩ = some (.int .i64 (n0 : Nat)) ∧ (V.drew.setCells gt 0 [.int .u32 (n12 : Nat), .int .u32 (n16 : Nat), .int .i64 (n9 : Nat), .int .i64 s0, .int .i64 s2]).cell? ⟨g6, 1, none⟩ = some (.int .i64 (n1 : Nat)) ∧ (V.drew.setCells gt 0 [.int .u32 (n12 : Nat), .int .u32 (n16 : Nat), .int .i64 (n9 : Nat), .int .i64 s0, .int .i64 s2]).cell? ⟨g6, 2, none⟩ = some (.int .i64 (n2 : Nat)) ∧ (V.drew.setCells gt 0 [.int .u32 (n12 : Nat), .int .u32 (n16 : Nat), .int .i64 (n9 : Nat), .int .i64 s0, .int .i64 s2]).cell? ⟨g6, 3, none⟩ = some (.int .i64 (n4 : Nat)) ∧ (V.drew.setCells gt 0 [.int .u32 (n12 : Nat), .int .u32 (n16 : Nat), .int .i64 (n9 : Nat), .int .i64 s0, .int .i64 s2]).cell? ⟨g6, 4, none⟩ = some (.int .i64 (nf : Nat)) ∧ (V.drew.setCells gt 0 [.int .u32 (n12 : Nat), .int .u32 (n16 : Nat), .int .i64 (n9 : Nat), .int .i64 s0, .int .i64 s2]).cell? ⟨g6, 5, none⟩ = some (.int .i64 (n7 : Nat)) ∧ (V.drew.setCells gt 0 [.int .u32 (n12 : Nat), .int .u32 (n16 : Nat), .int .i64 (n9 : Nat), .int .i64 s0, .int .i64 s2]).cell? ⟨g6, 6, none⟩ = some (.int .i64 (n8 : Nat)) ∧ (V.drew.setCells gt 0 [.int .u32 (n12 : Nat), .int .u32 (n16 : Nat), .int .i64 (n9 : Nat), .int .i64 s0, .int .i64 s2]).cell? ⟨g6, 7, none⟩ = some (.int .i64 (n9 : Nat)) ∧ (V.drew.setCells gt 0 [.int .u32 (n12 : Nat), .int .u32 (n16 : Nat), .int .i64 (n9 : Nat), .int .i64 s0, .int .i64 s2]).cell? ⟨g6, 8, none⟩ = some (.int .i64 (n10 : Nat)) ∧ (V.drew.setCells gt 0 [.int .u32 (n12 : Nat), .int .u32 (n16 : Nat), .int .i64 (n9 : Nat), .int .i64 s0, .int .i64 s2]).cell? ⟨g6, 9, none⟩ = some (.int .u32 (n12 : Nat)) ∧ (V.drew.setCells gt 0 [.int .u32 (n12 : Nat), .int .u32 (n16 : Nat), .int .i64 (n9 : Nat), .int .i64 s0, .int .i64 s2]).cell? ⟨g6, 10, none⟩ = some (.int .u32 (n16 : Nat)) ∧ (V.drew.setCells gt 0 [.int .u32 (n12 : Nat), .int .u32 (n16 : Nat), .int .i64 (n9 : Nat), .int .i64 s0, .int .i64 s2]).there gt 0 5 ∧ (V.drew.setCells gt 0 [.int .u32 (n12 : Nat), .int .u32 (n16 : Nat), .int .i64 (n9 : Nat), .int .i64 s0, .int .i64 s2]).there (gt + 1) 0 11) := Lib.hid ⟨cell_of (h1.block 0 rfl) rfl, cell_of (h1.block 0 rfl) rfl, cell_of (h1.block 0 rfl) rfl, cell_of (h1.block 0 rfl) rfl, cell_of (h1.block 0 rfl) rfl, cell_of (h1.block 2 rfl) rfl, cell_of (h1.block 2 rfl) rfl, cell_of (h1.block 2 rfl) rfl, cell_of (h1.block 2 rfl) rfl, cell_of (h1.block 2 rfl) rfl, cell_of (h1.block 2 rfl) rfl, cell_of (h1.block 2 rfl) rfl, cell_of (h1.block 2 rfl) rfl, cell_of (h1.block 2 rfl) rfl, cell_of (h1.block 2 rfl) rfl, cell_of (h1.block 2 rfl) rfl, there_of (h1.block 5 rfl), there_of (h1.block 4 rfl)⟩
    have HS2 : Hid (((V.drew.setCells gt 0 [.int .u32 (n12 : Nat), .int .u32 (n16 : Nat), .int .i64 (n9 : Nat), .int .i64 s0, .int .i64 s2]).setCells (gt + 1) 0 [.int .i64 (n0 : Nat), .int .i64 (n1 : Nat), .int .i64 (n2 : Nat), .int .i64 (n4 : Nat), .int .i64 (nf : Nat), .int .i64 (n7 : Nat), .int .i64 (n8 : Nat), .int .i64 (n9 : Nat), .int .i64 (n10 : Nat), .int .u32 (n12 : Nat), .int .u32 (n16 : Nat)]).cell? ⟨g11, 0, none⟩ = some (.int .u32 (n12 : Nat)) ∧ ((V.drew.setCells gt 0 [.int .u32 (n12 : Nat), .int .u32 (n16 : Nat), .int .i64 (n9 : Nat), .int .i64 s0, .int .i64 s2]).setCells (gt + 1) 0 [.int .i64 (n0 : Nat), .int .i64 (n1 : Nat), .int .i64 (n2 : Nat), .int .i64 (n4 : Nat), .int .i64 (nf : Nat), .int .i64 (n7 : Nat), .int .i64 (n8 : Nat), .int .i64 (n9 : Nat), .int .i64 (n10 : Nat), .int .u32 (n12 : Nat), .int .u32 (n16 : Nat)]).cell? ⟨g11, 1, none⟩ = some (.int .u32 (n16 : Nat)) ∧ ((V.drew.setCells gt 0 [.int .u32 (n12 : Nat), .int .u32 (n16 : Nat), .int .i64 (n9 : Nat), .int .i64 s0, .int .i64 s2]).setCells (gt + 1) 0 [.int .i64 (n0 : Nat), .int .i64 (n1 : Nat), .int .i64 (n2 : Nat), .int .i64 (n4 : Nat), .int .i64 (nf : Nat), .int .i64 (n7 : Nat), .int .i64 (n8 : Nat), .int .i64 (n9 : Nat), .int .i64 (n10 : Nat), .int .u32 (n12 : Nat), .int .u32 (n16 : Nat)]).cell? ⟨g11, 2, none⟩ = some (.int .i64 (n9 : Nat)) ∧ ((V.drew.setCells gt 0 [.int .u32 (n12 : Nat), .int .u32 (n16 : Nat), .int .i64 (n9 : Nat), .int .i64 s0, .int .i64 s2]).setCells (gt + 1) 0 [.int .i64 (n0 : Nat), .int .i64 (n1 : Nat), .int .i64 (n2 : Nat), .int .i64 (n4 : Nat), .int .i64 (nf : Nat), .int .i64 (n7 : Nat), .int .i64 (n8 : Nat), .int .i64 (n9 : Nat), .int .i64 (n10 : Nat), .int .u32 (n12 : Nat), .int .u32 (n16 : Nat)]).cell? ⟨g11, 3, none⟩ = some (.int .i64 s0) ∧ ((V.drew.setCells gt 0 [.int .u32 (n12 : Nat), .int .u32 (n16 : Nat), .int .i64 (n9 : Nat), .int .i64 s0, .int .i64 s2]).setCells (gt + 1) 0 [.int .i64 (n0 : Nat), .int .i64 (n1 : Nat), .int .i64 (n2 : Nat), .int .i64 (n4 : Nat), .int .i64 (nf : Nat), .int .i64 (n7 : Nat), .int .i64 (n8 : Nat), .int .i64 (n9 : Nat), .int .i64 (n10 : Nat), .int .u32 (n12 : Nat), .int .u32 (n16 : Nat)]).cell? ⟨g11, 4, none⟩ = some (.int .i64 s2) ∧ ((V.drew.setCells gt 0 [.int .u32 (n12 : Nat), .int .u32 (n16 : Nat), .int .i64 (n9 : Nat), .int .i64 s0, .int .i64 s2]).setCells (gt + 1) 0 [.int .i64 (n0 : Nat), .int .i64 (n1 : Nat), .int .i64 (n2 : Nat), .int .i64 (n4 : Nat), .int .i64 (nf : Nat), .int .i64 (n7 : Nat), .int .i64 (n8 : Nat), .int .i64 (n9 : Nat), .int .i64 (n10 : Nat), .int .u32 (n12 : Nat), .int .u32 (n16 : Nat)]).cell? ⟨g6, 0, none⟩ = some (.int .i64 (n0 : Nat)) ∧ ((V.drew.setCells gt 0 [.int .u32 (n12 : Nat), .int .u32 (n16 : Nat), .int .i64 (n9 : Nat), .int .i64 s0, .int .i64 s2]).setCells (gt + 1) 0 [.int .i64 (n0 : Nat), .int .i64 (n1 : Nat), .int .i64 (n2 : Nat), .int .i64 (n4 : Nat), .int .i64 (nf : Nat), .int .i64 (n7 : Nat), .int .i64 (n8 : Nat), .int .i64 (n9 : Nat), .int .i64 (n10 : Nat), .int .u32 (n12 : Nat), .int .u32 (n16 : Nat)]).cell? ⟨g6, 1, none⟩ = some (.int .i64 (n1 : Nat)) ∧ ((V.drew.setCells gt 0 [.int .u32 (n12 : Nat), .int .u32 (n16 : Nat), .int .i64 (n9 : Nat), .int .i64 s0, .int .i64 s2]).setCells (gt + 1) 0 [.int .i64 (n0 : Nat), .int .i64 (n1 : Nat), .int .i64 (n2 : Nat), .int .i64 (n4 : Nat), .int .i64 (nf : Nat), .int .i64 (n7 : Nat), .int .i64 (n8 : Nat), .int .i64 (n9 : Nat), .int .i64 (n10 : Nat), .int .u32 (n12 : Nat), .int .u32 (n16 : Nat)]).cell? ⟨g6, 2, none⟩ = some (.int .i64 (n2 : Nat)) ∧ ((V.drew.setCells gt 0 [.int .u32 (n12 : Nat), .int .u32 (n16 : Nat), .int .i64 (n9 : Nat), .int .i64 s0, .int .i64 s2]).setCells (gt + 1) 0 [.int .i64 (n0 : Nat), .int .i64 (n1 : Nat), .int .i64 (n2 : Nat), .int .i64 (n4 : Nat), .int .i64 (nf : Nat), .int .i64 (n7 : Nat), .int .i64 (n8 : Nat), .int .i64 (n9 : Nat), .int .i64 (n10 : Nat), .int .u32 (n12 : Nat), .int .u32 (n16 : Nat)]).cell? ⟨g6, 3, none⟩ = some (.int .i64 (n4 : Nat)) ∧ ((V.drew.setCells gt 0 [.int .u32 (n12 : Nat), .int .u32 (n16 : Nat), .int .i64 (n9 : Nat), .int .i64 s0, .int .i64 s2]).setCells (gt + 1) 0 [.int .i64 (n0 : Nat), .int .i64 (n1 : Nat), .int .i64 (n2 : Nat), .int .i64 (n4 : Nat), .int .i64 (nf : Nat), .int .i64 (n7 : Nat), .int .i64 (n8 : Nat), .int .i64 (n9 : Nat), .int .i64 (n10 : Nat), .int .u32 (n12 : Nat), .int .u32 (n16 : Nat)]).cell? ⟨g6, 4, none⟩ = some (.int .i64 (nf : Nat)) ∧ ((V.drew.setCells gt 0 [.int .u32 (n12 : Nat), .int .u32 (n16 : Nat), .int .i64 (n9 : Nat), .int .i64 s0, .int .i64 s2]).setCells (gt + 1) 0 [.int .i64 (n0 : Nat), .int .i64 (n1 : Nat), .int .i64 (n2 : Nat), .int .i64 (n4 : Nat), .int .i64 (nf : Nat), .int .i64 (n7 : Nat), .int .i64 (n8 : Nat), .int .i64 (n9 : Nat), .int .i64 (n10 : Nat), .int .u32 (n12 : Nat), .int .u32 (n16 : Nat)]).cell? ⟨g6, 5, none⟩ = some (.int .i64 (n7 : Nat)) ∧ ((V.drew.setCells gt 0 [.int .u32 (n12 : Nat), .int .u32 (n16 : Nat), .int .i64 (n9 : Nat), .int .i64 s0, .int .i64 s2]).setCells (gt + 1) 0 [.int .i64 (n0 : Nat), .int .i64 (n1 : Nat), .int .i64 (n2 : Nat), .int .i64 (n4 : Nat), .int .i64 (nf : Nat), .int .i64 (n7 : Nat), .int .i64 (n8 : Nat), .int .i64 (n9 : Nat), .int .i64 (n10 : Nat), .int .u32 (n12 : Nat), .int .u32 (n16 : Nat)]).cell? ⟨g6, 6, none⟩ = some (.int .i64 (n8 : Nat)) ∧ ((V.drew.setCells gt 0 [.int .u32 (n12 : Nat), .int .u32 (n16 : Nat), .int .i64 (n9 : Nat), .int .i64 s0, .int .i64 s2]).setCells (gt + 1) 0 [.int .i64 (n0 : Nat), .int .i64 (n1 : Nat), .int .i64 (n2 : Nat), .int .i64 (n4 : Nat), .int .i64 (nf : Nat), .int .i64 (n7 : Nat), .int .i64 (n8 : Nat), .int .i64 (n9 : Nat), .int .i64 (n10 : Nat), .int .u32 (n12 : Nat), .int .u32 (n16 : Nat)]).cell? ⟨g6, 7, none⟩ = some (.int .i64 (n9 : Nat)) ∧ ((V.drew.setCells gt 0 [.int .u32 (n12 : Nat), .int .u32 (n16 : Nat), .int .i64 (n9 : Nat), .int .i64 s0, .int .i64 s2]).setCells (gt + 1) 0 [.int .i64 (n0 : Nat), .int .i64 (n1 : Nat), .int .i64 (n2 : Nat), .int .i64 (n4 : Nat), .int .i64 (nf : Nat), .int .i64 (n7 : Nat), .int .i64 (n8 : Nat), .int .i64 (n9 : Nat), .int .i64 (n10 : Nat), .int .u32 (n12 : Nat), .int .u32 (n16 : Nat)]).cell? ⟨g6, 8, none⟩ = some (.int .i64 (n10 : Nat)) ∧ ((V.drew.setCells gt 0 [.int .u32 (n12 : Nat), .int .u32 (n16 : Nat), .int .i64 (n9 : Nat), .int .i64 s0, .int .i64 s2]).setCells (gt + 1) 0 [.int .i64 (n0 : Nat), .int .i64 (n1 : Nat), .int .i64 (n2 : Nat), .int .i64 (n4 : Nat), .int .i64 (nf : Nat), .int .i64 (n7 : Nat), .int .i64 (n8 : Nat), .int .i64 (n9 : Nat), .int .i64 (n10 : Nat), .int .u32 (n12 : Nat), .int .u32 (n16 : Nat)]).cell? ⟨g6, 9, none⟩ = some (.int .u32 (n12 : Nat)) ∧ ((V.drew.setCells gt 0 [.int .u32 (n12 : Nat), .int .u32 (n16 : Nat), .int .i64 (n9 : Nat), .int .i64 s0, .int .i64 s2]).setCells (gt + 1) 0 [.int .i64 (n0 : Nat), .int .i64 (n1 : Nat), .int .i64 (n2 : Nat), .int .i64 (n4 : Nat), .int .i64 (nf : Nat), .int .i64 (n7 : Nat), .int .i64 (n8 : Nat), .int .i64 (n9 : Nat), .int .i64 (n10 : Nat), .int .u32 (n12 : Nat), .int .u32 (n16 : Nat)]).cell? ⟨g6, 10, none⟩ = some (.int .u32 (n16 : Nat)) ∧ ((V.drew.setCells gt 0 [.int .u32 (n12 : Nat), .int .u32 (n16 : Nat), .int .i64 (n9 : Nat), .int .i64 s0, .int .i64 s2]).setCells (gt + 1) 0 [.int .i64 (n0 : Nat), .int .i64 (n1 : Nat), .int .i64 (n2 : Nat), .int .i64 (n4 : Nat), .int .i64 (nf : Nat), .int .i64 (n7 : Nat), .int .i64 (n8 : Nat), .int .i64 (n9 : Nat), .int .i64 (n10 : Nat), .int .u32 (n12 : Nat), .int .u32 (n16 : Nat)]).there gt 0 5 ∧ ((V.drew.setCells gt 0 [.int .u32 (n12 : Nat), .int .u32 (n16 : Nat), .int .i64 (n9 : Nat), .int .i64 s0, .int .i64 s2]).setCells (gt + 1) 0 [.int .i64 (n0 : Nat), .int .i64 (n1 : Nat), .int .i64 (n2 : Nat), .int .i64 (n4 : Nat), .int .i64 (nf : Nat), .int .i64 (n7 : Nat), .int .i64 (n8 : Nat), .int .i64 (n9 : Nat), .int .i64 (n10 : Nat), .int .u32 (n12 : Nat), .int .u32 (n16 : Nat)]).there (gt + 1) 0 11) := Lib.hid ⟨cell_of (h2.block 0 rfl) rfl, cell_of (h2.block 0 rfl) rfl, cell_of (h2.block 0 rfl) rfl, cell_of (h2.block 0 rfl) rfl, cell_of (h2.block 0 rfl) rfl, cell_of (h2.block 2 rfl) rfl, cell_of (h2.block 2 rfl) rfl, cell_of (h2.block 2 rfl) rfl, cell_of (h2.block 2 rfl) rfl, cell_of (h2.block 2 rfl) rfl, cell_of (h2.block 2 rfl) rfl, cell_of (h2.block 2 rfl) rfl, cell_of (h2.block 2 rfl) rfl, cell_of (h2.block 2 rfl) rfl, cell_of (h2.block 2 rfl) rfl, cell_of (h2.block 2 rfl) rfl, there_of (h2.block 5 rfl), there_of (h2.block 4 rfl)⟩
    have GF := Lib.hid h2
    clear hd h1 h2 c4 f4 HO
    refine e_start (fun w' => w'.cell? ⟨g11, 0, none⟩ = some (.int .u32 (n12 : Nat)) ∧ w'.cell? ⟨g11, 1, none⟩ = some (.int .u32 (n16 : Nat)) ∧ w'.cell? ⟨g11, 2, none⟩ = some (.int .i64 (n9 : Nat)) ∧ w'.cell? ⟨g11, 3, none⟩ = some (.int .i64 s0) ∧ w'.cell? ⟨g11, 4, none⟩ = some (.int .i64 s2) ∧ w'.cell? ⟨g6, 0, none⟩ = some (.int .i64 (n0 : Nat)) ∧ w'.cell? ⟨g6, 1, none⟩ = some (.int .i64 (n1 : Nat)) ∧ w'.cell? ⟨g6, 2, none⟩ = some (.int .i64 (n2 : Nat)) ∧ w'.cell? ⟨g6, 3, none⟩ = some (.int .i64 (n4 : Nat)) ∧ w'.cell? ⟨g6, 4, none⟩ = some (.int .i64 (nf : Nat)) ∧ w'.cell? ⟨g6, 5, none⟩ = some (.int .i64 (n7 : Nat)) ∧ w'.cell? ⟨g6, 6, none⟩ = some (.int .i64 (n8 : Nat)) ∧ w'.cell? ⟨g6, 7, none⟩ = some (.int .i64 (n9 : Nat)) ∧ w'.cell? ⟨g6, 8, none⟩ = some (.int .i64 (n10 : Nat)) ∧ w'.cell? ⟨g6, 9, none⟩ = some (.int .u32 (n12 : Nat)) ∧ w'.cell? ⟨g6, 10, none⟩ = some (.int .u32 (n16 : Nat)) ∧ w'.there gt 0 5 ∧ w'.there (gt + 1) 0 11) (by kernel_rfl) hS (fun hS => ?_)
    refine e_take (i := 0) (v := ?_) rfl (by kernel_rfl) (fun _ _ _ h => h) (by rfl) ?_ hS ?_
    rotate_left
    · (intro w hSw; (try dsimp only at hSw); go_simp; try with_reducible rfl)
    try simp only [Act.put, List.setIfInBounds_toArray, List.set_cons_zero, List.set_cons_succ]
    refine e_take (i := 1) (v := ?_) rfl (by kernel_rfl) (fun _ _ _ h => h) (by rfl) ?_ hS ?_
    rotate_left
    · (intro w hSw; (try dsimp only at hSw); go_simp; try with_reducible rfl)
    try simp only [Act.put, List.setIfInBounds_toArray, List.set_cons_zero, List.set_cons_succ]
    refine e_take (i := 2) (v := ?_) rfl (by kernel_rfl) (fun _ _ _ h => h) (by rfl) ?_ hS ?_
    rotate_left
    · (intro w hSw; (try dsimp only at hSw); go_simp; try with_reducible rfl)
    try simp only [Act.put, List.setIfInBounds_toArray, List.set_cons_zero, List.set_cons_succ]
    refine e_pin (i := 3) rfl (by kernel_rfl) (fun K' hK => ?_)
    refine store_step (by rfl) 24 (.tmp 2) (.tmp 63) (by rfl) gt 0 #[.int .u32 (n12 : Nat), .int .u32 (n16 : Nat), .int .i64 (n9 : Nat), .int .i64 s0, .int .i64 s2] (by rfl) (by rfl) hS.2.2.2.2.2.2.2.2.2.2.2.2.2.2.2.2.1 (by kernel_rfl) (tz_all _ _ _ _ _) ?_
    clear hS
    refine hK.out _ _ HS1.out (fun hS => ?_)
    clear hK K' HS1
    try simp only [Act.put, List.setIfInBounds_toArray, List.set_cons_zero, List.set_cons_succ]
    refine e_pin (i := 4) rfl (by kernel_rfl) (fun K' hK => ?_)
    refine store_step (by rfl) 84 (.tmp 3) (.tmp 64) (by rfl) (gt + 1) 0 (hC n0 n1 n2 n4 nf n7 n8 n9 n10 n12 n16) (by rfl) (by rfl) hS.2.2.2.2.2.2.2.2.2.2.2.2.2.2.2.2.2 (by kernel_rfl) (hC_all _ _ _ _ _ _ _ _ _ _ _) ?_
    clear hS
    refine hK.out _ _ HS2.out (fun hS => ?_)
    clear hK K' HS2
    try simp only [Act.put, List.setIfInBounds_toArray, List.set_cons_zero, List.set_cons_succ]
    refine e_pin (i := 5) rfl (by kernel_rfl) (fun K' hK => ?_)
    go_simp
    refine hK.out _ _ hS (fun hS => ?_)
    clear hK K'
    try simp only [Act.put, List.setIfInBounds_toArray, List.set_cons_zero, List.set_cons_succ]
    refine e_last (i := 6) rfl (by kernel_rfl) (fun K' hK => ?_)
    go_simp
    refine hK.out _ _ ?_
    clear hK K' hS
    go_wp2_with fail
    exact bodyPost_ret (results_cell2_tmp2_row Tryz.results76 _ _ gt (gt + 1) 24 84 _ _ (0, 0) (0, 0) _ _ rfl (GF.out.block 5 rfl) rfl (GF.out.block 4 rfl) Tryz.underlying24 rfl (by kernel_rfl) Tryz.underlying84 rfl (by kernel_rfl)) rfl ⟨_, by rw [HWD.out, HE.out]; rfl, by rw [HWD.out]; exact (GF.out.sel2 (R1 := [_, _, _, _, _, _]) (R2 := R) [3] (by decide) rfl)⟩
end
end Go.Proofs.YtgapbecddgfkmaaGreat
