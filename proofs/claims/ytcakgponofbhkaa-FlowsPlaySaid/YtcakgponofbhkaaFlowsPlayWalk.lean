/- Any calls: the table's answers are the document's. -/
import Derived.Test.YtcakgponofbhkaaRFlowsLaws
import Derived.Test.YtcakgponofbhkaaD11Calls
import Derived.Test.YtcakgponofbhkaaFlowOps
namespace Go.Proofs.Ytcakgponofbhkaa
open Go.RowKit
set_option linter.unusedVariables false
set_option maxRecDepth 100000
attribute [-go_sem] run_eql_struct

def FPlayR (bs br : Nat) (most idle : Int) (M : List Fl) : List Asrt := [FA bs most idle M, RFA br most idle (sortF M)]
def FPlayRel (w : World) (len bs br : Nat) (most idle : Int) (k : Value) (wr : World) : Prop := ∃ (j : Nat) (M : List Fl), k = .int .i64 j ∧ j ≤ len ∧ Own w wr (FPlayR bs br most idle M)
theorem rf_most {F0 : List Nat} {w0 w : World} {R : List Asrt} {bt : Nat} {most wait : Int} {L : List Fl} (h : In F0 w0 w R) (i : Nat) (hA : R[i]? = some (RFA bt most wait L)) : w.cell? ⟨bt, 1, none⟩ = some (.int .i64 most) := by
  obtain ⟨F, v, hs⟩ := h.get i hA
  exact cell_of ((In.start RFr.framed hs).block 0 rfl) rfl
theorem rf_len {F0 : List Nat} {w0 w : World} {R : List Asrt} {bt : Nat} {most wait : Int} {L : List Fl} (h : In F0 w0 w R) (i : Nat) (hA : R[i]? = some (RFA bt most wait L)) : ∃ a cap, w.cell? ⟨bt, 0, none⟩ = some (.slice a L.length cap) ∧ ∃ F, ViewA 8 (.slice a L.length cap) L.length (flatF L) w F := by
  obtain ⟨F, v, hs⟩ := h.get i hA
  have hI := In.start RFr.framed hs
  obtain ⟨a, cap, rfl⟩ := RFr.val hI
  obtain ⟨F1, hr⟩ := hI.get 1 rfl
  exact ⟨a, cap, cell_of (hI.block 0 rfl) rfl, F1, hr.view⟩
theorem o_rfnew {F0 : List Nat} {w0 w : World} {R : List Asrt} (h : In F0 w0 w R) (most idle : Int) : Calls Try.prog 41 #[.int .i64 most, .int .i64 idle] w fun e w' => ∃ bt, e = .returned (.pointer (some ⟨bt, 0, none⟩)) ∧ In F0 w0 w' (RFA bt (clampM most) (clampI idle) [] :: R) := by
  have c := h.make (A' := fun r => fun w' F => ∃ bt, r = .pointer (some ⟨bt, 0, none⟩) ∧ RFA bt (clampM most) (clampI idle) [] w' F) (fun v => ⟨fun ⟨bt, e, h⟩ hk => ⟨bt, e, (RFA.framed _ _ _ _).keep h hk⟩, fun ⟨bt, e, h⟩ => (RFA.framed _ _ _ _).lt h⟩) (rf_new w most idle)
  refine c.mono fun e w' ⟨v, he, ho⟩ => ?_
  obtain ⟨F, ⟨F1, F2, ⟨bt, rfl, h1⟩, h2, h3, rfl⟩, hF⟩ := ho.star
  refine ⟨bt, he, fun B hB => ?_, ⟨_, ⟨F1, F2, h1, h2, h3, rfl⟩, hF⟩, ho.mod⟩
  rcases List.mem_cons.1 hB with rfl | hB
  · exact RFA.framed _ _ _ _
  · exact h.framed B hB
theorem clampI_bd (n : Int) : 1 ≤ clampI n ∧ clampI n ≤ 1099511627776 := by unfold clampI; omega
def FPlayMid (w : World) (cb bs br : Nat) (most idle : Int) (c : Cl) (ok : Value) (wx : World) : Prop := ok = .bool true ∧ ∃ M : List Fl, Own w wx (Cells cb (encC c) 69 :: FPlayR bs br most idle M)
theorem o_cl0 {F0 : List Nat} {w0 w : World} {R : List Asrt} {fb : Nat} {c : Cl} (h : In F0 w0 w R) (i : Nat) (hA : R[i]? = some (Cells fb (encC c) 69)) :
    w.cell? ⟨fb, 0, none⟩ = some (.int .i64 c.d) ∧ w.cell? ⟨fb, 1, none⟩ = some (.int .u32 c.f.t.src) ∧ w.cell? ⟨fb, 2, none⟩ = some (.int .u32 c.f.t.dst) ∧ w.cell? ⟨fb, 3, none⟩ = some (.int .i64 c.f.t.proto) ∧ w.cell? ⟨fb, 4, none⟩ = some (.int .i64 c.f.t.sport) ∧ w.cell? ⟨fb, 5, none⟩ = some (.int .i64 c.f.t.dport) ∧ w.cell? ⟨fb, 6, none⟩ = some (.int .i64 c.f.bk) ∧ w.cell? ⟨fb, 7, none⟩ = some (.int .i64 c.f.gen) ∧ w.cell? ⟨fb, 8, none⟩ = some (.int .i64 c.f.seen) ∧ w.cell? ⟨fb, 9, none⟩ = some (.int .i64 c.now) :=
  ⟨cell_of (h.block i hA) rfl, cell_of (h.block i hA) rfl, cell_of (h.block i hA) rfl, cell_of (h.block i hA) rfl, cell_of (h.block i hA) rfl, cell_of (h.block i hA) rfl, cell_of (h.block i hA) rfl, cell_of (h.block i hA) rfl, cell_of (h.block i hA) rfl, cell_of (h.block i hA) rfl⟩
def CTup (fb : Nat) (c : Cl) (w : World) : Prop := w.cell? ⟨fb, 1, none⟩ = some (.int .u32 c.f.t.src) ∧ w.cell? ⟨fb, 2, none⟩ = some (.int .u32 c.f.t.dst) ∧ w.cell? ⟨fb, 3, none⟩ = some (.int .i64 c.f.t.proto) ∧ w.cell? ⟨fb, 4, none⟩ = some (.int .i64 c.f.t.sport) ∧ w.cell? ⟨fb, 5, none⟩ = some (.int .i64 c.f.t.dport) ∧ w.cell? ⟨fb, 9, none⟩ = some (.int .i64 c.now)
theorem o_ctup {F0 : List Nat} {w0 w : World} {R : List Asrt} {fb : Nat} {c : Cl} (h : In F0 w0 w R) (i : Nat) (hA : R[i]? = some (Cells fb (encC c) 69)) : CTup fb c w := by
  obtain ⟨-, e1, e2, e3, e4, e5, -, -, -, e9⟩ := o_cl0 h i hA
  exact ⟨e1, e2, e3, e4, e5, e9⟩
set_option maxHeartbeats 16000000 in
theorem walk_FlowsPlay (w : World) (most : Int) (hm0 : (Lit.int .i64 most).wf = true) (idle : Int) (hi0 : (Lit.int .i64 idle).wf = true) {a : Option Addr} {len cap : Nat} {L : List Cl} (hp : ArgCl w a len cap L) (b : Int) (hb0 : (Lit.int .i64 b).wf = true) :
    Calls Try.prog 11 #[.int .i64 most, .int .i64 idle, .slice a len cap, .int .i64 b] w (TruePost w) := by
  clear hm0 hi0 hb0
  have HP := Lib.hid hp
  have hlen := hp.length
  subst hlen
  have hcap : L.length ≤ 9223372036854775807 := by have h1 := hp.room; have h2 := hp.most; unfold maxLen at h2; omega
  have HN := Lib.hid (o_fnew (Own.nil w) most idle)
  have HRN := Lib.hid fun w' R h => o_rfnew (F0 := []) (w0 := w) (w := w') (R := R) h most idle
  obtain ⟨i1, i2⟩ := clampI_bd idle
  generalize clampI idle = ti at *
  generalize clampM most = N at *
  clear hp
  go_enter Try.func11, Try.ntmps11
  go_wp2_with fail
  refine HN.out.mono ?_
  rintro e w1 ⟨bs, rfl, ho⟩
  have HO := Lib.hid ho
  clear ho HN
  go_wp2_with fail
  refine (HRN.out _ _ HO.out).mono ?_
  rintro e w2 ⟨br, rfl, ho⟩
  have h0 := ho.perm (List.Perm.swap _ _ _)
  have HS : Hid (∀ m, FPlayRel w L.length bs br N ti (.int .i64 0) (w2.drewN m)) := Lib.hid fun m => ⟨0, [], rfl, Nat.zero_le _, by unfold FPlayR; rw [sortF_nil]; exact h0.drewN m⟩
  have HM : Hid (∀ q, Calls Try.prog 42 #[.pointer (some ⟨bs, 0, none⟩)] (w2.drewN q) fun e w' => e = .returned (.int .i64 N) ∧ w' = w2.drewN q) := Lib.hid fun q => (o_fmost (h0.drewN q) 0 rfl).mono fun e w' ⟨h1, h2⟩ => ⟨h1, h2.symm⟩
  have b1 := rf_most h0 1 rfl
  clear ho h0 HO HRN
  go_wp2_with fail
  go_quiet ((go_at_call 42; exact Calls.quiet_of_same (HM.out _)))
  go_wp2_with fail
  go_loopw [11] (FPlayRel w L.length bs br N ti) (fun k _ => L.length - (intOf k).toNat)
  case atStart => exact HS.out _
  case round =>
    obtain ⟨j, M, rfl, hj, ho⟩ := hrel
    clear HS
    by_cases hlt : j < L.length
    · obtain ⟨g, o, c, rfl, hb, hx, hwx, hc⟩ := HP.out.read hlt
      obtain ⟨c0, c1, c2, c3, c4, c5, c6, c7, c8, c9⟩ := hc.old ho hb
      have i3 : (j : Int) < (L.length : Int) := by omega
      have HO := Lib.hid (ho.cells (encC c) 69)
      have HO0 := Lib.hid ho
      have HWC := Lib.hid hwx
      clear ho hc hx hwx hlt
      by_cases h150 : j < 150
      · have h150' : (j : Int) < 150 := by omega
        go_upto_block 2 with fail
        generalize wr.heap.size = cb at *
        obtain ⟨W1, hW1⟩ : ∃ W1, W1 = wr.alloc (.cells #[.int .i64 c.d, .int .u32 c.f.t.src, .int .u32 c.f.t.dst, .int .i64 c.f.t.proto, .int .i64 c.f.t.sport, .int .i64 c.f.t.dport, .int .i64 c.f.bk, .int .i64 c.f.gen, .int .i64 c.f.seen, .int .i64 c.now] 69) := ⟨_, rfl⟩
        rw [← hW1] at HO ⊢
        clear hW1 HO0 c0 c1 c2 c3 c4 c5 c6 c7 c8 c9
        obtain ⟨e0, e1, e2, e3, e4, e5, e6, e7, e8, e9⟩ := o_cl0 HO.out 0 rfl
        have hrow := HO.out.rowT 1 rfl
        have HROW := Lib.hid hrow
        have hc0 := o_ctup (HO.out.drewN 1) 0 rfl
        unfold CTup at hc0
        clear hrow
        go_cut [13] (fun ok wx => FPlayMid w cb bs br N ti c ok wx)
        case first =>
          by_cases hd0 : c.d = 0
          · have hdd : (c.d == 0) = true := by simpa using hd0
            clear hd0
            have HQ := Lib.hid (o_fput HO.out 1 rfl (f := c.f) HWC.out.f.t)
            have HP1 := Lib.hid fun w' (h : In [] w w' (Cells cb (encC c) 69 :: [FA bs N ti (putF N M c.f).1, RFA br N ti (sortF M)])) => o_rfputM h 2 rfl HROW.out.2 (f := c.f) HWC.out.f.t
            generalize putF N M c.f = r at *
            obtain ⟨M2, q2, n2⟩ := r
            go_wp2_with fail
            refine HQ.out.mono ?_
            rintro e w4 ⟨rfl, ho⟩
            have H1 := Lib.hid ho
            obtain ⟨k0, k1, k2, k3, k4, k5, k6, k7, k8, k9⟩ := o_cl0 ho 0 rfl
            clear ho HQ e0 e1 e2 e3 e4 e5 e6 e7 e8 e9
            go_wp2_with fail
            refine (HP1.out _ H1.out).mono ?_
            rintro e w5 ⟨rfl, ho⟩
            have HE : Hid (FPlayMid w cb bs br N ti c (.bool true) w5) := Lib.hid ⟨rfl, M2, ho⟩
            clear ho HP1 H1 k0 k1 k2 k3 k4 k5 k6 k7 k8 k9
            go_wp2_with fail
            go_meet
            exact HE.out
          · have hdd : (c.d == 0) = false := by simpa using hd0
            by_cases hd1 : c.d = 1
            · have hdd1 : (c.d == 1) = true := by simpa using hd1
              clear hd0 hd1
              have HQ := Lib.hid (o_ftouch (HO.out.drewN 1) 1 rfl HWC.out.f.t c.now)
              have HP1 := Lib.hid fun w' (h : In [] w w' (Cells cb (encC c) 69 :: [FA bs N ti (touchF M c.f.t c.now).1, RFA br N ti (sortF M)])) => o_rftouchM h 2 rfl HROW.out.2 c.f.t c.now
              go_wp2_with fail
              go_region_held3 (fun w' => w'.cell? ⟨cb, 1, none⟩ = some (.int .u32 c.f.t.src) ∧ w'.cell? ⟨cb, 2, none⟩ = some (.int .u32 c.f.t.dst) ∧ w'.cell? ⟨cb, 3, none⟩ = some (.int .i64 c.f.t.proto) ∧ w'.cell? ⟨cb, 4, none⟩ = some (.int .i64 c.f.t.sport) ∧ w'.cell? ⟨cb, 5, none⟩ = some (.int .i64 c.f.t.dport) ∧ w'.cell? ⟨cb, 9, none⟩ = some (.int .i64 c.now)) (first | exact hc2 | exact hc1 | exact hc0 | go_keep)
                (first
                  | (go_at_call 35
                     refine HQ.out.mono ?_
                     rintro e w4 ⟨rfl, ho⟩
                     have hc1 : w4.cell? ⟨cb, 1, none⟩ = some (.int .u32 c.f.t.src) ∧ w4.cell? ⟨cb, 2, none⟩ = some (.int .u32 c.f.t.dst) ∧ w4.cell? ⟨cb, 3, none⟩ = some (.int .i64 c.f.t.proto) ∧ w4.cell? ⟨cb, 4, none⟩ = some (.int .i64 c.f.t.sport) ∧ w4.cell? ⟨cb, 5, none⟩ = some (.int .i64 c.f.t.dport) ∧ w4.cell? ⟨cb, 9, none⟩ = some (.int .i64 c.now) := o_ctup ho 0 rfl
                     have H1 := Lib.hid ho
                     clear ho)
                  | (go_at_call 44
                     refine (HP1.out _ H1.out).mono ?_
                     rintro e w5 ⟨rfl, ho⟩
                     have hc2 : w5.cell? ⟨cb, 1, none⟩ = some (.int .u32 c.f.t.src) ∧ w5.cell? ⟨cb, 2, none⟩ = some (.int .u32 c.f.t.dst) ∧ w5.cell? ⟨cb, 3, none⟩ = some (.int .i64 c.f.t.proto) ∧ w5.cell? ⟨cb, 4, none⟩ = some (.int .i64 c.f.t.sport) ∧ w5.cell? ⟨cb, 5, none⟩ = some (.int .i64 c.f.t.dport) ∧ w5.cell? ⟨cb, 9, none⟩ = some (.int .i64 c.now) := o_ctup ho 0 rfl
                     have H2 := Lib.hid ho
                     clear ho)
                  | (go_at_call 31
                     refine (HSM.out _ _ _ H2.out).mono ?_
                     rintro e w6 ⟨rfl, m, rfl⟩))
              have HE : Hid (FPlayMid w cb bs br N ti c (.bool true) w5) := Lib.hid ⟨rfl, _, H2.out⟩
              go_wp2_with fail
              go_meet
              exact HE.out
            · have hdd1 : (c.d == 1) = false := by simpa using hd1
              by_cases hd2 : c.d = 2
              · have hdd2 : (c.d == 2) = true := by simpa using hd2
                clear hd0 hd1 hd2
                have HQ := Lib.hid (o_fdrop (HO.out.drewN 1) 1 rfl HWC.out.f.t)
                have HP1 := Lib.hid fun w' (h : In [] w w' (Cells cb (encC c) 69 :: [FA bs N ti (delF c.f.t M), RFA br N ti (sortF M)])) => o_rfdropM h 2 rfl HROW.out.2 c.f.t
                go_wp2_with fail
                go_region_held3 (fun w' => w'.cell? ⟨cb, 1, none⟩ = some (.int .u32 c.f.t.src) ∧ w'.cell? ⟨cb, 2, none⟩ = some (.int .u32 c.f.t.dst) ∧ w'.cell? ⟨cb, 3, none⟩ = some (.int .i64 c.f.t.proto) ∧ w'.cell? ⟨cb, 4, none⟩ = some (.int .i64 c.f.t.sport) ∧ w'.cell? ⟨cb, 5, none⟩ = some (.int .i64 c.f.t.dport) ∧ w'.cell? ⟨cb, 9, none⟩ = some (.int .i64 c.now)) (first | exact hc2 | exact hc1 | exact hc0 | go_keep)
                  (first
                    | (go_at_call 38
                       refine HQ.out.mono ?_
                       rintro e w4 ⟨rfl, ho⟩
                       have hc1 : w4.cell? ⟨cb, 1, none⟩ = some (.int .u32 c.f.t.src) ∧ w4.cell? ⟨cb, 2, none⟩ = some (.int .u32 c.f.t.dst) ∧ w4.cell? ⟨cb, 3, none⟩ = some (.int .i64 c.f.t.proto) ∧ w4.cell? ⟨cb, 4, none⟩ = some (.int .i64 c.f.t.sport) ∧ w4.cell? ⟨cb, 5, none⟩ = some (.int .i64 c.f.t.dport) ∧ w4.cell? ⟨cb, 9, none⟩ = some (.int .i64 c.now) := o_ctup ho 0 rfl
                       have H1 := Lib.hid ho
                       clear ho)
                    | (go_at_call 45
                       refine (HP1.out _ H1.out).mono ?_
                       rintro e w5 ⟨rfl, ho⟩
                       have hc2 : w5.cell? ⟨cb, 1, none⟩ = some (.int .u32 c.f.t.src) ∧ w5.cell? ⟨cb, 2, none⟩ = some (.int .u32 c.f.t.dst) ∧ w5.cell? ⟨cb, 3, none⟩ = some (.int .i64 c.f.t.proto) ∧ w5.cell? ⟨cb, 4, none⟩ = some (.int .i64 c.f.t.sport) ∧ w5.cell? ⟨cb, 5, none⟩ = some (.int .i64 c.f.t.dport) ∧ w5.cell? ⟨cb, 9, none⟩ = some (.int .i64 c.now) := o_ctup ho 0 rfl
                       have H2 := Lib.hid ho
                       clear ho)
                    | (go_at_call 31
                       refine (HSM.out _ _ _ H2.out).mono ?_
                       rintro e w6 ⟨rfl, m, rfl⟩))
                have HE : Hid (FPlayMid w cb bs br N ti c (.bool true) w5) := Lib.hid ⟨rfl, _, H2.out⟩
                go_wp2_with fail
                go_meet
                exact HE.out
              · have hdd2 : (c.d == 2) = false := by simpa using hd2
                have HSM : Hid (∀ w' v v', In [] w w' (RowA 59 8 v' (idleD M (c.now - ti)).length (flatF (idleD M (c.now - ti))) :: RowA 59 8 v (idleD M (c.now - ti)).length (flatF (idleD M (c.now - ti))) :: Cells cb (encC c) 69 :: [FA bs N ti (idleR M (c.now - ti)), RFA br N ti (sortF (idleR M (c.now - ti)))]) → Calls Try.prog 31 #[v, v'] w' (SamePost true w')) := Lib.hid fun w' v v' h => by
                  obtain ⟨F1, h1⟩ := h.get 1 rfl
                  obtain ⟨F2, h2⟩ := h.get 0 rfl
                  have c := sameflows h1.view h2.view
                  rwa [decide_eq_true rfl] at c
                have HQ := Lib.hid (o_fidle (HO.out.drewN 1) 1 rfl i1 i2 c.now HWC.out.n0 HWC.out.n1)
                have HP1 := Lib.hid fun w' v (h : In [] w w' (RowA 59 8 v (idleD M (c.now - ti)).length (flatF (idleD M (c.now - ti))) :: Cells cb (encC c) 69 :: [FA bs N ti (idleR M (c.now - ti)), RFA br N ti (sortF M)])) => o_rfidleM h 3 rfl HROW.out.2 HROW.out.1 i1 i2 c.now HWC.out.n0 HWC.out.n1
                go_wp2_with fail
                go_region_held3 (fun w' => w'.cell? ⟨cb, 1, none⟩ = some (.int .u32 c.f.t.src) ∧ w'.cell? ⟨cb, 2, none⟩ = some (.int .u32 c.f.t.dst) ∧ w'.cell? ⟨cb, 3, none⟩ = some (.int .i64 c.f.t.proto) ∧ w'.cell? ⟨cb, 4, none⟩ = some (.int .i64 c.f.t.sport) ∧ w'.cell? ⟨cb, 5, none⟩ = some (.int .i64 c.f.t.dport) ∧ w'.cell? ⟨cb, 9, none⟩ = some (.int .i64 c.now)) (first | exact hc2 | exact hc1 | exact hc0 | go_keep)
                  (first
                    | (go_at_call 30
                       refine HQ.out.mono ?_
                       rintro e w4 ⟨v4, rfl, ho⟩
                       have hc1 : w4.cell? ⟨cb, 1, none⟩ = some (.int .u32 c.f.t.src) ∧ w4.cell? ⟨cb, 2, none⟩ = some (.int .u32 c.f.t.dst) ∧ w4.cell? ⟨cb, 3, none⟩ = some (.int .i64 c.f.t.proto) ∧ w4.cell? ⟨cb, 4, none⟩ = some (.int .i64 c.f.t.sport) ∧ w4.cell? ⟨cb, 5, none⟩ = some (.int .i64 c.f.t.dport) ∧ w4.cell? ⟨cb, 9, none⟩ = some (.int .i64 c.now) := o_ctup ho 1 rfl
                       have H1 := Lib.hid ho
                       clear ho)
                    | (go_at_call 46
                       refine (HP1.out _ _ H1.out).mono ?_
                       rintro e w5 ⟨v5, rfl, ho⟩
                       have hc2 : w5.cell? ⟨cb, 1, none⟩ = some (.int .u32 c.f.t.src) ∧ w5.cell? ⟨cb, 2, none⟩ = some (.int .u32 c.f.t.dst) ∧ w5.cell? ⟨cb, 3, none⟩ = some (.int .i64 c.f.t.proto) ∧ w5.cell? ⟨cb, 4, none⟩ = some (.int .i64 c.f.t.sport) ∧ w5.cell? ⟨cb, 5, none⟩ = some (.int .i64 c.f.t.dport) ∧ w5.cell? ⟨cb, 9, none⟩ = some (.int .i64 c.now) := o_ctup ho 2 rfl
                       have H2 := Lib.hid ho
                       clear ho)
                    | (go_at_call 31
                       refine (HSM.out _ _ _ H2.out).mono ?_
                       rintro e w6 ⟨rfl, m, rfl⟩))
                have HE : Hid (FPlayMid w cb bs br N ti c (.bool true) (w5.drewN m)) := Lib.hid ⟨rfl, _, (H2.out.drewN m).drop.drop⟩
                go_wp2_with fail
                go_meet
                exact HE.out
        case rest =>
          obtain ⟨rfl, M2, ho⟩ := hcut
          have hrow := ho.rowT 1 rfl
          have HROW2 := Lib.hid hrow
          have HOC := Lib.hid ho
          obtain ⟨e0, e1, e2, e3, e4, e5, e6, e7, e8, e9⟩ := o_cl0 ho 0 rfl
          have HG1 := Lib.hid (o_fget ho 1 rfl HWC.out.f.t)
          have HG2 : Hid (∀ (w' : World) (gb : Nat) (y : Fl), In [] w w' [Cells gb (encF y) 59, Cells cb (encC c) 69, FA bs N ti M2, RFA br N ti (sortF M2)] → Calls Try.prog 47 #[.pointer (some ⟨br, 0, none⟩), .agg (encT c.f.t)] w' fun e w'' => e = .returned (.tuple #[.agg (encF ((atF M2 c.f.t).getD zF)), .bool (atF M2 c.f.t).isSome]) ∧ In [] w w'' [Cells gb (encF y) 59, Cells cb (encC c) 69, FA bs N ti M2, RFA br N ti (sortF M2)]) := Lib.hid fun w' gb y h => o_rfgetM h 3 rfl HROW2.out.2 c.f.t
          generalize (atF M2 c.f.t).getD zF = fx at *
          generalize (atF M2 c.f.t).isSome = fq at *
          have hm : Try.prog.eqGuardType Try.prog.depth 59 = false := by kernel_rfl
          clear ho hrow HO HROW hc0
          go_wp2_with fail
          refine HG1.out.mono ?_
          rintro e w4 ⟨rfl, ho⟩
          have H1 : Hid (In [] w (w4.alloc (.cells #[.int .u32 fx.t.src, .int .u32 fx.t.dst, .int .i64 fx.t.proto, .int .i64 fx.t.sport, .int .i64 fx.t.dport, .int .i64 fx.bk, .int .i64 fx.gen, .int .i64 fx.seen] 59)) [Cells w4.heap.size (encF fx) 59, Cells cb (encC c) 69, FA bs N ti M2, RFA br N ti (sortF M2)]) := Lib.hid (ho.cells (encF fx) 59)
          clear ho HG1 e0 e1 e2 e3 e4 e5 e6 e7 e8 e9
          go_upto_region 20 with fail
          generalize w4.heap.size = gb at *
          generalize (w4.alloc (.cells #[.int .u32 fx.t.src, .int .u32 fx.t.dst, .int .i64 fx.t.proto, .int .i64 fx.t.sport, .int .i64 fx.t.dport, .int .i64 fx.bk, .int .i64 fx.gen, .int .i64 fx.seen] 59)) = wy at *
          obtain ⟨e0, e1, e2, e3, e4, e5, e6, e7, e8, e9⟩ := o_cl0 H1.out 1 rfl
          go_wp2_with fail
          refine (HG2.out _ _ _ H1.out).mono ?_
          rintro e w5 ⟨rfl, ho⟩
          have H2 : Hid (In [] w (w5.alloc (.cells #[.int .u32 fx.t.src, .int .u32 fx.t.dst, .int .i64 fx.t.proto, .int .i64 fx.t.sport, .int .i64 fx.t.dport, .int .i64 fx.bk, .int .i64 fx.gen, .int .i64 fx.seen] 59)) [Cells w5.heap.size (encF fx) 59, Cells gb (encF fx) 59, Cells cb (encC c) 69, FA bs N ti M2, RFA br N ti (sortF M2)]) := Lib.hid (ho.cells (encF fx) 59)
          clear ho HG2 e0 e1 e2 e3 e4 e5 e6 e7 e8 e9 H1
          go_upto_region 21 with fail
          generalize w5.heap.size = hb2 at *
          generalize (w5.alloc (.cells #[.int .u32 fx.t.src, .int .u32 fx.t.dst, .int .i64 fx.t.proto, .int .i64 fx.t.sport, .int .i64 fx.t.dport, .int .i64 fx.bk, .int .i64 fx.gen, .int .i64 fx.seen] 59)) = wz at *
          obtain ⟨f0, f1, f2, f3, f4, f5, f6, f7⟩ := o_fl0 H2.out 0 rfl
          obtain ⟨g0, g1, g2, g3, g4, g5, g6, g7⟩ := o_fl0 H2.out 1 rfl
          obtain ⟨a6, c6, hb0, -⟩ := rf_len H2.out 4 rfl
          rw [sortF_length] at hb0
          have HLN : Hid (∀ q, Calls Try.prog 36 #[.pointer (some ⟨bs, 0, none⟩)] (wz.drewN q) fun e w' => e = .returned (.int .i64 M2.length) ∧ w' = wz.drewN q) := Lib.hid fun q => (o_flen (H2.out.drewN q) 3 rfl).mono fun e w' ⟨h1, h2⟩ => ⟨h1, h2.symm⟩
          have hq : ∀ w, (binOp .neq 59 (.agg (encF fx)) (.agg (encF fx))).run Try.prog w = .ok (.bool false) w := fun w => by rw [fl_neq]; simp
          have HR : Hid (∀ m, FPlayRel w L.length bs br N ti (.int .i64 (j + 1)) (wz.drewN m)) := Lib.hid fun m => ⟨j + 1, M2, by congr 1, by omega, ((H2.out.drewN m).drop.drop.drop)⟩
          clear H2
          go_quiet ((go_at_call 36; exact Calls.quiet_of_same (HLN.out _)))
          go_wp2_with fail
          go_roundw
          case rel => exact HR.out _
          case measure => simp [intOf]; omega
      · have h150' : (150 : Int) ≤ (j : Int) := by omega
        have hd6 : decide ((j : Int) < 150) = false := by simp; omega
        have ho := HO0.out
        clear HO HWC c0 c1 c2 c3 c4 c5 c6 c7 c8 c9
        have hrow := HO0.out.rowT 0 rfl
        have HROW := Lib.hid hrow
        obtain ⟨v, ho2⟩ := (HO0.out.perm (List.Perm.swap _ _ _)).openR
        obtain ⟨Fv, hv⟩ := ho2.get 1 rfl
        obtain ⟨av, cv, rfl, l1, l2, -⟩ := hv.shape
        have b0 : wr.cell? ⟨br, 0, none⟩ = some (.slice av (sortF M).length cv) := cell_of (ho2.block 0 rfl) rfl
        have HT0 : Hid (In [] w wr [Cells br #[.slice av (sortF M).length cv, .int .i64 N, .int .i64 ti] 83, RowA 59 8 (.slice av (sortF M).length cv) (sortF M).length (flatF (sortF M)), FA bs N ti M]) := Lib.hid ho2
        have HALL := Lib.hid fun w' (h : In [] w w' [Cells br #[.slice av (sortF M).length cv, .int .i64 N, .int .i64 ti] 83, RowA 59 8 (.slice av (sortF M).length cv) (sortF M).length (flatF (sortF M)), FA bs N ti M]) => o_fall h 2 rfl
        have HSAME : Hid (∀ w' v', In [] w w' [RowA 59 8 v' (sortF M).length (flatF (sortF M)), Cells br #[.slice av (sortF M).length cv, .int .i64 N, .int .i64 ti] 83, RowA 59 8 (.slice av (sortF M).length cv) (sortF M).length (flatF (sortF M)), FA bs N ti M] → Calls Try.prog 31 #[v', .slice av (sortF M).length cv] w' fun e w'' => e = .returned (.bool true) ∧ In [] w w'' [RFA br N ti (sortF M), FA bs N ti M]) := Lib.hid fun w' v' h => by
          obtain ⟨F1, h1⟩ := h.get 0 rfl
          obtain ⟨F2, h2⟩ := h.get 2 rfl
          have c := sameflows h1.view h2.view
          rw [decide_eq_true rfl] at c
          refine c.mono ?_
          rintro e w'' ⟨he, m, rfl⟩
          exact ⟨he, (In.join (A1 := RFr br N ti (.slice av (sortF M).length cv) (sortF M)) (R := [_]) (h.drewN m).drop).imp (A' := RFA br N ti (sortF M)) 0 rfl (RFA.framed _ _ _ _) (fun F hF => ⟨_, hF⟩)⟩
        have HOF := Lib.hid fun w' (h : In [] w w' [RFA br N ti (sortF M), FA bs N ti M]) => o_fof h 1 rfl b
        have HROF := Lib.hid fun w' v' (h : In [] w w' [RowA 59 8 v' (ofF b M).length (flatF (ofF b M)), RFA br N ti (sortF M), FA bs N ti M]) => o_rfofM h 1 rfl HROW.out.2 b
        have HS2 : Hid (∀ w' v' v'', In [] w w' [RowA 59 8 v'' (ofF b M).length (flatF (ofF b M)), RowA 59 8 v' (ofF b M).length (flatF (ofF b M)), RFA br N ti (sortF M), FA bs N ti M] → Calls Try.prog 31 #[v', v''] w' fun e w'' => e = .returned (.bool true) ∧ Mod [] w w'') := Lib.hid fun w' v' v'' h => by
          obtain ⟨F1, h1⟩ := h.get 1 rfl
          obtain ⟨F2, h2⟩ := h.get 0 rfl
          have c := sameflows h1.view h2.view
          rw [decide_eq_true rfl] at c
          refine c.mono ?_
          rintro e w'' ⟨he, m, rfl⟩
          exact ⟨he, (h.drewN m).mod⟩
        clear ho ho2 hv hrow l1 l2
        go_wp2_with fail
        go_region_law
          (first
            | (try go_simp
               go_at_call 32
               refine (HALL.out _ (HT0.out.drewN 1)).mono ?_
               rintro e w4 ⟨v4, rfl, ho4⟩
               have hc4 : w4.cell? ⟨br, 0, none⟩ = some (.slice av (sortF M).length cv) := cell_of (ho4.block 1 rfl) rfl
               have H4 := Lib.hid ho4
               clear ho4)
            | (try go_simp
               go_at_call 39
               refine (HOF.out _ H5.out).mono ?_
               rintro e w6 ⟨v6, rfl, ho6⟩
               have H6 := Lib.hid ho6
               clear ho6)
            | (try go_simp
               go_at_call 48
               refine (HROF.out _ _ H6.out).mono ?_
               rintro e w7 ⟨v7, rfl, ho7⟩
               have H7 := Lib.hid ho7
               clear ho7)
            | (try go_simp
               go_at_call 31
               refine (HS2.out _ _ _ H7.out).mono ?_
               rintro e w8 ⟨rfl, ho8⟩
               have H8 := Lib.hid ho8
               clear ho8)
            | (try go_simp
               go_at_call 31
               refine (HSAME.out _ _ H4.out).mono ?_
               rintro e w5 ⟨rfl, ho5⟩
               have H5 := Lib.hid ho5
               clear ho5)
            | (try go_simp
               go_at_call 33
               refine (f11awake _).mono ?_
               rintro e w9 ⟨rfl, ho9⟩
               have H9 := Lib.hid (H8.out.trans ho9)
               clear ho9))
        all_goals
          go_wp2_with fail
          go_ret
          exact ⟨rfl, H9.out (by simp)⟩
    · have hge : (L.length : Int) ≤ (j : Int) := by omega
      have hrow := ho.rowT 0 rfl
      have HROW := Lib.hid hrow
      obtain ⟨v, ho2⟩ := (ho.perm (List.Perm.swap _ _ _)).openR
      obtain ⟨Fv, hv⟩ := ho2.get 1 rfl
      obtain ⟨av, cv, rfl, l1, l2, -⟩ := hv.shape
      have b0 : wr.cell? ⟨br, 0, none⟩ = some (.slice av (sortF M).length cv) := cell_of (ho2.block 0 rfl) rfl
      have HT0 : Hid (In [] w wr [Cells br #[.slice av (sortF M).length cv, .int .i64 N, .int .i64 ti] 83, RowA 59 8 (.slice av (sortF M).length cv) (sortF M).length (flatF (sortF M)), FA bs N ti M]) := Lib.hid ho2
      have HALL := Lib.hid fun w' (h : In [] w w' [Cells br #[.slice av (sortF M).length cv, .int .i64 N, .int .i64 ti] 83, RowA 59 8 (.slice av (sortF M).length cv) (sortF M).length (flatF (sortF M)), FA bs N ti M]) => o_fall h 2 rfl
      have HSAME : Hid (∀ w' v', In [] w w' [RowA 59 8 v' (sortF M).length (flatF (sortF M)), Cells br #[.slice av (sortF M).length cv, .int .i64 N, .int .i64 ti] 83, RowA 59 8 (.slice av (sortF M).length cv) (sortF M).length (flatF (sortF M)), FA bs N ti M] → Calls Try.prog 31 #[v', .slice av (sortF M).length cv] w' fun e w'' => e = .returned (.bool true) ∧ In [] w w'' [RFA br N ti (sortF M), FA bs N ti M]) := Lib.hid fun w' v' h => by
        obtain ⟨F1, h1⟩ := h.get 0 rfl
        obtain ⟨F2, h2⟩ := h.get 2 rfl
        have c := sameflows h1.view h2.view
        rw [decide_eq_true rfl] at c
        refine c.mono ?_
        rintro e w'' ⟨he, m, rfl⟩
        exact ⟨he, (In.join (A1 := RFr br N ti (.slice av (sortF M).length cv) (sortF M)) (R := [_]) (h.drewN m).drop).imp (A' := RFA br N ti (sortF M)) 0 rfl (RFA.framed _ _ _ _) (fun F hF => ⟨_, hF⟩)⟩
      have HOF := Lib.hid fun w' (h : In [] w w' [RFA br N ti (sortF M), FA bs N ti M]) => o_fof h 1 rfl b
      have HROF := Lib.hid fun w' v' (h : In [] w w' [RowA 59 8 v' (ofF b M).length (flatF (ofF b M)), RFA br N ti (sortF M), FA bs N ti M]) => o_rfofM h 1 rfl HROW.out.2 b
      have HS2 : Hid (∀ w' v' v'', In [] w w' [RowA 59 8 v'' (ofF b M).length (flatF (ofF b M)), RowA 59 8 v' (ofF b M).length (flatF (ofF b M)), RFA br N ti (sortF M), FA bs N ti M] → Calls Try.prog 31 #[v', v''] w' fun e w'' => e = .returned (.bool true) ∧ Mod [] w w'') := Lib.hid fun w' v' v'' h => by
        obtain ⟨F1, h1⟩ := h.get 1 rfl
        obtain ⟨F2, h2⟩ := h.get 0 rfl
        have c := sameflows h1.view h2.view
        rw [decide_eq_true rfl] at c
        refine c.mono ?_
        rintro e w'' ⟨he, m, rfl⟩
        exact ⟨he, (h.drewN m).mod⟩
      clear ho ho2 hv hrow l1 l2 hlt
      go_wp2_with fail
      go_region_law
        (first
          | (try go_simp
             go_at_call 32
             refine (HALL.out _ (HT0.out.drewN 1)).mono ?_
             rintro e w4 ⟨v4, rfl, ho4⟩
             have hc4 : w4.cell? ⟨br, 0, none⟩ = some (.slice av (sortF M).length cv) := cell_of (ho4.block 1 rfl) rfl
             have H4 := Lib.hid ho4
             clear ho4)
          | (try go_simp
             go_at_call 39
             refine (HOF.out _ H5.out).mono ?_
             rintro e w6 ⟨v6, rfl, ho6⟩
             have H6 := Lib.hid ho6
             clear ho6)
          | (try go_simp
             go_at_call 48
             refine (HROF.out _ _ H6.out).mono ?_
             rintro e w7 ⟨v7, rfl, ho7⟩
             have H7 := Lib.hid ho7
             clear ho7)
          | (try go_simp
             go_at_call 31
             refine (HS2.out _ _ _ H7.out).mono ?_
             rintro e w8 ⟨rfl, ho8⟩
             have H8 := Lib.hid ho8
             clear ho8)
          | (try go_simp
             go_at_call 31
             refine (HSAME.out _ _ H4.out).mono ?_
             rintro e w5 ⟨rfl, ho5⟩
             have H5 := Lib.hid ho5
             clear ho5)
          | (try go_simp
             go_at_call 33
             refine (f11awake _).mono ?_
             rintro e w9 ⟨rfl, ho9⟩
             have H9 := Lib.hid (H8.out.trans ho9)
             clear ho9))
      all_goals
        go_wp2_with fail
        go_ret
        exact ⟨rfl, H9.out (by simp)⟩
end Go.Proofs.Ytcakgponofbhkaa
