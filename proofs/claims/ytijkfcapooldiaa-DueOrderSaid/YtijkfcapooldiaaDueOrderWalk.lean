/- Keys are due by time, then by themselves, in whatever order they were set, and each once. -/
import Derived.Test.YtijkfcapooldiaaDueOrderRep
import Derived.StillTailTactics
namespace Go.Proofs.Ytijkfcapooldiaa
open Go.RowKit
set_option linter.unusedVariables false

def atT (zs : List Int) (i : Nat) : Int := if h : i < zs.length then wrap64 ((IntKind.u64.wrap zs[i]).tmod 50) else 7
theorem atT_range (zs : List Int) (i : Nat) : 0 ≤ atT zs i ∧ atT zs i < 50 := by
  unfold atT; split
  · exact mod64 _ 50 (by omega) (by omega)
  · omega

def AtFnPost (zs : List Int) (i : Nat) (w : World) (e : Ending) (w' : World) : Prop := e = .returned (.int .i64 (atT zs i)) ∧ w = w'
set_option maxHeartbeats 1000000 in
theorem at_fn {w0 w : World} {a : Option Addr} {len cap : Nat} {zs : List Int} (hz : ArgInts .i64 w0 a len cap zs) {R : List Asrt} (ho : Own w0 w R) {bt : Nat} (hb : w.cell? ⟨bt, 0, none⟩ = some (.slice a len cap)) (i : Nat) (hi : i < 100) :
    Calls Try.prog 14 #[.int .i64 i, .pointer (some ⟨bt, 0, none⟩)] w (AtFnPost zs i w) := by
  have hl := hz.length
  have hlen : len ≤ 9223372036854775807 := by have := hz.room; have := hz.most; unfold maxLen at this; omega
  by_cases hlt : i < len
  · rcases hz.at' with h0 | ⟨b, o, rfl, hb2, hc⟩
    · omega
    · have c1 := hc i (by omega)
      rw [← ho.old hb2] at c1
      have E : Hid (AtFnPost zs i w (.returned (.int .i64 (wrap64 ((IntKind.u64.wrap (zs[i]'(by omega))).tmod 50)))) w) := Lib.hid ⟨by unfold atT; rw [dif_pos (by omega)], rfl⟩
      generalize zs[i]'(by omega) = z at *
      have hlt' : (i : Int) < (len : Int) := by omega
      have hl1 : zs.length ≤ len := by omega
      clear hl hz ho hc
      go_enter Try.func14, Try.ntmps14
      go_wp2_with fail
      go_ret
      exact E.out
  · have hlt' : (len : Int) ≤ (i : Int) := by omega
    have E : Hid (AtFnPost zs i w (.returned (.int .i64 7)) w) := Lib.hid ⟨by unfold atT; rw [dif_neg (by omega)], rfl⟩
    clear hz hl ho
    go_enter Try.func14, Try.ntmps14
    go_wp2_with fail
    go_ret
    exact E.out

theorem q_facts {w0 w : World} {R : List Asrt} {q : Nat} {S : List KT} (h : Own w0 w R) (i : Nat) (hA : R[i]? = some (QA q S)) : Keys1 S ∧ Row S := by
  obtain ⟨F, hq⟩ := h.get i hA
  exact ⟨IsQ.keys hq, IsQ.row hq⟩
theorem rot {n r i : Nat} (hr : r < n) (hi : i < n) : ((i + n - r) % n + r) % n = i := by
  by_cases h : r ≤ i
  · have : i + n - r = (i - r) + n := by omega
    rw [this, Nat.add_mod_right, Nat.mod_eq_of_lt (by omega : i - r < n)]
    rw [show i - r + r = i by omega, Nat.mod_eq_of_lt hi]
  · rw [Nat.mod_eq_of_lt (by omega : i + n - r < n), show i + n - r + r = i + n by omega, Nat.add_mod_right, Nat.mod_eq_of_lt hi]
theorem kt_nodup' {M : List KT} (h : Keys1 M) : M.Nodup := List.Pairwise.imp (fun hab e => hab (by rw [e])) (List.pairwise_map.1 h)
def OrdRel1 (ks : List ByteArray) (w : World) (p q bm : Nat) (C : Asrt) (v : Value) (wr : World) : Prop :=
  ∃ (k : Nat) (M : List KT), v = .int .i64 k ∧ k ≤ ks.length ∧ First ks k M ∧ Own w wr [KMap bm M, QA q [], QA p [], C]
theorem ArgStrs.read {w : World} {a : Option Addr} {len cap : Nat} {ss : List ByteArray} (h : ArgStrs w a len cap ss) {i : Nat} (hi : i < ss.length) :
    ∃ b o, a = some ⟨b, o, none⟩ ∧ b < w.heap.size ∧ ss[i].size ≤ maxLen ∧ w.cell? ⟨b, o + i, none⟩ = some (.string ss[i]) := by
  have hl := h.length
  rcases h.at' with h0 | ⟨b, o, rfl, hb, hc⟩
  · omega
  · exact ⟨b, o, rfl, hb, h.small _ (List.getElem_mem hi), hc i hi⟩

def OrdRel2 (ks : List ByteArray) (M : List KT) (r : Nat) (w : World) (p q bm : Nat) (C : Asrt) (v : Value) (wr : World) : Prop :=
  ∃ (k : Nat) (Sp Sq : List KT), v = .int .i64 k ∧ k ≤ ks.length ∧ Second ks M (fun i => i) k Sp ∧ Second ks M (fun i => (i + r) % ks.length) k Sq ∧ Own w wr [KMap bm M, QA q Sq, QA p Sp, C]

def OrdRel3 (R : List Asrt) (w : World) (v : Value) (wr : World) : Prop := ∃ k : Nat, v = .int .i64 k ∧ 1 ≤ k ∧ Own w wr R
/-- Two neighbours in the row. -/
theorem row_next {S : List KT} (h : Row S) {k : Nat} (h1 : 1 ≤ k) (hk : k < S.length) : klt (S[k - 1]'(by omega)) S[k] = true :=
  List.pairwise_iff_getElem.1 h (k - 1) k (by omega) hk (by omega)

set_option maxRecDepth 100000 in
set_option maxHeartbeats 8000000 in
theorem walk_DueOrder (w : World) {a : Option Addr} {len cap : Nat} {ks : List ByteArray} (hk : ArgStrs w a len cap ks) {a2 : Option Addr} {len2 cap2 : Nat} {zs : List Int} (hz : ArgInts .i64 w a2 len2 cap2 zs) (turn : Int) (wt : (Lit.int .i64 turn).wf = true) :
    Calls Try.prog 4 #[.slice a len cap, .slice a2 len2 cap2, .int .i64 turn] w (TruePost w) := by
  have hlen : len ≤ 9223372036854775807 := by have := hk.room; have := hk.most; unfold maxLen at this; omega
  have HB := Lib.hid ((Own.nil w).cells #[.slice a2 len2 cap2] 34)
  obtain rfl := hk.length
  by_cases h0 : ks.length = 0 ∨ 60 < ks.length
  · clear hk hz wt HB
    by_cases hz0 : ks.length = 0
    · have hb0 : ((ks.length : Int) == 0) = true := by rw [beq_iff_eq]; omega
      clear hz0 h0
      have HB := Lib.hid (((Own.nil w).alloc (.cells #[.slice a2 len2 cap2] 34)))
      go_enter Try.func4, Try.ntmps4
      go_wp2_with fail
      refine (o_awake HB.out).mono ?_
      rintro e w1 ⟨rfl, h1⟩
      have H1 := Lib.hid h1
      clear h1
      go_wp2_with fail
      go_ret
      exact ⟨rfl, H1.out.mod⟩
    · have hb0 : ((ks.length : Int) == 0) = false := beq_eq_false_iff_ne.2 (by omega)
      have hb1 : (60 : Int) < (ks.length : Int) := by omega
      clear hz0 h0
      have HB := Lib.hid (((Own.nil w).alloc (.cells #[.slice a2 len2 cap2] 34)))
      go_enter Try.func4, Try.ntmps4
      go_wp2_with fail
      refine (o_awake HB.out).mono ?_
      rintro e w1 ⟨rfl, h1⟩
      have H1 := Lib.hid h1
      clear h1
      go_wp2_with fail
      go_ret
      exact ⟨rfl, H1.out.mod⟩
  · have hl0 : 0 < ks.length := by omega
    have hl60 : ks.length ≤ 60 := by omega
    have HK := Lib.hid hk
    have HZ := Lib.hid hz
    clear hk hz h0 wt
    have hl0' : ((ks.length : Int) == 0) = false := beq_eq_false_iff_ne.2 (by omega)
    have hd60 : decide ((60 : Int) < (ks.length : Int)) = false := by simp; omega
    have hmm := @run_makeMap Try.prog
    go_enter Try.func4, Try.ntmps4
    go_wp2_with fail
    refine (o_new HB.out).mono ?_
    rintro e w1 ⟨p, rfl, ho⟩
    have H1 := Lib.hid ho
    clear ho
    go_wp2_with fail
    refine (o_new H1.out).mono ?_
    rintro e w2 ⟨q, rfl, ho⟩
    have HS : Hid (OrdRel1 ks w p q w2.heap.size (Cells w.heap.size #[.slice a2 len2 cap2] 34) (.int .i64 0) (w2.alloc (.map #[] 0))) := Lib.hid ⟨0, [], rfl, Nat.zero_le _, First.zero ks, o_mmake ho⟩
    clear ho H1 HB
    have hr := mod64 turn (ks.length : Int) (by omega) (by omega)
    go_wp2_with fail
    generalize wrap64 ((IntKind.u64.wrap turn).tmod (ks.length : Int)) = r0 at *
    obtain ⟨r, rfl⟩ := Int.eq_ofNat_of_zero_le hr.1
    have hr2 : r < ks.length := by omega
    clear hr hmm
    generalize w2.heap.size = bm at *
    generalize w.heap.size = bt at *
    go_loopw [44] (OrdRel1 ks w p q bm (Cells bt #[.slice a2 len2 cap2] 34)) (fun v _ => ks.length - (intOf v).toNat)
    case atStart => exact HS.out
    case round =>
      obtain ⟨k, M, rfl, hk, hM, ho⟩ := hrel
      clear HS
      by_cases hlt : k < ks.length
      · obtain ⟨b, o, rfl, hb, hks, c0⟩ := HK.out.read hlt
        rw [← ho.old hb] at c0
        have hlt' : (k : Int) < (ks.length : Int) := by omega
        have hlook := o_mlook ho 0 rfl hM.keys hks true
        cases hat : atS M ks[k] with
        | some t =>
          rw [hat] at hlook
          have HR : Hid (OrdRel1 ks w p q bm (Cells bt #[.slice a2 len2 cap2] 34) (.int .i64 (k + 1)) wr) := Lib.hid ⟨k + 1, M, by congr 1, by omega, hM.there hlt hat, ho⟩
          generalize ks[k] = s at *
          clear ho hM hat
          go_wp2_with fail
          go_roundw
          case rel => exact HR.out
          case measure => simp [intOf]; omega
        | none =>
          rw [hat] at hlook
          have ca := at_fn HZ.out ho (bt := bt) (cell_of (ho.block 3 rfl) rfl) k (by omega)
          obtain ⟨w3, hput, ho3⟩ := o_mput ho 0 rfl hks hat (atT zs k)
          have HR : Hid (OrdRel1 ks w p q bm (Cells bt #[.slice a2 len2 cap2] 34) (.int .i64 (k + 1)) w3) := Lib.hid ⟨k + 1, _, by congr 1, by omega, hM.fresh hlt hat (atT_range zs k).1 (atT_range zs k).2, ho3⟩
          generalize ks[k] = s at *
          have HA := Lib.hid ca
          clear ho hM hat ho3 ca
          go_wp2_with fail
          refine HA.out.mono ?_
          rintro e w4 ⟨rfl, rfl⟩
          go_wp2_with fail
          go_roundw
          case rel => exact HR.out
          case measure => simp [intOf]; omega
      · have hge : (ks.length : Int) ≤ (k : Int) := by omega
        have hM' : First ks ks.length M := by have : k = ks.length := by omega
                                              rw [← this]; exact hM
        have HM := Lib.hid hM'
        have HS2 : Hid (OrdRel2 ks M r w p q bm (Cells bt #[.slice a2 len2 cap2] 34) (.int .i64 0) wr) := Lib.hid ⟨0, [], [], rfl, Nat.zero_le _, Second.zero _ _ _, Second.zero _ _ _, ho⟩
        have hdk : decide (k < ks.length) = false := by simp; omega
        clear ho hM hM' hlt
        go_wp2_with fail
        go_loopw [65] (OrdRel2 ks M r w p q bm (Cells bt #[.slice a2 len2 cap2] 34)) (fun v _ => ks.length - (intOf v).toNat)
        case atStart => exact HS2.out
        case round =>
          obtain ⟨k2, Sp, Sq, rfl, hk2, hSp, hSq, ho⟩ := hrel
          clear HS2
          by_cases hlt : k2 < ks.length
          · obtain ⟨b, o, rfl, hb, hks, c0⟩ := HK.out.read hlt
            have hj : (k2 + r) % ks.length < ks.length := Nat.mod_lt _ hl0
            obtain ⟨b', o', hbb, hb', hks', c1⟩ := HK.out.read hj
            cases hbb
            rw [← ho.old hb] at c0 c1
            have hlt' : (k2 : Int) < (ks.length : Int) := by omega
            have hj' : ((k2 : Int) + (r : Int)) % (ks.length : Int) < (ks.length : Int) := Int.emod_lt_of_pos _ (by omega)
            have hj0 : 0 ≤ ((k2 : Int) + (r : Int)) % (ks.length : Int) := Int.emod_nonneg _ (by omega)
            obtain ⟨t1, ht1⟩ := HM.out.all k2 hlt hlt
            obtain ⟨t2, ht2⟩ := HM.out.all _ hj hj
            have hqp := q_facts ho 2 rfl
            have hqq := q_facts ho 1 rfl
            have st1 := hSp.step hqp.1 (by have := hSp.length hqp.2 HM.out; have := HM.out.len; omega) HM.out (j := k2) hlt ht1
            have st2 := hSq.step hqq.1 (by have := hSq.length hqq.2 HM.out; have := HM.out.len; omega) HM.out (j := k2) hj ht2
            have hl1 : (Instr.lookup 36 (.map (some bm)) (.string ks[k2]) false).run Try.prog wr.drew = .ok (.int .i64 t1) wr.drew := by
              have := o_mlook (ho.drewN 1) 0 rfl HM.out.keys hks false
              rw [ht1] at this
              exact this
            have HL2 : Hid (∀ w3 R, Own w w3 (KMap bm M :: R) → (Instr.lookup 36 (.map (some bm)) (.string ks[(k2 + r) % ks.length]) false).run Try.prog w3 = .ok (.int .i64 t2) w3) := Lib.hid fun w3 R h => by
              have := o_mlook h 0 rfl HM.out.keys hks' false
              rwa [ht2] at this
            have HR : Hid (∀ w4 S1 S2, Own w w4 [KMap bm M, QA q S2, QA p S1, Cells bt #[.slice a2 len2 cap2] 34] → S1 = (setS Sp ks[k2] t1).1 → S2 = (setS Sq ks[(k2 + r) % ks.length] t2).1 → OrdRel2 ks M r w p q bm (Cells bt #[.slice a2 len2 cap2] 34) (.int .i64 (k2 + 1)) w4) := Lib.hid (by
              intro w4 S1 S2 h e1 e2
              rw [st1.1] at e1
              rw [st2.1] at e2
              subst e1; subst e2
              exact ⟨k2 + 1, _, _, by congr 1, by omega, st1.2, st2.2, h⟩)
            have HO := Lib.hid ho
            clear ht1 ht2 hqp hqq st1 st2 hSp hSq ho
            generalize ks[(k2 + r) % ks.length] = s2 at *
            generalize ks[k2] = s1 at *
            go_wp2_with fail
            go_still_tail 11, (by kernel_rfl)
            change wpList _ _ _ _ _ (wr.drewN 1)
            go_wp2_with fail
            refine (o_set (HO.out.drewN 1) 2 rfl hks _).mono ?_
            rintro e w3 ⟨rfl, h3⟩
            have hl2 := HL2.out w3 _ h3
            have H3 := Lib.hid h3
            clear h3
            go_wp2_with fail
            refine (o_set H3.out 1 rfl hks' _).mono ?_
            rintro e w4 ⟨rfl, h4⟩
            have HR2 := Lib.hid (HR.out w4 _ _ h4 rfl rfl)
            clear h4 hl2
            go_wp2_with fail
            go_roundw
            case rel => exact HR2.out
            case measure => simp [intOf]; omega
          · have hge : (ks.length : Int) ≤ (k2 : Int) := by omega
            obtain rfl : k2 = ks.length := by omega
            have hp := hSp.whole HM.out (fun i hi => ⟨i, hi, rfl⟩)
            have hq := hSq.whole HM.out (fun i hi => ⟨(i + ks.length - r) % ks.length, Nat.mod_lt _ hl0, rot hr2 hi⟩)
            have hqp := q_facts ho 2 rfl
            have hqq := q_facts ho 1 rfl
            obtain rfl : Sp = Sq := row_same hqp.2 hqq.2 (fun x => (hp x).trans (hq x).symm)
            have hlenM : Sp.length = M.length := by
              have h1 := (row_nodup hqp.2).length_le_of_subset (fun x hx => (hp x).1 hx)
              have h2 := (kt_nodup' HM.out.keys).length_le_of_subset (fun x hx => (hp x).2 hx)
              omega
            have hdue := due_all (S := Sp) (fun x hx => by have := HM.out.times x ((hp x).1 hx); omega)
            have HO := Lib.hid ho
            have HP := Lib.hid hp
            have HD := Lib.hid hdue
            have HN := Lib.hid hlenM
            have HQ := Lib.hid hqp
            have hdk2 : decide (ks.length < ks.length) = false := by simp
            clear hp hq hqq hqp hdue hlenM hSp hSq ho hlt hk2
            go_wp2_with fail
            refine (o_due HO.out 2 rfl _).mono ?_
            rintro e w3 ⟨v1, rfl, h3⟩
            have H3 := Lib.hid h3
            clear h3
            go_wp2_with fail
            refine (o_due H3.out 2 rfl _).mono ?_
            rintro e w4 ⟨v2, rfl, h4⟩
            obtain ⟨a1, cap1, hv1, _⟩ := (h4.get 1 rfl).choose_spec.2.shape
            rw [HD.out.1] at hv1
            rw [List.length_map, HN.out] at hv1
            subst hv1
            have H4 := Lib.hid h4
            clear h4
            go_wp2_with fail
            refine (o_same H4.out 1 0 rfl rfl).mono ?_
            rintro e w5 ⟨he, m5, rfl⟩
            have he' : e = .returned (.bool true) := by rw [he]; simp
            clear he
            subst he'
            have H5 := Lib.hid (H4.out.drewN m5)
            have hlm := o_mlen H5.out 2 rfl 3
            go_wp2_with fail
            refine (o_len H5.out 4 rfl).mono ?_
            rintro e w6 ⟨he, rfl⟩
            have he' : e = .returned (.int .i64 0) := by rw [he, HD.out.2]; rfl
            clear he
            subst he'
            go_wp2_with fail
            have HS3 : Hid (OrdRel3 _ w (.int .i64 1) (w4.drewN m5)) := Lib.hid ⟨1, rfl, Nat.le_refl _, H5.out⟩
            rw [HD.out.1] at HS3
            have hsm : ∀ x ∈ M, x.1.size ≤ maxLen := fun x hx => by
              obtain ⟨i, hi, e⟩ := List.mem_iff_getElem.1 (HM.out.only x hx)
              rw [← e]; exact HK.out.small _ (List.getElem_mem hi)
            have HSM := Lib.hid hsm
            clear hsm hlm H5 H4 H3 HO
            go_loopw [19] (OrdRel3 _ w) (fun v _ => M.length - (intOf v).toNat)
            case atStart => exact HS3.out
            case round =>
              obtain ⟨k3, rfl, hk1, ho⟩ := hrel
              clear HS3
              by_cases hlt : k3 < M.length
              · obtain ⟨a1', cap1', hv1', _, _, hcell⟩ := (ho.get 1 rfl).choose_spec.2.shape
                simp only [Value.slice.injEq] at hv1'
                obtain ⟨rfl, -, rfl⟩ := hv1'
                have hS : k3 < Sp.length := by have := HN.out; omega
                obtain ⟨b1, rfl, c1⟩ := hcell k3 (by simpa using hS)
                obtain ⟨b1', hbb, c0⟩ := hcell (k3 - 1) (by simp; omega)
                cases hbb
                rw [List.getElem_map] at c0 c1
                have hnext := row_next HQ.out.2 hk1 hS
                have m0 := (HP.out _).1 (List.getElem_mem (by omega : k3 - 1 < Sp.length))
                have m1 := (HP.out _).1 (List.getElem_mem hS)
                generalize Sp[k3] = y at *
                generalize Sp[k3 - 1] = x at *
                have hl0 : ∀ m, (Instr.lookup 36 (.map (some bm)) (.string x.1) false).run Try.prog (wr.drewN m) = .ok (.int .i64 x.2) (wr.drewN m) := fun m => by
                  have := o_mlook (ho.drewN m) 2 rfl HM.out.keys (HSM.out x m0) false
                  rwa [(atS_some HM.out.keys).2 m0] at this
                have hl1 : ∀ m, (Instr.lookup 36 (.map (some bm)) (.string y.1) false).run Try.prog (wr.drewN m) = .ok (.int .i64 y.2) (wr.drewN m) := fun m => by
                  have := o_mlook (ho.drewN m) 2 rfl HM.out.keys (HSM.out y m1) false
                  rwa [(atS_some HM.out.keys).2 m1] at this
                have HR : Hid (∀ m, OrdRel3 _ w (.int .i64 (k3 + 1)) (wr.drewN m)) := Lib.hid fun m => ⟨k3 + 1, by congr 1, by omega, ho.drewN m⟩
                have hlt' : (k3 : Int) < (M.length : Int) := by omega
                have hk1' : (1 : Int) ≤ (k3 : Int) := by omega
                have hk0 : (0 : Int) ≤ (k3 : Int) - 1 := by omega
                have hk2 : (k3 : Int) - 1 < (M.length : Int) := by omega
                have hk60 : (k3 : Int) ≤ 60 := by have := HM.out.len; omega
                have hw : IntKind.i64.wrap ((k3 : Int) - 1) = (k3 : Int) - 1 := IntWalk.i64_in _ (by omega)
                have htn : ((k3 : Int) - 1).toNat = k3 - 1 := by omega
                have Hw := Lib.hid hw
                have Htn := Lib.hid htn
                clear ho hcell m0 m1 hS hw htn
                obtain ⟨xs, xt⟩ := x
                obtain ⟨ys, yt⟩ := y
                dsimp only at *
                rcases Int.lt_trichotomy xt yt with hxy | hxy | hxy
                · have d1 : decide (yt < xt) = false := by simp; omega
                  have d2 : (xt == yt) = false := by simp; omega
                  clear hnext
                  go_wp2_with fail
                  have hw := Hw.out
                  have htn := Htn.out
                  go_quiet (fail)
                  clear hw htn
                  go_wp2_with fail
                  go_quiet (fail)
                  go_wp2_with fail
                  go_roundw
                  case rel => exact HR.out _
                  case measure => simp [intOf]; omega
                · subst hxy
                  have hbl : Op.bytesLess xs.toList ys.toList = true := by
                    rw [klt_of_eq (a := (xs, xt)) (b := (ys, xt)) rfl] at hnext
                    rw [toList_data, toList_data]; exact hnext
                  clear hnext
                  go_wp2_with fail
                  have hw := Hw.out
                  have htn := Htn.out
                  go_quiet (fail)
                  clear hw htn
                  go_wp2_with fail
                  go_quiet (fail)
                  go_wp2_with fail
                  go_roundw
                  case rel => exact HR.out _
                  case measure => simp [intOf]; omega
                · rw [klt_of_gt (a := (xs, xt)) (b := (ys, yt)) hxy] at hnext
                  cases hnext
              · have hge : (M.length : Int) ≤ (k3 : Int) := by omega
                have HO := Lib.hid ho
                clear ho hlt
                go_wp2_with fail
                refine (o_awake HO.out).mono ?_
                rintro e w7 ⟨rfl, h7⟩
                have H7 := Lib.hid h7
                clear h7
                go_wp2_with fail
                go_ret
                exact ⟨rfl, H7.out.mod⟩
end Go.Proofs.Ytijkfcapooldiaa
