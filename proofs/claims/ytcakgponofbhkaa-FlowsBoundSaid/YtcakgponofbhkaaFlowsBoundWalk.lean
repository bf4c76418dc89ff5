/- Never more than so many, and none too long. -/
import Derived.Test.YtcakgponofbhkaaD11Calls
namespace Go.Proofs.Ytcakgponofbhkaa
open Go.RowKit
set_option linter.unusedVariables false
set_option maxRecDepth 100000
attribute [-go_sem] run_eql_struct

theorem In.rowF2 {F0 : List Nat} {w0 w : World} {R : List Asrt} {bt : Nat} {most idle : Int} {L : List Fl} (h : In F0 w0 w R) (i : Nat) (hA : R[i]? = some (FA bt most idle L)) : L.Pairwise (fun x y => x.seen ≤ y.seen) := by
  obtain ⟨F, bm, bk, bq, hok, hs⟩ := h.get i hA
  have hI := In.start FR.framed hs
  obtain ⟨Fq, hq⟩ := hI.get 3 rfl
  have hr : Row (L.map encQ) := IsQ.row hq
  unfold Row at hr
  rw [List.pairwise_map] at hr
  refine hr.imp (fun {x y} h => ?_)
  change (decide (x.seen < y.seen) || (x.seen == y.seen && bl (keyT x.t).data.toList (keyT y.t).data.toList)) = true at h
  rw [Bool.or_eq_true, Bool.and_eq_true, decide_eq_true_eq, beq_iff_eq] at h
  omega
/-- What is known between two rounds. -/
structure BdInv (most now : Int) (L : List Fl) : Prop where
  has : 0 < most → ∃ x ∈ L, x.t = (mkF 77 100).t ∧ x.seen = now
  none : most = 0 → L = []
theorem atF_has {L : List Fl} (hk : (L.map (·.t)).Nodup) {x : Fl} (hx : x ∈ L) : atF L x.t = some x := (atF_some hk).2 ⟨hx, rfl⟩
/-- The flow is touched. -/
theorem bd_touch {most now now' : Int} {L : List Fl} (h : BdInv most now L) (hm : 0 ≤ most) (hok : OkF most L) (h1 : now ≤ now') (h0 : 0 ≤ now) (h2 : now' ≤ 1000000) : BdInv most now' (touchF L (mkF 77 100).t now').1 := by
  refine ⟨fun hp => ?_, fun hz => ?_⟩
  · obtain ⟨x, hx, e1, e2⟩ := h.has hp
    have hat : atF L (mkF 77 100).t = some x := by rw [← e1]; exact atF_has hok.keys hx
    unfold touchF
    rw [hat]
    simp only
    rw [if_pos ⟨⟨by omega, by omega⟩, by omega⟩]
    exact ⟨{ x with seen := now' }, (insF_perm _ _).mem_iff.2 (by simp), e1, rfl⟩
  · rw [h.none hz]; rfl
theorem idleD_mem {L : List Fl} {c : Int} {x : Fl} (h : x ∈ idleD L c) : x ∈ L ∧ x.seen ≤ c := by
  unfold idleD at h
  induction L with
  | nil => simp at h
  | cons y r ih =>
    rw [List.takeWhile_cons] at h
    split at h
    · rename_i hy
      rcases List.mem_cons.1 h with rfl | h
      · exact ⟨by simp, by simpa [isIdle] using hy⟩
      · exact ⟨List.mem_cons_of_mem _ (ih h).1, (ih h).2⟩
    · simp at h
theorem idleR_sub {L : List Fl} {c : Int} {x : Fl} (h : x ∈ idleR L c) : x ∈ L := (List.dropWhile_sublist _).subset h
theorem idleR_late2 {L : List Fl} (h : L.Pairwise (fun x y => x.seen ≤ y.seen)) (c : Int) : ∀ x ∈ idleR L c, c < x.seen := by
  induction L with
  | nil => intro x hx; simp [idleR] at hx
  | cons y r ih =>
    obtain ⟨h1, h2⟩ := List.pairwise_cons.1 h
    intro x hx
    unfold idleR at *
    rw [List.dropWhile_cons] at hx
    split at hx
    · exact ih h2 x hx
    · rename_i hy
      have hy' : c < y.seen := by simpa [isIdle] using hy
      rcases List.mem_cons.1 hx with rfl | hx
      · exact hy'
      · have := h1 x hx; omega
/-- The idle ones are gone: the flow is not among them. -/
theorem bd_idle {most now c : Int} {L : List Fl} (h : BdInv most now L) (hm : 0 ≤ most) (hk : (L.map (·.t)).Nodup) (hc : c < now) : BdInv most now (idleR L c) ∧ ∀ x ∈ idleD L c, x.t ≠ (mkF 77 100).t := by
  have happ := idle_app L c
  have key : ∀ x ∈ L, x.t = (mkF 77 100).t → x.seen = now := fun x hx e => by
    by_cases hp : 0 < most
    · obtain ⟨y, hy, e1, e2⟩ := h.has hp
      have h1 := atF_has hk hx
      have h2 := atF_has hk hy
      rw [e] at h1; rw [e1] at h2
      rw [h1] at h2
      have := Option.some.inj h2
      rw [this]; exact e2
    · rw [h.none (by omega)] at hx; simp at hx
  refine ⟨⟨fun hp => ?_, fun hz => ?_⟩, fun x hx e => ?_⟩
  · obtain ⟨x, hx, e1, e2⟩ := h.has hp
    refine ⟨x, ?_, e1, e2⟩
    rw [← happ] at hx
    rcases List.mem_append.1 hx with hx | hx
    · have := (idleD_mem hx).2; omega
    · exact hx
  · rw [h.none hz]; rfl
  · obtain ⟨h1, h2⟩ := idleD_mem hx
    have := key x h1 e
    omega
/-- Another flow is pinned, or is not. -/
theorem bd_put {most now : Int} {L : List Fl} (h : BdInv most now L) (hm : 0 ≤ most) {f : Fl} (hf : f.t ≠ (mkF 77 100).t) : BdInv most now (putF most L f).1 := by
  refine ⟨fun hp => ?_, fun hz => ?_⟩
  · obtain ⟨x, hx, e1, e2⟩ := h.has hp
    refine ⟨x, ?_, e1, e2⟩
    rcases putF_err most L f with ⟨_, _, e⟩ | ⟨_, _, e⟩ | ⟨_, _, e, _⟩
    · rw [e]; exact hx
    · rw [e]; exact hx
    · rw [e]
      refine (insF_perm _ _).mem_iff.2 (List.mem_cons_of_mem _ (delF_mem.2 ⟨hx, fun e3 => hf (by rw [← e3, e1])⟩))
  · have hL := h.none hz
    subst hL
    rcases putF_err most [] f with ⟨_, _, e⟩ | ⟨_, _, e⟩ | ⟨_, _, e, _, h5⟩
    · exact e
    · exact e
    · rcases h5 with h5 | h5
      · exact absurd rfl h5
      · simp at h5; omega
theorem bd_start (most : Int) (hm : 0 ≤ most) : BdInv most 100 (putF most [] (mkF 77 100)).1 ∧ ((putF most [] (mkF 77 100)).2.2 == 0) = decide (0 < most) := by
  by_cases h : most ≤ 0
  · have h0 : most = 0 := by omega
    subst h0
    exact ⟨⟨fun h => by omega, fun _ => by decide⟩, by decide⟩
  · have hmay : MayF (mkF 77 100) := by decide
    have e : putF most [] (mkF 77 100) = ([mkF 77 100], true, 0) := by
      unfold putF
      rw [if_neg (Decidable.not_not.2 hmay), if_neg (by rintro ⟨_, h2⟩; simp at h2; omega)]; rfl
    rw [e]
    refine ⟨⟨fun _ => ⟨mkF 77 100, by simp, rfl, rfl⟩, fun h2 => by omega⟩, ?_⟩
    simp; omega
theorem cut_nat2 (n : Int) {m : Int} (h0 : 0 < m) (h1 : m ≤ 1000000) : ∃ N : Nat, wrap64 ((IntKind.u64.wrap n).tmod m) = (N : Int) ∧ (N : Int) < m := by
  obtain ⟨a, b⟩ := cutU_bd n h0 h1
  exact ⟨(cutU n m).toNat, by show cutU n m = _; omega, by omega⟩
theorem bd_late {N c : Int} {M : List Fl} {f : Fl} (h : ∀ x ∈ M, c < x.seen) (hf : c < f.seen) : ∀ x ∈ (putF N M f).1, c < x.seen := fun x hx => by
  rcases putF_mem hx with rfl | ⟨hx, _⟩
  · exact hf
  · exact h x hx
def BRel2 (w : World) (bt kb cb : Nat) (N ti : Int) (c : Cl) (v : Value) (D M : List Fl) (k : Value) (wr : World) : Prop := ∃ q : Nat, k = .int .i64 q ∧ q ≤ D.length ∧ In [] w wr [RowA 59 8 v D.length (flatF D), Cells cb (encC c) 69, FA bt N (ti + 1) M, Cells kb (encF (mkF 77 100)) 59]
def BRel3 (w : World) (bt kb : Nat) (N ti : Int) (v : Value) (D M : List Fl) (k : Value) (wr : World) : Prop := ∃ q : Nat, k = .int .i64 q ∧ q ≤ D.length ∧ In [] w wr [RowA 59 8 v D.length (flatF D), FA bt N (ti + 1) M, Cells kb (encF (mkF 77 100)) 59]
theorem o_rowF' {F0 : List Nat} {w0 w : World} {R : List Asrt} {S : List Fl} {a : Option Addr} {n cap : Nat} (h : In F0 w0 w R) (i : Nat) (hi : R[i]? = some (RowA 59 8 (.slice a n cap) S.length (flatF S))) (h0 : 0 < S.length) :
    ∃ g, a = some ⟨g, 0, none⟩ ∧ ∀ (j : Nat) (x : Fl), S[j]? = some x → FlAt w g (j * 8) x := by
  obtain ⟨F, hF⟩ := h.get i hi
  obtain ⟨gg, o, e, hc⟩ := view_flow hF.view h0
  subst e
  obtain ⟨_, _, h4 | ⟨g', c, cur, e, _⟩⟩ := hF
  · omega
  · cases e; exact ⟨_, rfl, fun j x hx => by have := hc j x hx; rwa [Nat.zero_add] at this⟩
def BRel (w : World) (bt kb : Nat) (N ti : Int) (L : List Cl) (n8 k : Value) (wr : World) : Prop := ∃ (j : Nat) (now : Int) (M : List Fl), k = .int .i64 j ∧ n8 = .int .i64 now ∧ j ≤ L.length ∧ j ≤ 100 ∧ 100 ≤ now ∧ now ≤ 100 + 50 * j ∧ BdInv N now M ∧ In [] w wr [FA bt N (ti + 1) M, Cells kb (encF (mkF 77 100)) 59]
set_option maxHeartbeats 32000000 in
theorem walk_FlowsBound (w : World) (most : Int) (hm : (Lit.int .i64 most).wf = true) (idle : Int) (hi : (Lit.int .i64 idle).wf = true) {a : Option Addr} {len cap : Nat} {L : List Cl} (hL : ArgCl w a len cap L) :
    Calls Try.prog 7 #[.int .i64 most, .int .i64 idle, .slice a len cap] w (TruePost w) := by
  have hlen := hL.length
  subst hlen
  have HL := Lib.hid hL
  have hcap : L.length ≤ 9223372036854775807 := by have h1 := hL.room; have h2 := hL.most; unfold maxLen at h2; omega
  obtain ⟨N, hN, hN2⟩ := cut_nat2 most (m := 20) (by omega) (by omega)
  obtain ⟨ti, hti, hti2⟩ := cut_nat2 idle (m := 50) (by omega) (by omega)
  have HNE := Lib.hid hN
  have HTE := Lib.hid hti
  have b1 : 0 ≤ wrap64 ((IntKind.u64.wrap idle).tmod 50) := by omega
  have b2 : wrap64 ((IntKind.u64.wrap idle).tmod 50) < 50 := by omega
  have hcl : clampI ((ti : Int) + 1) = (ti : Int) + 1 := by unfold clampI; omega
  have hcm : clampM (N : Int) = (N : Int) := by unfold clampM; omega
  have HN := Lib.hid (o_fnew (Own.nil w) (N : Int) ((ti : Int) + 1))
  rw [hcl, hcm] at HN
  clear hL hm hi hN hti hcl hcm
  go_enter Try.func7, Try.ntmps7
  go_wp2_with fail
  rw [HNE.out, HTE.out]
  generalize wrap64 ((IntKind.u64.wrap idle).tmod 50) = z1 at *
  clear b1 b2 HNE HTE
  refine HN.out.mono ?_
  rintro e w1 ⟨bt, rfl, ho⟩
  have HF := Lib.hid (o_f11flow ho 77 100)
  clear ho HN
  go_wp2_with fail
  refine HF.out.mono ?_
  rintro e w2 ⟨rfl, ho⟩
  have hcs := ho.cells (encF (mkF 77 100)) 59
  have HP := Lib.hid (o_fput hcs 1 rfl (f := mkF 77 100) (mkF_wf 77 100))
  obtain ⟨s1, s2⟩ := bd_start (N : Int) (by omega)
  clear ho hcs HF
  go_wp2_with fail
  generalize w2.heap.size = kb at *
  refine HP.out.mono ?_
  rintro e w3 ⟨rfl, ho⟩
  have H3 := Lib.hid (ho.perm (List.Perm.swap _ _ _))
  have HS1 := Lib.hid s1
  have hcase : ((putF (N : Int) [] (mkF 77 100)).2.2 = 0 ∧ 0 < N) ∨ ((putF (N : Int) [] (mkF 77 100)).2.2 = 9 ∧ N = 0) := by
    rcases putF_err (N : Int) [] (mkF 77 100) with ⟨e1, _, _⟩ | ⟨e1, _, _⟩ | ⟨e1, _, _⟩
    · exfalso
      have hmay : MayF (mkF 77 100) := by decide
      unfold putF at e1
      rw [if_neg (Decidable.not_not.2 hmay)] at e1
      split at e1 <;> simp at e1
    · right; refine ⟨e1, ?_⟩
      rw [e1] at s2; simp at s2; omega
    · left; refine ⟨e1, ?_⟩
      rw [e1] at s2; simp at s2; omega
  clear ho HP s1 s2
  generalize putF (N : Int) [] (mkF 77 100) = P at *
  obtain ⟨PL, Pb, Pe⟩ := P
  simp only at hcase
  have HS : Hid (BRel w bt kb N ti L (.int .i64 100) (.int .i64 0) w3) := Lib.hid ⟨0, 100, PL, rfl, rfl, Nat.zero_le _, by omega, by omega, by omega, HS1.out, H3.out⟩
  clear H3 HS1
  have HNC : Hid (0 < N ∨ N = 0) := Lib.hid (by omega)
  rcases hcase with ⟨rfl, hN0⟩ | ⟨rfl, hN0⟩
  case' inl => have hN1 : decide (0 < N) = true := by simp; omega
  case' inr => have hN1 : decide (0 < N) = false := by simp; omega
  all_goals
    clear hN0
    go_wp2_with fail
    go_loopw [8, 12, 13, 15, 16, 18, 48] (fun n8 _ _ _ _ _ k wr => BRel w bt kb N ti L n8 k wr) (fun _ _ _ _ _ _ k _ => L.length - (intOf k).toNat)
    case atStart => exact HS.out
    case round =>
      obtain ⟨j, now, M, rfl, rfl, hj, hj100, hn0, hn1, hinv, ho⟩ := hrel
      clear HS
      by_cases hlt : j < L.length
      · obtain ⟨b, o, c, rfl, hb, hx, hwx, hc⟩ := HL.out.read hlt
        obtain ⟨c0, c1, c2, c3, c4, c5, c6, c7, c8, c9⟩ := hc.old ho hb
        have i1 : (j : Int) < (L.length : Int) := by omega
        by_cases h100 : j < 100
        · have h100' : decide ((100 : Int) ≤ (j : Int)) = false := by simp; omega
          have HJ : Hid (j + 1 ≤ 100) := Lib.hid (by omega)
          have HI := Lib.hid (ho.cells (encC c) 69)
          have HINV := Lib.hid hinv
          have hok := ho.okF 0 rfl
          have HOK := Lib.hid hok
          have ht0 : (0 : Int) ≤ (ti : Int) := by omega
          obtain ⟨d0, d1⟩ := cutU_bd c.now (m := (ti : Int) + 1) (by omega) (by omega)
          unfold cutU at d0 d1
          obtain ⟨k0, k1, k2, k3, k4, k5, k6, k7⟩ := o_fl0 HI.out 2 rfl
          have HWC := Lib.hid hwx
          clear ho hc hx hwx hlt hinv h100 hok
          go_wp2_with fail
          generalize hdn : wrap64 ((IntKind.u64.wrap c.now).tmod ((ti : Int) + 1)) = dn at *
          clear hdn
          have hnb : now + dn ≤ 1000000 := by omega
          have HT := Lib.hid (bd_touch HINV.out (by omega) HOK.out (show now ≤ now + dn by omega) (by omega) hnb)
          refine (o_ftouch HI.out 1 rfl (mkF_wf 77 100) (now + dn)).mono ?_
          rintro e w4 ⟨rfl, ho⟩
          have hrow := ho.rowF2 1 rfl
          have hok := ho.okF 1 rfl
          have HOK1 := Lib.hid hok
          have HT2 := Lib.hid (bd_idle HT.out (by omega) hok.keys (show now + dn - ((ti : Int) + 1) < now + dn by omega))
          have HLATE := Lib.hid (idleR_late2 hrow (now + dn - ((ti : Int) + 1)))
          have HID := Lib.hid (o_fidle ho 1 rfl (by omega) (by omega) (now + dn) (by omega) (by omega))
          change Hid _ at HT2
          generalize (touchF M (mkF 77 100).t (now + dn)).1 = M1 at *
          clear ho hrow hok k0 k1 k2 k3 k4 k5 k6 k7 HT HOK HINV
          go_wp2_with fail
          refine HID.out.mono ?_
          rintro e w5 ⟨v5, rfl, ho⟩
          have hmay : ∀ x ∈ idleD M1 (now + dn - ((ti : Int) + 1)), 0 ≤ x.seen ∧ x.seen ≤ 1099511627776 := fun x hx => by
            have := (HOK1.out).may x (idleD_mem hx).1
            exact ⟨this.t0, this.t1⟩
          have HD : Hid (∀ x ∈ idleD M1 (now + dn - ((ti : Int) + 1)), x.t ≠ (mkF 77 100).t ∧ (0 ≤ x.seen ∧ x.seen ≤ 1099511627776) ∧ x.seen ≤ now + dn - ((ti : Int) + 1)) := Lib.hid fun x hx => ⟨HT2.out.2 x hx, hmay x hx, (idleD_mem hx).2⟩
          have hdl : (idleD M1 (now + dn - ((ti : Int) + 1))).length ≤ 1000 := by
            have h1 := congrArg List.length (idle_app M1 (now + dn - ((ti : Int) + 1)))
            rw [List.length_append] at h1
            have h2 := HOK1.out.room
            omega
          have HB2 := Lib.hid HT2.out.1
          have HNW : Hid (now ≤ now + dn ∧ now + dn ≤ now + 50) := Lib.hid ⟨by omega, by omega⟩
          clear HT2 HOK1 hmay HID HI d0 d1
          generalize idleD M1 (now + dn - ((ti : Int) + 1)) = D at *
          generalize idleR M1 (now + dn - ((ti : Int) + 1)) = M2 at *
          generalize now + dn = nw at *
          obtain ⟨F5, hv5⟩ := ho.get 0 rfl
          obtain ⟨a5, cp5, rfl, l1, l2, -⟩ := hv5.shape
          unfold maxLen at l2
          obtain ⟨wo, rfl⟩ : ∃ wo : World, wo = wr := ⟨_, rfl⟩
          generalize wo.heap.size = cb at *
          have HS2 : Hid (BRel2 w bt kb cb N ti c (.slice a5 D.length cp5) D M2 (.int .i64 0) w5) := Lib.hid ⟨0, rfl, Nat.zero_le _, ho⟩
          have hnw0 : 100 ≤ nw := by have := HNW.out; omega
          clear ho hv5
          go_wp2_with fail
          go_loopw [15, 73] (fun _ k wr => BRel2 w bt kb cb N ti c (.slice a5 D.length cp5) D M2 k wr) (fun _ k _ => D.length - (intOf k).toNat)
          case atStart => exact HS2.out
          case round =>
            obtain ⟨q, rfl, hq, ho⟩ := hrel
            clear HS2
            by_cases hltq : q < D.length
            · obtain ⟨x, hx⟩ : ∃ x, D[q]? = some x := ⟨D[q], List.getElem?_eq_getElem hltq⟩
              obtain ⟨g, rfl, hcc⟩ := o_rowF' ho 0 rfl (by omega)
              obtain ⟨x0, x1, x2, x3, x4, x5, x6, x7⟩ := hcc q x hx
              obtain ⟨hne, ⟨hs0, hs1⟩, hs2⟩ := HD.out x (List.mem_of_getElem? hx)
              obtain ⟨k0, k1, k2, k3, k4, k5, k6, k7⟩ := o_fl0 (ho.alloc (.cells (encF x) 59)) 3 rfl
              have htq : ∀ w, (binOp .eql 57 (.agg (encT x.t)) (.agg (encT (mkF 77 100).t))).run Try.prog w = .ok (.bool false) w := fun w => by rw [tup_eq, decide_eq_false hne]
              have hgt : decide (nw < x.seen + ((ti : Int) + 1)) = false := by simp; omega
              have i3 : (q : Int) < (D.length : Int) := by omega
              have HR3 : Hid (BRel2 w bt kb cb N ti c (.slice (some ⟨g, 0, none⟩) D.length cp5) D M2 (.int .i64 (q + 1)) (wr.alloc (.cells (encF x) 59))) := Lib.hid ⟨q + 1, by congr 1, by omega, ho.alloc _⟩
              clear ho hcc hx hltq hne
              go_wp2_with fail
              go_roundw
              case rel => exact HR3.out
              case measure => simp [intOf]; omega
            · have hgeq : (D.length : Int) ≤ (q : Int) := by omega
              clear hltq
              have hcl := o_cl ho 1 rfl
              obtain ⟨y0, y1, y2, y3, y4, y5, y6, y7, y8, y9⟩ := hcl
              simp only [Nat.zero_add] at y0 y1 y2 y3 y4 y5 y6 y7 y8 y9
              obtain ⟨k0, k1, k2, k3, k4, k5, k6, k7⟩ := o_fl0 (ho.alloc (.cells (encF c.f) 59)) 3 rfl
              obtain ⟨m0, m1⟩ := cutU_bd c.f.seen (m := (ti : Int) + 1) (by omega) (by omega)
              unfold cutU at m0 m1
              have hnw1 : nw ≤ 1000000 := hnb
              have HTE := Lib.hid (tup_eq c.f.t (mkF 77 100).t)
              have HO := Lib.hid (ho.drop.drop)
              clear ho
              by_cases he : c.f.t = (mkF 77 100).t
              case' pos =>
                have ht : ∀ w, (binOp .eql 57 (.agg (encT c.f.t)) (.agg (encT (mkF 77 100).t))).run Try.prog w = .ok (.bool true) w := fun w => by rw [HTE.out]; simp [he]
                have HP := Lib.hid (o_fput (f := ⟨⟨IntKind.u32.wrap (c.f.t.src + 1), c.f.t.dst, c.f.t.proto, c.f.t.sport, c.f.t.dport⟩, c.f.bk, c.f.gen, nw - wrap64 ((IntKind.u64.wrap c.f.seen).tmod ((ti : Int) + 1))⟩) (HO.out.alloc (.cells (encF ⟨⟨IntKind.u32.wrap (c.f.t.src + 1), c.f.t.dst, c.f.t.proto, c.f.t.sport, c.f.t.dport⟩, c.f.bk, c.f.gen, nw - wrap64 ((IntKind.u64.wrap c.f.seen).tmod ((ti : Int) + 1))⟩) 59)) 0 rfl (by
                  have := HWC.out.f.t
                  have hw : IntKind.u32.wrap (c.f.t.src + 1) = 78 := by rw [he]; decide
                  exact ⟨by show 0 ≤ IntKind.u32.wrap _; rw [hw]; omega, by show IntKind.u32.wrap _ < _; rw [hw]; omega, this.d0, this.d1, this.p0, this.p1, this.sp0, this.sp1, this.dp0, this.dp1⟩))
                have HB3 := Lib.hid (bd_put (f := ⟨⟨IntKind.u32.wrap (c.f.t.src + 1), c.f.t.dst, c.f.t.proto, c.f.t.sport, c.f.t.dport⟩, c.f.bk, c.f.gen, nw - wrap64 ((IntKind.u64.wrap c.f.seen).tmod ((ti : Int) + 1))⟩) HB2.out (by omega) (by
                  intro e
                  have hw : IntKind.u32.wrap (c.f.t.src + 1) = 78 := by rw [he]; decide
                  have := congrArg Tup.src e
                  simp only [hw] at this
                  exact absurd this (by decide)))
                have HL3 := Lib.hid (bd_late (N := (N : Int)) (f := ⟨⟨IntKind.u32.wrap (c.f.t.src + 1), c.f.t.dst, c.f.t.proto, c.f.t.sport, c.f.t.dport⟩, c.f.bk, c.f.gen, nw - wrap64 ((IntKind.u64.wrap c.f.seen).tmod ((ti : Int) + 1))⟩) HLATE.out (by show nw - ((ti : Int) + 1) < nw - _; omega))
              case' neg =>
                have ht : ∀ w, (binOp .eql 57 (.agg (encT c.f.t)) (.agg (encT (mkF 77 100).t))).run Try.prog w = .ok (.bool false) w := fun w => by rw [HTE.out]; simp [he]
                have HP := Lib.hid (o_fput (f := ⟨c.f.t, c.f.bk, c.f.gen, nw - wrap64 ((IntKind.u64.wrap c.f.seen).tmod ((ti : Int) + 1))⟩) (HO.out.alloc (.cells (encF ⟨c.f.t, c.f.bk, c.f.gen, nw - wrap64 ((IntKind.u64.wrap c.f.seen).tmod ((ti : Int) + 1))⟩) 59)) 0 rfl HWC.out.f.t)
                have HB3 := Lib.hid (bd_put (f := ⟨c.f.t, c.f.bk, c.f.gen, nw - wrap64 ((IntKind.u64.wrap c.f.seen).tmod ((ti : Int) + 1))⟩) HB2.out (by omega) he)
                have HL3 := Lib.hid (bd_late (N := (N : Int)) (f := ⟨c.f.t, c.f.bk, c.f.gen, nw - wrap64 ((IntKind.u64.wrap c.f.seen).tmod ((ti : Int) + 1))⟩) HLATE.out (by show nw - ((ti : Int) + 1) < nw - _; omega))
              all_goals
                clear he HTE
                go_wp2_with fail
                refine HP.out.mono ?_
                rintro e w6 ⟨rfl, ho⟩
                generalize putF (N : Int) M2 _ = P6 at *
                clear HP ht y0 y1 y2 y3 y4 y5 y6 y7 y8 y9 k0 k1 k2 k3 k4 k5 k6 k7
                have hok6 := ho.okF 0 rfl
                have hroom : decide (N < P6.1.length) = false := by have := hok6.room; simp; omega
                have HLEN := Lib.hid (o_flen ho 0 rfl)
                have HALL := Lib.hid (o_fall ho 0 rfl)
                have HMAY6 : Hid (∀ x ∈ sortF P6.1, nw - ((ti : Int) + 1) < x.seen ∧ 0 ≤ x.seen ∧ x.seen ≤ 1099511627776) := Lib.hid fun x hx => by
                  have hm6 := (sortF_perm P6.1).mem_iff.1 hx
                  exact ⟨HL3.out x hm6, (hok6.may x hm6).t0, (hok6.may x hm6).t1⟩
                have hsl : (sortF P6.1).length ≤ 1000 := by rw [sortF_length]; have := hok6.room; omega
                clear ho hok6
                go_wp2_with fail
                refine HLEN.out.mono ?_
                rintro e w7 ⟨rfl, rfl⟩
                go_wp2_with fail
                refine HALL.out.mono ?_
                rintro e w8 ⟨v8, rfl, ho⟩
                obtain ⟨F8, hv8⟩ := ho.get 0 rfl
                obtain ⟨a8, c8, rfl, l81, l82, -⟩ := hv8.shape
                unfold maxLen at l82
                generalize sortF P6.1 = S at *
                have HS3 : Hid (BRel3 w bt kb N ti (.slice a8 S.length c8) S P6.1 (.int .i64 0) w8) := Lib.hid ⟨0, rfl, Nat.zero_le _, ho⟩
                clear ho hv8 HALL HLEN
                go_wp2_with fail
                go_loopw [18, 124] (fun _ k wr => BRel3 w bt kb N ti (.slice a8 S.length c8) S P6.1 k wr) (fun _ k _ => S.length - (intOf k).toNat)
                case atStart => exact HS3.out
                case round =>
                  obtain ⟨q3, rfl, hq3, ho⟩ := hrel
                  clear HS3
                  by_cases hlt3 : q3 < S.length
                  · obtain ⟨x, hx⟩ : ∃ x, S[q3]? = some x := ⟨S[q3], List.getElem?_eq_getElem hlt3⟩
                    obtain ⟨g, rfl, hcc⟩ := o_rowF' ho 0 rfl (by omega)
                    obtain ⟨x0, x1, x2, x3, x4, x5, x6, x7⟩ := hcc q3 x hx
                    obtain ⟨hs2, hs0, hs1⟩ := HMAY6.out x (List.mem_of_getElem? hx)
                    have hle3 : decide (x.seen + ((ti : Int) + 1) ≤ nw - ((ti : Int) + 1)) = false := by simp; omega
                    have i3 : (q3 : Int) < (S.length : Int) := by omega
                    have HR3 : Hid (BRel3 w bt kb N ti (.slice (some ⟨g, 0, none⟩) S.length c8) S P6.1 (.int .i64 (q3 + 1)) (wr.alloc (.cells (encF x) 59))) := Lib.hid ⟨q3 + 1, by congr 1, by omega, ho.alloc _⟩
                    clear ho hcc hx hlt3
                    go_wp2_with fail
                    go_roundw
                    case rel => exact HR3.out
                    case measure => simp [intOf]; omega
                  · have hge3 : (S.length : Int) ≤ (q3 : Int) := by omega
                    have HEND : Hid (BRel w bt kb N ti L (.int .i64 nw) (.int .i64 (j + 1)) wr) := Lib.hid ⟨j + 1, nw, P6.1, by congr 1, rfl, by omega, HJ.out, by omega, by have := HNW.out; omega, HB3.out, ho.drop⟩
                    clear ho hlt3
                    go_wp2_with fail
                    go_roundw
                    case rel => exact HEND.out
                    case measure => simp [intOf]; omega
        · have h100' : decide ((100 : Int) ≤ (j : Int)) = true := by simp; omega
          replace ho := ho.alloc (.cells (encC c) 69)
          clear hc hx hwx hlt h100
          have HG := Lib.hid (o_fget ho 0 rfl (mkF_wf 77 100))
          obtain ⟨k0, k1, k2, k3, k4, k5, k6, k7⟩ := o_fl0 ho 1 rfl
          have hsome : (atF M (mkF 77 100).t).isSome = decide (0 < N) := by
            rcases HNC.out with h | h
            · obtain ⟨x, hx, e1, _⟩ := hinv.has (by omega)
              have hok := ho.okF 0 rfl
              rw [← e1, atF_has hok.keys hx]; simp [h]
            · rw [hinv.none (by omega)]; simp [atF, h]
          rw [hsome, hN1] at HG
          clear ho hinv hsome
          go_wp2_with fail
          refine HG.out.mono ?_
          rintro e w9 ⟨rfl, ho⟩
          have HM := Lib.hid ho.mod
          clear ho HG
          go_wp2_with fail
          refine (f11awake _).mono ?_
          rintro e w10 ⟨rfl, hmod⟩
          have HM2 := Lib.hid ((HM.out.alloc _).trans hmod (fun x hx => by simp at hx))
          clear hmod
          go_wp2_with fail
          go_ret
          exact ⟨rfl, HM2.out⟩
      · have hgeL : (L.length : Int) ≤ (j : Int) := by omega
        clear hlt
        have HG := Lib.hid (o_fget ho 0 rfl (mkF_wf 77 100))
        obtain ⟨k0, k1, k2, k3, k4, k5, k6, k7⟩ := o_fl0 ho 1 rfl
        have hsome : (atF M (mkF 77 100).t).isSome = decide (0 < N) := by
          rcases HNC.out with h | h
          · obtain ⟨x, hx, e1, _⟩ := hinv.has (by omega)
            have hok := ho.okF 0 rfl
            rw [← e1, atF_has hok.keys hx]; simp [h]
          · rw [hinv.none (by omega)]; simp [atF, h]
        rw [hsome, hN1] at HG
        clear ho hinv hsome
        go_wp2_with fail
        refine HG.out.mono ?_
        rintro e w9 ⟨rfl, ho⟩
        have HM := Lib.hid ho.mod
        clear ho HG
        go_wp2_with fail
        refine (f11awake _).mono ?_
        rintro e w10 ⟨rfl, hmod⟩
        have HM2 := Lib.hid ((HM.out.alloc _).trans hmod (fun x hx => by simp at hx))
        clear hmod
        go_wp2_with fail
        go_ret
        exact ⟨rfl, HM2.out⟩
end Go.Proofs.Ytcakgponofbhkaa
