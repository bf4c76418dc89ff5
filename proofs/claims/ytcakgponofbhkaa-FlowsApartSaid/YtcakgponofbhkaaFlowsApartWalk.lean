/- What one tuple's flow becomes makes no difference to others. -/
import Derived.Test.YtcakgponofbhkaaFlowPlain
namespace Go.Proofs.Ytcakgponofbhkaa
open Go.RowKit
set_option linter.unusedVariables false
set_option maxRecDepth 100000
attribute [-go_sem] run_eql_struct

/-- The table when j flows have been looked at: all but t's. -/
def apF (L : List Fl) (t : Tup) : Nat → List Fl
  | 0 => []
  | j + 1 => match L[j]? with
    | some x => if j < 60 ∧ x.t ≠ t then (putF 100 (apF L t j) x).1 else apF L t j
    | none => apF L t j
theorem apF_ne (L : List Fl) (t : Tup) : ∀ j, ∀ y ∈ apF L t j, y.t ≠ t
  | 0, y, h => by simp [apF] at h
  | j + 1, y, h => by
    have ih := apF_ne L t j
    unfold apF at h
    split at h
    · split at h
      · rename_i x _ hc
        rcases putF_mem h with rfl | ⟨h, _⟩
        · exact hc.2
        · exact ih y h
      · exact ih y h
    · exact ih y h
theorem sameflows_true {w : World} {v v' : Value} {A : List Fl} {F F' : List Nat} (h : ViewA 8 v A.length (flatF A) w F) (h' : ViewA 8 v' A.length (flatF A) w F') : Calls Try.prog 31 #[v, v'] w (SamePost true w) := by
  have := sameflows h h'
  rwa [decide_eq_true rfl] at this
def ApRel (w : World) (bt fb : Nat) (f : Fl) (L : List Fl) (k : Value) (wr : World) : Prop := ∃ j : Nat, k = .int .i64 j ∧ j ≤ L.length ∧ In [] w wr [FA bt 100 10 (apF L f.t j), Cells fb (encF f) 59]
/-- What the end holds. -/
theorem apart_plain {L0 : List Fl} {f : Fl} (now : Int) (h0 : ∀ y ∈ L0, y.t ≠ f.t) (hok : OkF 100 L0) (wf : WfT f.t) :
    ∃ L1 L2 L3 : List Fl, ∃ er : Int, putF 100 L0 f = (L1, (putF 100 L0 f).2.1, er) ∧ (touchF L1 f.t now).1 = L2 ∧ delF f.t L2 = L3 ∧ atF L3 f.t = none ∧ delF f.t L3 = L3 ∧ sortF L3 = sortF L0 ∧ ((er = 0 ∧ (atF L2 f.t).isSome = true) ∨ (er = 1 ∧ (atF L2 f.t).isSome = false) ∨ (er = 9 ∧ (atF L2 f.t).isSome = false)) := by
  have hn : atF L0 f.t = none := atF_none.2 h0
  have hd : delF f.t L0 = L0 := delF_none hn
  refine ⟨(putF 100 L0 f).1, _, _, (putF 100 L0 f).2.2, rfl, rfl, rfl, ?_, ?_, ?_, ?_⟩
  · exact atF_none.2 (fun x hx => (delF_mem.1 hx).2)
  · exact delF_none (atF_none.2 (fun x hx => (delF_mem.1 hx).2))
  · obtain ⟨t1, t2⟩ := touch_del (putF 100 L0 f).1 f.t now
    refine sortF_of (t2.trans ?_) hok.keys
    rcases putF_err 100 L0 f with ⟨_, _, e⟩ | ⟨_, _, e⟩ | ⟨_, _, e, _⟩
    · rw [e, hd]
    · rw [e, hd]
    · rw [e]; exact (delF_ins).trans (by rw [hd])
  · obtain ⟨t1, t2⟩ := touch_del (putF 100 L0 f).1 f.t now
    rw [t1]
    rcases putF_err 100 L0 f with ⟨e1, _, e⟩ | ⟨e1, _, e⟩ | ⟨e1, _, e, _⟩
    · rw [e, hn]; exact Or.inr (Or.inl ⟨e1, rfl⟩)
    · rw [e, hn]; exact Or.inr (Or.inr ⟨e1, rfl⟩)
    · rw [e, atF_ins]; exact Or.inl ⟨e1, rfl⟩
set_option maxHeartbeats 16000000 in
theorem walk_FlowsApart (w : World) {a : Option Addr} {len cap : Nat} {L : List Fl} (hL : ArgFl w a len cap L) (f : Fl) (wf : WfF f) (now : Int) (hnow : (Lit.int .i64 now).wf = true) :
    Calls Try.prog 8 #[.slice a len cap, .agg (encF f), .int .i64 now] w (TruePost w) := by
  have hlen := hL.length
  subst hlen
  have hm : Try.prog.eqGuardType Try.prog.depth 57 = false := by kernel_rfl
  have HL := Lib.hid hL
  have hcap : L.length ≤ 9223372036854775807 := by have h1 := hL.room; have h2 := hL.most; unfold maxLen at h2; omega
  have wt : WfT f.t := wf.t
  have WT := Lib.hid wt
  have h0 := (Own.nil w).cells (encF f) 59
  have H0 := Lib.hid h0
  have HN := Lib.hid (o_fnew H0.out 100 10)
  have HNow := Lib.hid hnow
  clear hL wf wt h0 hnow
  go_enter Try.func8, Try.ntmps8
  go_wp2_with fail
  generalize w.heap.size = fb at *
  refine HN.out.mono ?_
  rintro e w1 ⟨bt, rfl, ho⟩
  have HS : Hid (ApRel w bt fb f L (.int .i64 0) w1) := Lib.hid ⟨0, rfl, Nat.zero_le _, ho⟩
  clear ho HN H0
  go_wp2_with fail
  go_loopw [8, 9, 17] (fun _ _ k wr => ApRel w bt fb f L k wr) (fun _ _ k _ => L.length - (intOf k).toNat)
  case atStart => exact HS.out
  case round =>
    obtain ⟨j, rfl, hj, ho⟩ := hrel
    clear HS
    by_cases hlt : j < L.length
    · obtain ⟨b, o, x, rfl, hb, hx, hwx, hc⟩ := HL.out.read hlt
      obtain ⟨x0, x1, x2, x3, x4, x5, x6, x7⟩ := hc.old ho hb
      have HP := Lib.hid (o_fput (ho.alloc (.cells (encF x) 59)) 0 rfl hwx.t)
      have HO := Lib.hid ho
      have i1 : (j : Int) < (L.length : Int) := by omega
      have HR : Hid (∀ wr', In [] w wr' [FA bt 100 10 (if j < 60 ∧ x.t ≠ f.t then (putF 100 (apF L f.t j) x).1 else apF L f.t j), Cells fb (encF f) 59] → ApRel w bt fb f L (.int .i64 (j + 1)) wr') := Lib.hid fun wr' h => ⟨j + 1, by congr 1, by omega, by unfold apF; rw [hx]; exact h⟩
      by_cases h60 : (j : Int) < 60
      · obtain ⟨f0, f1, f2, f3, f4, f5, f6, f7⟩ := o_fl0 (ho.alloc (.cells (encF x) 59)) 1 rfl
        have HT := Lib.hid (tup_neq x.t f.t)
        clear ho hc hwx hx hlt
        by_cases he : x.t = f.t
        · have hn : ∀ w, (binOp .neq 57 (.agg (encT x.t)) (.agg (encT f.t))).run Try.prog w = .ok (.bool false) w := fun w => by rw [HT.out]; simp [he]
          have HE : Hid (ApRel w bt fb f L (.int .i64 (j + 1)) (wr.alloc (.cells (encF x) 59))) := Lib.hid (HR.out _ (by rw [if_neg (by rintro ⟨_, h⟩; exact h he)]; exact HO.out.alloc _))
          clear he HR HT HO HP
          go_wp2_with fail
          go_roundw
          case rel => exact HE.out
          case measure => simp [intOf]; omega
        · have hn : ∀ w, (binOp .neq 57 (.agg (encT x.t)) (.agg (encT f.t))).run Try.prog w = .ok (.bool true) w := fun w => by rw [HT.out]; simp [he]
          have HR2 : Hid (∀ wr', In [] w wr' [FA bt 100 10 (putF 100 (apF L f.t j) x).1, Cells fb (encF f) 59] → ApRel w bt fb f L (.int .i64 (j + 1)) wr') := Lib.hid fun wr' h => HR.out wr' (by rw [if_pos ⟨by omega, he⟩]; exact h)
          clear he HR HT HO
          go_wp2_with fail
          refine HP.out.mono ?_
          rintro e w2 ⟨rfl, ho⟩
          have HE := Lib.hid (HR2.out _ ho)
          clear ho HP HR2
          go_wp2_with fail
          go_roundw
          case rel => exact HE.out
          case measure => simp [intOf]; omega
      · have hd : decide ((j : Int) < 60) = false := by simpa using h60
        have HE : Hid (ApRel w bt fb f L (.int .i64 (j + 1)) (wr.alloc (.cells (encF x) 59))) := Lib.hid (HR.out _ (by rw [if_neg (by rintro ⟨h, _⟩; exact h60 (by omega))]; exact HO.out.alloc _))
        clear ho hc hwx hx hlt h60 HR HP HO
        go_wp2_with fail
        go_roundw
        case rel => exact HE.out
        case measure => simp [intOf]; omega
    · have hge : (L.length : Int) ≤ (j : Int) := by omega
      have hjl : j = L.length := by omega
      subst hjl
      have hok := ho.okF 0 rfl
      obtain ⟨L1, L2, L3, er, p1, p2, p3, p4, p5, p6, p7⟩ := apart_plain now (apF_ne L f.t L.length) hok WT.out
      have HA1 := Lib.hid (o_fall ho 0 rfl)
      generalize apF L f.t L.length = L0 at *
      clear hlt HL hok
      have P := Lib.hid (And.intro p1 (And.intro p2 (And.intro p3 (And.intro p4 (And.intro p5 p6)))))
      clear p1 p2 p3 p4 p5 p6
      go_wp2_with fail
      refine HA1.out.mono ?_
      rintro e w1 ⟨v, rfl, ho⟩
      have H1 := Lib.hid ho
      clear ho HA1
      obtain ⟨f0, f1, f2, f3, f4, f5, f6, f7⟩ := o_fl0 H1.out 2 rfl
      go_wp2_with fail
      refine (o_fput H1.out 1 rfl WT.out).mono ?_
      rintro e w2 ⟨rfl, ho⟩
      rw [P.out.1] at *
      have H2 := Lib.hid ho
      clear ho f0 f1 f2 f3 f4 f5 f6 f7
      obtain ⟨f0, f1, f2, f3, f4, f5, f6, f7⟩ := o_fl0 H2.out 2 rfl
      go_wp2_with fail
      refine (o_ftouch H2.out 1 rfl WT.out now).mono ?_
      rintro e w3 ⟨rfl, ho⟩
      rw [P.out.2.1] at ho
      have H3 := Lib.hid ho
      clear ho f0 f1 f2 f3 f4 f5 f6 f7
      obtain ⟨f0, f1, f2, f3, f4, f5, f6, f7⟩ := o_fl0 H3.out 2 rfl
      go_wp2_with fail
      refine (o_fdrop H3.out 1 rfl WT.out).mono ?_
      rintro e w4 ⟨rfl, ho⟩
      rw [P.out.2.2.1] at ho
      have H4 := Lib.hid ho
      clear ho f0 f1 f2 f3 f4 f5 f6 f7
      generalize (atF L2 f.t).isSome = ok at *
      have HA2 := Lib.hid (o_fall H4.out 1 rfl)
      rw [P.out.2.2.2.2.2] at HA2
      have hfalse : (atF L3 f.t).isSome = false := by rw [P.out.2.2.2.1]; rfl
      have HF := Lib.hid hfalse
      have HD3 := Lib.hid P.out.2.2.2.2.1
      clear P H1 H2 H3 hfalse
      generalize sortF L0 = S at *
      rcases p7 with ⟨rfl, rfl⟩ | ⟨rfl, rfl⟩ | ⟨rfl, rfl⟩
      all_goals
        go_wp2_with fail
        refine HA2.out.mono ?_
        rintro e w5 ⟨v2, rfl, ho⟩
        obtain ⟨F1, hv1⟩ := ho.get 0 rfl
        obtain ⟨F2, hv2⟩ := ho.get 1 rfl
        have HSF := Lib.hid (sameflows_true hv1.view hv2.view)
        have H5 := Lib.hid ho
        clear ho hv1 hv2 HA2
        go_wp2_with fail
        refine HSF.out.mono ?_
        rintro e w6 ⟨rfl, m, rfl⟩
        have H6 := Lib.hid (H5.out.drewN m)
        clear HSF H5
        obtain ⟨f0, f1, f2, f3, f4, f5, f6, f7⟩ := o_fl0 H6.out 3 rfl
        go_wp2_with fail
        refine (o_fdrop H6.out 2 rfl WT.out).mono ?_
        rintro e w7 ⟨rfl, ho⟩
        rw [HF.out]
        have H7 := Lib.hid ho
        clear ho f0 f1 f2 f3 f4 f5 f6 f7 H6
        go_wp2_with fail
        refine (f11awake _).mono ?_
        rintro e w8 ⟨rfl, hmod⟩
        have HM := Lib.hid (H7.out.mod.trans hmod (fun x hx => by simp at hx))
        clear hmod H7
        go_wp2_with fail
        go_ret
        exact ⟨rfl, HM.out⟩
end Go.Proofs.Ytcakgponofbhkaa
