/- Rows.PathPlaysSaid -/
import Derived.Test.YtgapbecddgfkmaaGreatPY34
import Derived.BigQuiet
import Derived.Deep.QuietTactic
namespace Go.Proofs.YtgapbecddgfkmaaGreat
open Go.RowKit
set_option linter.unusedVariables false
set_option maxHeartbeats 64000000
set_option maxRecDepth 100000
attribute [-go_sem] run_eql_struct
def putRF (most : Int) (L : List Fl) (f : Fl) : List Fl × Bool × Int :=
  if ¬ MayF f then (L, false, 1) else if atF L f.t = none ∧ most ≤ (L.length : Int) then (L, false, 9) else (pfF L f, (atF L f.t).isNone, 0)
theorem rview {F0 : List Nat} {w0 W : World} {R : List Asrt} {v : Value} {L : List Fl} (i : Nat) (h : In F0 w0 W R) (hi : R[i]? = some (RowA 49 8 v L.length (flatF L))) : ∃ F, ViewA 8 v L.length (flatF L) W F := by
  obtain ⟨F, hF⟩ := h.get i hi
  exact ⟨F, hF.view⟩
theorem In.openR {F0 : List Nat} {w0 w : World} {R : List Asrt} {bt : Nat} {most wait : Int} {L : List Fl} (h : In F0 w0 w (RFA bt most wait L :: R)) : ∃ v, In F0 w0 w (RFr bt most wait v L ++ R) := by
  obtain ⟨F, ⟨F1, F2, ⟨v, h1⟩, h2, h3, rfl⟩, hF⟩ := h.star
  refine ⟨v, fun B hB => ?_, ⟨_, star_back h1 h2 h3, hF⟩, h.mod⟩
  rcases List.mem_append.1 hB with hB | hB
  · exact RFr.framed B hB
  · exact h.framed B (List.mem_cons_of_mem _ hB)
theorem In.head {F0 : List Nat} {w0 w : World} {A : Asrt} {R : List Asrt} (h : In F0 w0 w (A :: R)) : In F0 w0 w [A] := by
  obtain ⟨F, ⟨F1, F2, h1, h2, h3, rfl⟩, hF⟩ := h.star
  exact ⟨fun B hB => h.framed B (by simp at hB; simp [hB]), ⟨F1, ⟨F1, [], h1, rfl, fun b _ => by simp, by simp⟩, fun b hb => hF b (List.mem_append_left _ hb)⟩, h.mod⟩
theorem rf_new_row {F : List Nat} {w0 w : World} {bt : Nat} {most wait : Int} {v v' : Value} {L L' : List Fl} {R : List Asrt} {r : Value} (h : In F w0 w (RowA 49 8 v' L'.length (flatF L') :: (RFr bt most wait v L ++ R))) :
    GV r (RFA bt most wait L') w0 F (.returned r) (w.setCell ⟨bt, 0, none⟩ v') := by
  have h2 := h.put 1 rfl 0 v'
  have h3 : In F w0 (w.setCell ⟨bt, 0, none⟩ v') ([Cells bt #[v', .int .i64 most, .int .i64 wait] 78, RowA 49 8 v' L'.length (flatF L')] ++ (RowA 49 8 v L.length (flatF L) :: R)) := h2.perm (List.Perm.swap _ _ _)
  have h4 := (In.join (A1 := RFr bt most wait v' L') h3).head
  exact GV.mk h4 (fun F' hs => by
    obtain ⟨F1, F2, q1, q2, q3, q4⟩ := hs
    obtain rfl : F2 = [] := q2
    rw [q4]
    exact ⟨v', by simpa using q1⟩)
theorem rf_same {F : List Nat} {w0 w : World} {bt : Nat} {most wait : Int} {v : Value} {L : List Fl} {R : List Asrt} {r : Value} (h : In F w0 w (RFr bt most wait v L ++ R)) : GV r (RFA bt most wait L) w0 F (.returned r) w := by
  have h4 := (In.join (A1 := RFr bt most wait v L) h).head
  exact GV.mk h4 (fun F' hs => by
    obtain ⟨F1, F2, q1, q2, q3, q4⟩ := hs
    obtain rfl : F2 = [] := q2
    rw [q4]
    exact ⟨v, by simpa using q1⟩)
theorem rf_put {w : World} {bt : Nat} {most wait : Int} {L : List Fl} {F : List Nat} (h : RFA bt most wait L w F) (hl : L.length ≤ 1000000) {f : Fl} (wf : WfT f.t) :
    Calls Tryz.prog 59 #[.pointer (some ⟨bt, 0, none⟩), .agg (encF f)] w (GV (.tuple #[.bool (putRF most L f).2.1, .int .i64 (putRF most L f).2.2]) (RFA bt most wait (putRF most L f).1) w F) := by
  have h0 := ((in_one (RFA.framed bt most wait L) h).cells (encF f) 49).perm (List.Perm.swap _ _ _)
  by_cases hf : MayF f
  · have HM := Lib.hid (o_rfmay_true h0 hf)
    have HAT : Hid (∀ w', In F w w' [RFA bt most wait L, Cells w.heap.size (encF f) 49] → Calls Tryz.prog 88 #[.pointer (some ⟨bt, 0, none⟩), .agg (encT f.t)] w' fun e w'' => e = .returned (.int .i64 (atIx L f.t)) ∧ In F w w'' [RFA bt most wait L, Cells w.heap.size (encF f) 49]) := Lib.hid fun w' h => o_rfat h 0 rfl hl f.t
    have hput : putRF most L f = if atF L f.t = none ∧ most ≤ (L.length : Int) then (L, false, 9) else (pfF L f, (atF L f.t).isNone, 0) := by unfold putRF; rw [if_neg (Decidable.not_not.2 hf)]
    have hcase : (atIx L f.t = -1 ∧ most ≤ (L.length : Int) ∧ putRF most L f = (L, false, 9)) ∨ (atIx L f.t = -1 ∧ (L.length : Int) < most ∧ putRF most L f = (pfF L f, true, 0)) ∨ (0 ≤ atIx L f.t ∧ putRF most L f = (pfF L f, false, 0)) := by
      rw [hput]
      rcases atF_ix (L := L) (t := f.t) with ⟨e, e2⟩ | ⟨i, x, e, _, _, e2, _⟩
      · rw [e2]
        by_cases hm : most ≤ (L.length : Int)
        · left; exact ⟨e, hm, by rw [if_pos ⟨rfl, hm⟩]⟩
        · right; left; exact ⟨e, by omega, by rw [if_neg (by rintro ⟨_, h⟩; exact hm h)]; rfl⟩
      · right; right; refine ⟨by omega, ?_⟩
        rw [e2, if_neg (by rintro ⟨h, _⟩; cases h)]; rfl
    clear hput h h0 hf
    rcases hcase with ⟨e, hm, hp⟩ | ⟨e, hm, hp⟩ | ⟨e, hp⟩
    case' inl =>
      rw [e] at HAT
      rw [hp]
      have hd : decide (most ≤ (L.length : Int)) = true := by simp; omega
    case' inr.inl =>
      rw [e] at HAT
      rw [hp]
      have hd : decide (most ≤ (L.length : Int)) = false := by simp; omega
    case' inr.inr =>
      rw [hp]
      generalize atIx L f.t = ix at *
      have hd : decide (ix < 0) = false := by simp; omega
    all_goals
      clear e hp
      go_enter Tryz.func59, Tryz.ntmps59
      go_wp2_with fail
      refine HM.out.mono ?_
      rintro e w1 ⟨rfl, ho⟩
      generalize w.heap.size = fb at *
      obtain ⟨f0, f1, f2, f3, f4, f5, f6, f7⟩ := o_fl0 ho 1 rfl
      have HA2 := Lib.hid (HAT.out _ ho)
      clear ho HM HAT
      go_wp2_with fail
      refine HA2.out.mono ?_
      rintro e w2 ⟨rfl, ho⟩
      obtain ⟨v, ho⟩ := ho.openR
      obtain ⟨Fv, hv⟩ := ho.get 1 rfl
      obtain ⟨av, cv, rfl, l1, l2, -⟩ := hv.shape
      have b0 : w2.cell? ⟨bt, 0, none⟩ = some (.slice av L.length cv) := cell_of (ho.block 0 rfl) rfl
      have b1 : w2.cell? ⟨bt, 1, none⟩ = some (.int .i64 most) := cell_of (ho.block 0 rfl) rfl
      have HO := Lib.hid ho
      clear ho hv f0 f1 f2 f3 f4 f5 f6 f7 HA2
      go_wp2_with fail
      go_quiet (fail)
      go_wp2_with fail
    rotate_right 1
    · go_ret2
      exact rf_same (HO.out.drewN _)
    all_goals
      have HI := Lib.hid (HO.out.drewN nq)
      have HPF : Hid (∀ w', In F w w' (RFr bt most wait (.slice av L.length cv) L ++ [Cells fb (encF f) 49]) → Calls Tryz.prog 91 #[.slice av L.length cv, .agg (encF f)] w' (PFPost L f F w (RFr bt most wait (.slice av L.length cv) L ++ [Cells fb (encF f) 49]))) := Lib.hid fun w' h => pf_call h hl (fun W hW => rview 1 hW rfl) f
      clear b0 b1 HO
      generalize w2.drewN nq = wz at *
      have b0 : wz.cell? ⟨bt, 0, none⟩ = some (.slice av L.length cv) := cell_of (HI.out.block 0 rfl) rfl
      obtain ⟨f0, f1, f2, f3, f4, f5, f6, f7⟩ := o_fl0 HI.out 2 rfl
      go_region_law
        (first
          | (go_simp
             go_at_call 91
             refine (HPF.out _ (HI.out.drewN 1)).mono ?_
             rintro e w4 ⟨v4, rfl, ho⟩
             have H4 := Lib.hid ho
             have g0 : w4.frozen? ⟨bt, 0, none⟩ = false := free_of (ho.block 1 rfl)
             have g1 : w4.cell? ⟨bt, 0, none⟩ = some (.slice av L.length cv) := cell_of (ho.block 1 rfl) rfl
             obtain ⟨F4, hv4⟩ := ho.get 0 rfl
             obtain ⟨a4, c4, rfl, -, -, -⟩ := hv4.shape
             clear ho hv4))
      all_goals
        go_wp2_with fail
        go_ret2
        exact rf_new_row H4.out
  · have HM := Lib.hid (o_rfmay_false h0 hf)
    have hput : putRF most L f = (L, false, 1) := by unfold putRF; rw [if_pos hf]
    rw [hput]
    clear hput h h0 hf hl
    go_enter Tryz.func59, Tryz.ntmps59
    go_wp2_with fail
    refine HM.out.mono ?_
    rintro e w1 ⟨rfl, ho⟩
    have HO := Lib.hid ho
    clear ho HM
    go_wp2_with fail
    go_ret2
    exact GV.mk HO.out.head (fun F' hs => by
      obtain ⟨F1, F2, q1, q2, q3, q4⟩ := hs
      obtain rfl : F2 = [] := q2
      rw [q4]
      simpa using q1)
section
variable {F0 : List Nat} {w0 w : World} {R : List Asrt} {bt : Nat} {most wait : Int} {L : List Fl}
theorem o_rfput (h : In F0 w0 w R) (i : Nat) (hA : R[i]? = some (RFA bt most wait L)) (hl : L.length ≤ 1000000) {f : Fl} (wf : WfT f.t) :
    Calls Tryz.prog 59 #[.pointer (some ⟨bt, 0, none⟩), .agg (encF f)] w fun e w' => e = .returned (.tuple #[.bool (putRF most L f).2.1, .int .i64 (putRF most L f).2.2]) ∧ In F0 w0 w' (R.set i (RFA bt most wait (putRF most L f).1)) :=
  own_val (A' := RFA bt most wait (putRF most L f).1) h i hA (RFA.framed _ _ _ _) fun F hF => rf_put hF hl wf
end
end Go.Proofs.YtgapbecddgfkmaaGreat
