/- A table of flows: its calls, among things that lie apart; flows that the laws make. -/
import Derived.Test.YtcakgponofbhkaaFlowIdle
namespace Go.Proofs.Ytcakgponofbhkaa
open Go.RowKit
open Go.Maps (Keyed)
set_option linter.unusedVariables false
set_option maxRecDepth 100000

/-- A call that turns one thing and makes another. -/
theorem own_two {F0 : List Nat} {w0 w : World} {R : List Asrt} {A A' : Asrt} {B : Value → Asrt} {P : Program} {f : FuncId} {args : Array Value} (h : In F0 w0 w R) (i : Nat) (hA : R[i]? = some A) (fA : Framed A') (fB : ∀ v, Framed (B v))
    (c : ∀ F, A w F → Calls P f args w (Gives w F (fun v => Star [A', B v]))) : Calls P f args w fun e w' => ∃ v, e = .returned v ∧ In F0 w0 w' (B v :: R.set i A') := by
  have fr : ∀ v, Framed (Star [A', B v]) := fun v => Framed.star (fun C hC => by
    simp at hC; rcases hC with rfl | rfl
    · exact fA
    · exact fB v)
  refine (h.call (A' := fun v => Star [A', B v]) i hA fr c).mono fun e w' ⟨v, he, ho⟩ => ⟨v, he, ?_⟩
  have hi := (List.getElem?_eq_some_iff.1 hA).1
  have := ho.split (A := A') (B := B v) i (by simp [hi]) fA (fB v)
  rwa [List.set_set] at this
section
variable {F0 : List Nat} {w0 w : World} {R : List Asrt} {bt : Nat} {most idle : Int} {L : List Fl}
theorem o_fput (h : In F0 w0 w R) (i : Nat) (hA : R[i]? = some (FA bt most idle L)) {f : Fl} (wf : WfT f.t) :
    Calls Try.prog 29 #[.pointer (some ⟨bt, 0, none⟩), .agg (encF f)] w fun e w' => e = .returned (.tuple #[.bool (putF most L f).2.1, .int .i64 (putF most L f).2.2]) ∧ In F0 w0 w' (R.set i (FA bt most idle (putF most L f).1)) :=
  own_val h i hA (FA.framed _ _ _ _) fun F hF => by
    by_cases hf : MayF f
    · exact fput_ok hF wf hf
    · have e : putF most L f = (L, false, 1) := by unfold putF; rw [if_pos hf]
      rw [e]
      exact fput_may hF hf
theorem o_ftouch (h : In F0 w0 w R) (i : Nat) (hA : R[i]? = some (FA bt most idle L)) {t : Tup} (wt : WfT t) (now : Int) :
    Calls Try.prog 35 #[.pointer (some ⟨bt, 0, none⟩), .agg (encT t), .int .i64 now] w fun e w' => e = .returned (.bool (touchF L t now).2) ∧ In F0 w0 w' (R.set i (FA bt most idle (touchF L t now).1)) :=
  own_val h i hA (FA.framed _ _ _ _) fun F hF => ftouch hF wt now
theorem o_fdrop (h : In F0 w0 w R) (i : Nat) (hA : R[i]? = some (FA bt most idle L)) {t : Tup} (wt : WfT t) :
    Calls Try.prog 38 #[.pointer (some ⟨bt, 0, none⟩), .agg (encT t)] w fun e w' => e = .returned (.bool (atF L t).isSome) ∧ In F0 w0 w' (R.set i (FA bt most idle (delF t L))) :=
  own_val h i hA (FA.framed _ _ _ _) fun F hF => fdrop hF wt
theorem o_fidle (h : In F0 w0 w R) (i : Nat) (hA : R[i]? = some (FA bt most idle L)) (i1 : 1 ≤ idle) (i2 : idle ≤ 1099511627776) (now : Int) (n1 : -9223372036854775808 ≤ now) (n2 : now < 9223372036854775808) :
    Calls Try.prog 30 #[.pointer (some ⟨bt, 0, none⟩), .int .i64 now] w fun e w' => ∃ v, e = .returned v ∧ In F0 w0 w' (RowA 59 8 v (idleD L (now - idle)).length (flatF (idleD L (now - idle))) :: R.set i (FA bt most idle (idleR L (now - idle)))) :=
  own_two h i hA (FA.framed _ _ _ _) (fun v => RowA.framed _ _ _ _ _) fun F hF => fidle hF i1 i2 now n1 n2
theorem o_flen (h : In F0 w0 w R) (i : Nat) (hA : R[i]? = some (FA bt most idle L)) : Calls Try.prog 36 #[.pointer (some ⟨bt, 0, none⟩)] w fun e w' => e = .returned (.int .i64 L.length) ∧ w = w' := by
  obtain ⟨F, hq⟩ := h.get i hA
  exact flen hq
theorem o_fmost (h : In F0 w0 w R) (i : Nat) (hA : R[i]? = some (FA bt most idle L)) : Calls Try.prog 42 #[.pointer (some ⟨bt, 0, none⟩)] w fun e w' => e = .returned (.int .i64 most) ∧ w = w' := by
  obtain ⟨F, hq⟩ := h.get i hA
  exact fmost hq
end
theorem clampI_ok (n : Int) : 1 ≤ clampI n ∧ clampI n ≤ 1099511627776 := by unfold clampI; omega

/-! ### flows that the laws make -/
def mkF (n seen : Int) : Fl := ⟨⟨n % 4294967296, 0, 17, 0, 0⟩, 0, 0, seen⟩
theorem mkF_wf (n seen : Int) : WfT (mkF n seen).t := by
  have : 0 ≤ n % 4294967296 ∧ n % 4294967296 < 4294967296 := by omega
  constructor <;> simp [mkF] <;> omega
theorem f11flow (n seen : Int) (w : World) : Calls Try.prog 34 #[.int .i64 n, .int .i64 seen] w fun e w' => e = .returned (.agg (encF (mkF n seen))) ∧ ∃ o, w' = w.alloc o := by
  go_enter Try.func34, Try.ntmps34
  go_wp2_with fail
  exact bodyPost_ret (v := .agg (encF (mkF n seen))) (by simp [results, Try.results34, go_sem, mkF]) rfl ⟨rfl, _, rfl⟩
theorem o_f11flow {F0 : List Nat} {w0 w : World} {R : List Asrt} (h : In F0 w0 w R) (n seen : Int) : Calls Try.prog 34 #[.int .i64 n, .int .i64 seen] w fun e w' => e = .returned (.agg (encF (mkF n seen))) ∧ In F0 w0 w' R :=
  (f11flow n seen w).mono fun e w' ⟨he, o, hw⟩ => ⟨he, hw ▸ h.alloc o⟩
set_option maxHeartbeats 4000000 in
theorem f11awake (w : World) : Calls Try.prog 33 #[] w fun e w' => e = .returned (.bool true) ∧ Mod [] w w' := by
  have H0 := Lib.hid (o_fnew (Own.nil w) 1 5)
  have Hflow := Lib.hid (fun (w1 : World) (R : List Asrt) (h : In [] w w1 R) n s => o_f11flow h n s)
  have HP1 : Hid (∀ w1 bt, In [] w w1 [FA bt 1 5 []] → Calls Try.prog 29 #[.pointer (some ⟨bt, 0, none⟩), .agg (encF (mkF 1 0))] w1 fun e w' => e = .returned (.tuple #[.bool true, .int .i64 0]) ∧ In [] w w' [FA bt 1 5 [mkF 1 0]]) :=
    Lib.hid fun w1 bt h1 => by
      have := o_fput h1 0 rfl (f := mkF 1 0) (mkF_wf 1 0)
      have e : putF 1 [] (mkF 1 0) = ([mkF 1 0], true, 0) := by decide
      rw [e] at this
      exact this
  have HP2 : Hid (∀ w1 bt, In [] w w1 [FA bt 1 5 [mkF 1 0]] → Calls Try.prog 29 #[.pointer (some ⟨bt, 0, none⟩), .agg (encF (mkF 2 0))] w1 fun e w' => e = .returned (.tuple #[.bool false, .int .i64 9]) ∧ In [] w w' [FA bt 1 5 [mkF 1 0]]) :=
    Lib.hid fun w1 bt h1 => by
      have := o_fput h1 0 rfl (f := mkF 2 0) (mkF_wf 2 0)
      have e : putF 1 [mkF 1 0] (mkF 2 0) = ([mkF 1 0], false, 9) := by decide
      rw [e] at this
      exact this
  have HI1 : Hid (∀ w1 bt, In [] w w1 [FA bt 1 5 [mkF 1 0]] → Calls Try.prog 30 #[.pointer (some ⟨bt, 0, none⟩), .int .i64 4] w1 fun e w' => ∃ a cap, e = .returned (.slice a 0 cap) ∧ In [] w w' [FA bt 1 5 [mkF 1 0]]) :=
    Lib.hid fun w1 bt h1 => by
      have := o_fidle h1 0 rfl (by decide) (by decide) 4 (by decide) (by decide)
      have e : idleD [mkF 1 0] (4 - 5) = [] := by decide
      have e2 : idleR [mkF 1 0] (4 - 5) = [mkF 1 0] := by decide
      rw [e, e2] at this
      refine this.mono fun e w' ⟨v, he, ho⟩ => ?_
      obtain ⟨Fv, hv⟩ := ho.get 0 rfl
      obtain ⟨a, cap, rfl, -, -, -⟩ := hv.shape
      exact ⟨a, cap, he, ho.drop⟩
  have HI2 : Hid (∀ w1 bt, In [] w w1 [FA bt 1 5 [mkF 1 0]] → Calls Try.prog 30 #[.pointer (some ⟨bt, 0, none⟩), .int .i64 5] w1 fun e w' => ∃ a cap, e = .returned (.slice a 1 cap) ∧ In [] w w' [FA bt 1 5 []]) :=
    Lib.hid fun w1 bt h1 => by
      have := o_fidle h1 0 rfl (by decide) (by decide) 5 (by decide) (by decide)
      have e : idleD [mkF 1 0] (5 - 5) = [mkF 1 0] := by decide
      have e2 : idleR [mkF 1 0] (5 - 5) = [] := by decide
      rw [e, e2] at this
      refine this.mono fun e w' ⟨v, he, ho⟩ => ?_
      obtain ⟨Fv, hv⟩ := ho.get 0 rfl
      obtain ⟨a, cap, rfl, -, -, -⟩ := hv.shape
      exact ⟨a, cap, he, ho.drop⟩
  have HL : Hid (∀ w1 bt, In [] w w1 [FA bt 1 5 []] → Calls Try.prog 36 #[.pointer (some ⟨bt, 0, none⟩)] w1 fun e w' => e = .returned (.int .i64 0) ∧ w1 = w') := Lib.hid fun w1 bt h1 => o_flen h1 0 rfl
  go_enter Try.func33, Try.ntmps33
  go_wp2_with fail
  refine H0.out.mono ?_
  rintro e w1 ⟨bt, rfl, ho⟩
  have h1 := Lib.hid ho
  clear ho
  go_wp2_with fail
  refine (Hflow.out _ _ h1.out _ _).mono ?_
  rintro e w2 ⟨rfl, ho⟩
  have h2 := Lib.hid ho
  clear ho h1
  go_wp2_with fail
  refine (HP1.out _ _ h2.out).mono ?_
  rintro e w3 ⟨rfl, ho⟩
  have h3 := Lib.hid ho
  clear ho h2
  go_wp2_with fail
  refine (Hflow.out _ _ h3.out _ _).mono ?_
  rintro e w4 ⟨rfl, ho⟩
  have h4 := Lib.hid ho
  clear ho h3
  go_wp2_with fail
  refine (HP2.out _ _ h4.out).mono ?_
  rintro e w5 ⟨rfl, ho⟩
  have h5 := Lib.hid ho
  clear ho h4
  go_wp2_with fail
  refine (HI1.out _ _ h5.out).mono ?_
  rintro e w6 ⟨a, cap, rfl, ho⟩
  have h6 := Lib.hid ho
  clear ho h5
  go_wp2_with fail
  refine (HI2.out _ _ h6.out).mono ?_
  rintro e w7 ⟨a', cap', rfl, ho⟩
  have h7 := Lib.hid ho
  clear ho h6
  go_wp2_with fail
  refine (HL.out _ _ h7.out).mono ?_
  rintro e w8 ⟨rfl, rfl⟩
  go_wp2_with fail
  go_ret
  exact ⟨rfl, h7.out.mod⟩
end Go.Proofs.Ytcakgponofbhkaa
