/- A table of flows: one is touched. -/
import Derived.Test.YtcakgponofbhkaaFlowPut
namespace Go.Proofs.Ytcakgponofbhkaa
open Go.RowKit
open Go.Maps (Keyed)
set_option linter.unusedVariables false
set_option maxRecDepth 100000

theorem set_same {α : Type} {R : List α} {i : Nat} {A : α} (h : R[i]? = some A) : R.set i A = R := by
  apply List.ext_getElem?
  intro j
  rw [List.getElem?_set]
  split
  · rename_i e
    subst e
    split
    · exact h.symm
    · rename_i hl
      rw [List.getElem?_eq_none (by omega)] at h
      cases h
  · rfl
theorem In.okF {F0 : List Nat} {w0 w : World} {R : List Asrt} {bt : Nat} {most idle : Int} {L : List Fl} {Q : List KT} (h : In F0 w0 w R) (i : Nat) (hA : R[i]? = some (FAQ bt most idle L Q)) : OkF most L := by
  obtain ⟨F, bm, bk, bq, hok, _⟩ := h.get i hA
  exact hok
theorem o_fget {F0 : List Nat} {w0 w : World} {R : List Asrt} {bt : Nat} {most idle : Int} {L : List Fl} {Q : List KT} (h : In F0 w0 w R) (i : Nat) (hA : R[i]? = some (FAQ bt most idle L Q)) {t : Tup} (wt : WfT t) :
    Calls Try.prog 37 #[.pointer (some ⟨bt, 0, none⟩), .agg (encT t)] w fun e w' => e = .returned (.tuple #[.agg (encF ((atF L t).getD zF)), .bool (atF L t).isSome]) ∧ In F0 w0 w' R := by
  have c := own_val (A' := FAQ bt most idle L Q) (r := .tuple #[.agg (encF ((atF L t).getD zF)), .bool (atF L t).isSome]) h i hA (FAQ.framed _ _ _ _ _) fun F hF => fget hF wt
  rwa [set_same hA] at c

/-- 'Touch'. -/
def touchF (L : List Fl) (t : Tup) (now : Int) : List Fl × Bool :=
  match atF L t with
  | none => (L, false)
  | some f => if (0 ≤ now ∧ now ≤ 1099511627776) ∧ f.seen ≤ now then (insF { f with seen := now } (delF t L), true) else (L, true)
def FTouchPost (bt : Nat) (most idle : Int) (r : List Fl × Bool) (w : World) (F : List Nat) (e : Ending) (w' : World) : Prop := GV (.bool r.2) (FA bt most idle r.1) w F e w'
set_option maxHeartbeats 8000000 in
theorem ftouch_nil (t : Tup) (now : Int) (w : World) : Calls Try.prog 35 #[.pointer none, .agg (encT t), .int .i64 now] w fun e w' => e = .returned (.bool false) ∧ Mod [] w w' := by
  have H0 := Lib.hid (fun o : Obj => fget_nil t (w.alloc o))
  have HM : Hid (∀ (o : Obj) w1, Mod [] (w.alloc o) w1 → ∀ o', Mod [] w (w1.alloc o')) := Lib.hid fun o w1 h o' => (((Mod.refl _ _).alloc _).trans h (fun x hx => by simp at hx)).alloc _
  go_enter Try.func35, Try.ntmps35
  go_wp2_with fail
  refine (H0.out _).mono ?_
  rintro e w1 ⟨rfl, ho⟩
  have HO := Lib.hid (HM.out _ _ ho)
  clear ho
  have e1 : encF zF = #[.int .u32 0, .int .u32 0, .int .i64 0, .int .i64 0, .int .i64 0, .int .i64 0, .int .i64 0, .int .i64 0] := rfl
  rw [e1]
  clear e1
  go_wp2_with fail
  go_ret
  exact ⟨rfl, HO.out _⟩
set_option maxHeartbeats 8000000 in
theorem ftouch {w : World} {bt : Nat} {most idle : Int} {L : List Fl} {F : List Nat} (h : FA bt most idle L w F) {t : Tup} (wt : WfT t) (now : Int) :
    Calls Try.prog 35 #[.pointer (some ⟨bt, 0, none⟩), .agg (encT t), .int .i64 now] w (FTouchPost bt most idle (touchF L t now) w F) := by
  have hok := (in_one (FA.framed _ _ _ _) h).okF 0 rfl
  have h0 := (in_one (FA.framed _ _ _ _) h).cells (encT t) 57
  have H0 := Lib.hid (o_fget h0 1 rfl wt)
  have HG : Hid (∀ w1 q, touchF L t now = (L, q) → In F w w1 [FA bt most idle L] → FTouchPost bt most idle (touchF L t now) w F (.returned (.bool q)) w1) := Lib.hid fun w1 q hq h1 => by
    rw [hq]
    exact GV.mk h1 (fun F' hs => by obtain ⟨F1, F2, q1, q2, q3, q4⟩ := hs; obtain rfl : F2 = [] := q2; rw [q4]; simpa using q1)
  have hcase : ((atF L t).isSome = false ∧ touchF L t now = (L, false)) ∨ ((atF L t).isSome = true ∧ ¬ (0 ≤ now ∧ now ≤ 1099511627776) ∧ touchF L t now = (L, true)) ∨
      ((atF L t).isSome = true ∧ 0 ≤ now ∧ now ≤ 1099511627776 ∧ decide (((atF L t).getD zF).seen ≤ now) = false ∧ touchF L t now = (L, true)) ∨
      ((atF L t).isSome = true ∧ 0 ≤ now ∧ now ≤ 1099511627776 ∧ ((atF L t).getD zF).seen ≤ now ∧ touchF L t now = (insF { (atF L t).getD zF with seen := now } (delF t L), true)) := by
    unfold touchF
    cases ha : atF L t with
    | none => left; simp
    | some f =>
      right
      by_cases h1 : 0 ≤ now ∧ now ≤ 1099511627776
      · right
        by_cases h2 : f.seen ≤ now
        · right; simp [h1, h2]
        · left; simp [h1, h2]
      · left
        refine ⟨rfl, h1, ?_⟩
        simp only
        rw [if_neg (fun h => h1 h.1)]
  have HS : Hid (∀ w1, (atF L t).isSome = true → 0 ≤ now → now ≤ 1099511627776 → touchF L t now = (insF { (atF L t).getD zF with seen := now } (delF t L), true) → In F w w1 [FA bt most idle L] → Calls Try.prog 63 #[.pointer (some ⟨bt, 0, none⟩), .agg (encF { (atF L t).getD zF with seen := now })] w1 fun e w' => e = .returned (.tuple #[]) ∧ FTouchPost bt most idle (touchF L t now) w F (.returned (.bool true)) w') :=
    Lib.hid fun w1 hs a1 a2 hp h1 => by
      cases ha : atF L t with
      | none => rw [ha] at hs; cases hs
      | some f =>
        obtain ⟨m1, rfl⟩ := (atF_some hok.keys).1 ha
        have e3 : (some f).getD zF = f := rfl
        rw [ha, e3] at hp
        rw [e3]
        have mf : MayF { f with seen := now } := by
          have := hok.may f m1
          exact ⟨this.t, this.b0, this.b1, this.g0, this.g1, a1, a2⟩
        refine (own_val (A' := FA bt most idle (insF { f with seen := now } (delF f.t L))) (r := .tuple #[]) h1 0 rfl (FA.framed _ _ _ _) fun F hF => fset hF (f := { f with seen := now }) (hok.wf f m1) mf (Or.inl (by rw [ha]; simp))).mono fun e w' ⟨he, ho⟩ => ⟨he, ?_⟩
        rw [hp]
        exact GV.mk ho (fun F' hs => by obtain ⟨F1, F2, q1, q2, q3, q4⟩ := hs; obtain rfl : F2 = [] := q2; rw [q4]; simpa using q1)
  have Hcase := Lib.hid hcase
  clear hcase h h0 hok wt
  generalize (atF L t).getD zF = fv at *
  generalize (atF L t).isSome = q at *
  generalize touchF L t now = P at *
  have HT := Lib.hid (fun (a1 : 0 ≤ now) (a2 : now ≤ 1099511627776) w => ftime_true a1 a2 w)
  have HF := Lib.hid (fun (a : ¬ (0 ≤ now ∧ now ≤ 1099511627776)) w => ftime_false a w)
  obtain ⟨⟨f1, f2, f3, f4, f5⟩, f6, f7, f8⟩ := fv
  go_enter Try.func35, Try.ntmps35
  go_wp2_with fail
  refine H0.out.mono ?_
  rintro e w1 ⟨rfl, ho⟩
  have HO := Lib.hid ho.drop
  clear ho
  have e1 : encF ⟨⟨f1, f2, f3, f4, f5⟩, f6, f7, f8⟩ = #[.int .u32 f1, .int .u32 f2, .int .i64 f3, .int .i64 f4, .int .i64 f5, .int .i64 f6, .int .i64 f7, .int .i64 f8] := rfl
  rw [e1]
  clear e1
  have HW := Lib.hid fun o => HO.out.alloc o
  rcases Hcase.out with ⟨c, cP⟩ | ⟨c, ct, cP⟩ | ⟨c, c1, c2, c3, cP⟩ | ⟨c, c1, c2, c3, cP⟩
  · subst c
    have HP := Lib.hid cP
    clear cP
    go_wp2_with fail
    go_ret
    exact HG.out _ _ HP.out (HW.out _)
  · subst c
    have HP := Lib.hid cP
    have Ht := Lib.hid ct
    clear cP ct
    go_wp2_with fail
    refine (HF.out Ht.out _).mono ?_
    rintro e w2 ⟨rfl, rfl⟩
    go_wp2_with fail
    go_ret
    exact HG.out _ _ HP.out (HW.out _)
  · subst c
    have HP := Lib.hid cP
    have C1 := Lib.hid c1
    have C2 := Lib.hid c2
    clear cP c1 c2
    go_wp2_with fail
    refine (HT.out C1.out C2.out _).mono ?_
    rintro e w2 ⟨rfl, rfl⟩
    go_wp2_with fail
    go_ret
    exact HG.out _ _ HP.out (HW.out _)
  · subst c
    have HP := Lib.hid cP
    have C1 := Lib.hid c1
    have C2 := Lib.hid c2
    clear cP c1 c2
    go_wp2_with fail
    refine (HT.out C1.out C2.out _).mono ?_
    rintro e w2 ⟨rfl, rfl⟩
    go_wp2_with fail
    refine (HS.out _ trivial C1.out C2.out HP.out (HW.out _)).mono ?_
    rintro e w3 ⟨rfl, ho⟩
    have H3 := Lib.hid ho
    clear ho
    go_wp2_with fail
    go_ret
    exact H3.out
end Go.Proofs.Ytcakgponofbhkaa
