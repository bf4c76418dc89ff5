/- Rows.PathPlaysSaid -/
import Derived.Test.YtgapbecddgfkmaaGreatPY6
import Derived.Test.YtgapbecddgfkmaaGreatPY3
import Derived.Test.YtgapbecddgfkmaaGreatPY4
import Derived.Test.YtgapbecddgfkmaaGreatPY1
import Derived.ProofKit
import Derived.SliceStrings
import Derived.Deep.Slices
import Derived.Deep.Fields
import Derived.Lib.SmallJoins
namespace Go.Proofs.YtgapbecddgfkmaaGreat
open Go.RowKit
open Go.Maps (Keyed)
open Go.RowKit Go.ChangeShapes Go.WideShapes Go.Deep
set_option linter.unusedVariables false
set_option maxHeartbeats 64000000
set_option maxRecDepth 100000
theorem In.drew {F0 : List Nat} {w0 w : World} {R : List Asrt} (h : In F0 w0 w R) : In F0 w0 w.drew R := h.drewN 1
def putF (most : Int) (L : List Fl) (f : Fl) : List Fl × Bool × Int :=
  if ¬ MayF f then (L, false, 1) else if atF L f.t = none ∧ most ≤ (L.length : Int) then (L, false, 9) else (insF f (delF f.t L), (atF L f.t).isNone, 0)
def FPutPost (bt : Nat) (most idle : Int) (r : List Fl × Bool × Int) (w : World) (F : List Nat) (e : Ending) (w' : World) : Prop := GV (.tuple #[.bool r.2.1, .int .i64 r.2.2]) (FA bt most idle r.1) w F e w'
theorem fput_may {w : World} {bt : Nat} {most idle : Int} {L : List Fl} {F : List Nat} (h : FA bt most idle L w F) {f : Fl} (hf : ¬ MayF f) :
    Calls Tryz.prog 82 #[.pointer (some ⟨bt, 0, none⟩), .agg (encF f)] w (FPutPost bt most idle (L, false, 1) w F) := by
  have h0 := (in_one (FA.framed _ _ _ _) h).cells (encF f) 49
  have H0 := Lib.hid (o_fmay_false h0 hf)
  have HG : Hid (∀ wz, In F w wz [Cells w.heap.size (encF f) 49, FA bt most idle L] → FPutPost bt most idle (L, false, 1) w F (.returned (.tuple #[.bool false, .int .i64 1])) wz) := Lib.hid fun wz hz => GV.mk (hz.drop) (fun F' hs => by obtain ⟨F1, F2, q1, q2, q3, q4⟩ := hs; obtain rfl : F2 = [] := q2; rw [q4]; simpa using q1)
  clear h h0 hf
  go_enter Tryz.func82, Tryz.ntmps82
  go_wp2_with fail
  refine H0.out.mono ?_
  rintro e w1 ⟨rfl, ho⟩
  have HO := Lib.hid (HG.out _ ho)
  clear ho
  go_wp2_with fail
  go_ret2
  exact HO.out
theorem fput_ok {w : World} {bt : Nat} {most idle : Int} {L : List Fl} {F : List Nat} (h : FA bt most idle L w F) {f : Fl} (wf : WfT f.t) (hf : MayF f) :
    Calls Tryz.prog 82 #[.pointer (some ⟨bt, 0, none⟩), .agg (encF f)] w (FPutPost bt most idle (putF most L f) w F) := by
  obtain ⟨bm, bk, bq, hok, h⟩ := h
  have h0 := (In.start FR.framed h).cells (encF f) 49
  have H0 := Lib.hid (o_fmay_true h0 hf)
  have Hl := Lib.hid fun (w1 : World) (h1 : In F w w1 (Cells w.heap.size (encF f) 49 :: FR bt most idle bm bk bq L)) => flook h1 2 rfl hok.keys wf
  have hput : putF most L f = if atF L f.t = none ∧ most ≤ (L.length : Int) then (L, false, 9) else (insF f (delF f.t L), (atF L f.t).isNone, 0) := by rw [putF, if_neg (by simpa using hf)]
  have HS : Hid (∀ w1, ((atF L f.t).isSome = true ∨ (L.length : Int) < most) → In F w w1 (Cells w.heap.size (encF f) 49 :: FR bt most idle bm bk bq L) → Calls Tryz.prog 122 #[.pointer (some ⟨bt, 0, none⟩), .agg (encF f)] w1 fun e w' => e = .returned (.tuple #[]) ∧ FPutPost bt most idle (putF most L f) w F (.returned (.tuple #[.bool (!(atF L f.t).isSome), .int .i64 0])) w') :=
    Lib.hid fun w1 hroom h1 => by
      have hroom : atF L f.t ≠ none ∨ (L.length : Int) < most := by
        rcases hroom with h | h
        · left; intro e; rw [e] at h; cases h
        · exact Or.inr h
      have h2 := (In.join (A1 := FR bt most idle bm bk bq L) (R := []) (by simpa using h1.drop)).imp (A' := FA bt most idle L) 0 rfl (FA.framed _ _ _ _) (fun F hF => ⟨bm, bk, bq, hok, hF⟩)
      refine (own_val (A' := FA bt most idle (insF f (delF f.t L))) (r := .tuple #[]) h2 0 rfl (FA.framed _ _ _ _) fun F hF => fset hF wf hf hroom).mono fun e w' ⟨he, ho⟩ => ⟨he, ?_⟩
      rw [hput, if_neg (by rintro ⟨e, hl⟩; rcases hroom with h | h; exact h e; omega)]
      have e2 : (!(atF L f.t).isSome) = (atF L f.t).isNone := by cases atF L f.t <;> rfl
      rw [e2]
      exact GV.mk ho (fun F' hs => by obtain ⟨F1, F2, q1, q2, q3, q4⟩ := hs; obtain rfl : F2 = [] := q2; rw [q4]; simpa using q1)
  have Hfull : Hid (∀ wz, ((atF L f.t).isSome = false ∧ most ≤ (L.length : Int)) → In F w wz (Cells w.heap.size (encF f) 49 :: FR bt most idle bm bk bq L) → FPutPost bt most idle (putF most L f) w F (.returned (.tuple #[.bool false, .int .i64 9])) wz) := Lib.hid fun wz hfull hz => by
    have e : atF L f.t = none := by
      have := hfull.1
      revert this; cases atF L f.t <;> simp
    rw [hput, if_pos ⟨e, hfull.2⟩]
    exact GV.mk hz.drop (fun F' hs => ⟨bm, bk, bq, hok, hs⟩)
  have Hlen := Lib.hid fun (w1 : World) (h1 : In F w w1 (Cells w.heap.size (encF f) 49 :: FR bt most idle bm bk bq L)) (ty : TypeId) => tab_len h1 2 rfl Tryz.underlying88 ty
  clear h h0 hf wf hok hput
  generalize hp : putF most L f = P at *
  clear hp
  have hcase : (atF L f.t).isSome = true ∨ ((atF L f.t).isSome = false ∧ (L.length : Int) < most) ∨ ((atF L f.t).isSome = false ∧ most ≤ (L.length : Int)) := by
    cases (atF L f.t).isSome with
    | true => left; rfl
    | false => right; simp; omega
  have Hcase := Lib.hid hcase
  clear hcase
  go_enter Tryz.func82, Tryz.ntmps82
  go_wp2_with fail
  refine H0.out.mono ?_
  rintro e w1 ⟨rfl, ho⟩
  have c0 : w1.cell? ⟨bt, 2, none⟩ = some (.map (some bm)) ∧ w1.cell? ⟨w.heap.size, 0, none⟩ = some (.int .u32 f.t.src) ∧ w1.cell? ⟨w.heap.size, 1, none⟩ = some (.int .u32 f.t.dst) ∧ w1.cell? ⟨w.heap.size, 2, none⟩ = some (.int .i64 f.t.proto) ∧ w1.cell? ⟨w.heap.size, 3, none⟩ = some (.int .i64 f.t.sport) ∧ w1.cell? ⟨w.heap.size, 4, none⟩ = some (.int .i64 f.t.dport) := ⟨cell_of (ho.block 1 rfl) rfl, cell_of (ho.block 0 rfl) rfl, cell_of (ho.block 0 rfl) rfl, cell_of (ho.block 0 rfl) rfl, cell_of (ho.block 0 rfl) rfl, cell_of (ho.block 0 rfl) rfl⟩
  have l0 : (Instr.lookup 88 (.map (some bm)) (.agg (encT f.t)) true).run Tryz.prog w1.drew = .ok (.tuple #[.agg (encF ((atF L f.t).getD zF)), .bool (atF L f.t).isSome]) w1.drew := Hl.out _ (ho.drewN 1)
  have l1 : (Instr.lookup 88 (.map (some bm)) (.agg (encT f.t)) true).run Tryz.prog (w1.alloc (.cells #[.int .u32 0, .int .u32 0, .int .i64 0, .int .i64 0, .int .i64 0, .int .i64 0, .int .i64 0, .int .i64 0] 49)).drew = .ok (.tuple #[.agg (encF ((atF L f.t).getD zF)), .bool (atF L f.t).isSome]) (w1.alloc (.cells #[.int .u32 0, .int .u32 0, .int .i64 0, .int .i64 0, .int .i64 0, .int .i64 0, .int .i64 0, .int .i64 0] 49)).drew := Hl.out _ ((ho.alloc (.cells #[.int .u32 0, .int .u32 0, .int .i64 0, .int .i64 0, .int .i64 0, .int .i64 0, .int .i64 0, .int .i64 0] 49)).drewN 1)
  have HO := Lib.hid ho
  clear ho H0
  generalize hfv : (atF L f.t).getD zF = fv at *
  clear hfv
  obtain ⟨⟨f1, f2, f3, f4, f5⟩, f6, f7, f8⟩ := fv
  generalize hq : (atF L f.t).isSome = q at *
  clear hq
  generalize w.heap.size = g at *
  go_wp2_with fail
  go_region_held3 (fun w' => w'.cell? ⟨bt, 2, none⟩ = some (.map (some bm)) ∧ w'.cell? ⟨g, 0, none⟩ = some (.int .u32 f.t.src) ∧ w'.cell? ⟨g, 1, none⟩ = some (.int .u32 f.t.dst) ∧ w'.cell? ⟨g, 2, none⟩ = some (.int .i64 f.t.proto) ∧ w'.cell? ⟨g, 3, none⟩ = some (.int .i64 f.t.sport) ∧ w'.cell? ⟨g, 4, none⟩ = some (.int .i64 f.t.dport)) (go_keep) (fail)
  all_goals
    clear l0 l1 c0
    have HW := Lib.hid (HO.out.alloc (.cells #[.int .u32 f1, .int .u32 f2, .int .i64 f3, .int .i64 f4, .int .i64 f5, .int .i64 f6, .int .i64 f7, .int .i64 f8] 49))
    generalize (w1.alloc (.cells #[.int .u32 f1, .int .u32 f2, .int .i64 f3, .int .i64 f4, .int .i64 f5, .int .i64 f6, .int .i64 f7, .int .i64 f8] 49)) = W at *
    have H2 := Lib.hid HW.out.drew
    have d1 : W.cell? ⟨bt, 2, none⟩ = some (.map (some bm)) := cell_of (H2.out.block 1 rfl) rfl
    have d2 : W.cell? ⟨bt, 0, none⟩ = some (.int .i64 most) := cell_of (H2.out.block 1 rfl) rfl
    have d3 : ∀ (n : Nat) ty, (Builtin.len_ #[88] ty #[.map (some bm)]).run Tryz.prog (W.drewN n) = .ok (.int .i64 L.length) (W.drewN n) := fun n ty => Hlen.out _ (HW.out.drewN n) ty
    obtain ⟨e1, e2, e3, e4, e5, e6, e7, e8⟩ : W.cell? ⟨g, 0, none⟩ = some (.int .u32 f.t.src) ∧ W.cell? ⟨g, 1, none⟩ = some (.int .u32 f.t.dst) ∧ W.cell? ⟨g, 2, none⟩ = some (.int .i64 f.t.proto) ∧ W.cell? ⟨g, 3, none⟩ = some (.int .i64 f.t.sport) ∧ W.cell? ⟨g, 4, none⟩ = some (.int .i64 f.t.dport) ∧ W.cell? ⟨g, 5, none⟩ = some (.int .i64 f.bk) ∧ W.cell? ⟨g, 6, none⟩ = some (.int .i64 f.gen) ∧ W.cell? ⟨g, 7, none⟩ = some (.int .i64 f.seen) := ⟨cell_of (H2.out.block 0 rfl) rfl, cell_of (H2.out.block 0 rfl) rfl, cell_of (H2.out.block 0 rfl) rfl, cell_of (H2.out.block 0 rfl) rfl, cell_of (H2.out.block 0 rfl) rfl, cell_of (H2.out.block 0 rfl) rfl, cell_of (H2.out.block 0 rfl) rfl, cell_of (H2.out.block 0 rfl) rfl⟩
    rcases Hcase.out with c | ⟨c, cl⟩ | ⟨c, cl⟩
    · subst c
      clear d3
      go_wp2_with fail
      go_quiet (fail)
      go_wp2_with fail
      refine (HS.out _ (Or.inl (by first | rfl | trivial)) (HW.out.drewN (1 + nq))).mono ?_
      rintro e w3 ⟨rfl, ho⟩
      have H3 := Lib.hid ho
      clear ho
      go_wp2_with fail
      go_ret2
      exact H3.out
    · subst c
      have cl' := Lib.hid cl
      go_wp2_with fail
      go_quiet (fail)
      go_wp2_with fail
      refine (HS.out _ (Or.inr cl'.out) (HW.out.drewN (1 + nq))).mono ?_
      rintro e w3 ⟨rfl, ho⟩
      have H3 := Lib.hid ho
      clear ho
      go_wp2_with fail
      go_ret2
      exact H3.out
    · subst c
      have cl' := Lib.hid cl
      go_wp2_with fail
      go_quiet (fail)
      go_wp2_with fail
      go_ret2
      exact Hfull.out _ ⟨by first | rfl | trivial, cl'.out⟩ (H2.out.drewN nq)
theorem In.okF {F0 : List Nat} {w0 w : World} {R : List Asrt} {bt : Nat} {most idle : Int} {L : List Fl} {Q : List KT} (h : In F0 w0 w R) (i : Nat) (hA : R[i]? = some (FAQ bt most idle L Q)) : OkF most L := by
  obtain ⟨F, bm, bk, bq, hok, _⟩ := h.get i hA
  exact hok
theorem o_fget {F0 : List Nat} {w0 w : World} {R : List Asrt} {bt : Nat} {most idle : Int} {L : List Fl} {Q : List KT} (h : In F0 w0 w R) (i : Nat) (hA : R[i]? = some (FAQ bt most idle L Q)) {t : Tup} (wt : WfT t) :
    Calls Tryz.prog 14 #[.pointer (some ⟨bt, 0, none⟩), .agg (encT t)] w fun e w' => e = .returned (.tuple #[.agg (encF ((atF L t).getD zF)), .bool (atF L t).isSome]) ∧ In F0 w0 w' R := by
  have c := own_val (A' := FAQ bt most idle L Q) (r := .tuple #[.agg (encF ((atF L t).getD zF)), .bool (atF L t).isSome]) h i hA (FAQ.framed _ _ _ _ _) fun F hF => fget hF wt
  rwa [set_same hA] at c
def touchF (L : List Fl) (t : Tup) (now : Int) : List Fl × Bool :=
  match atF L t with
  | none => (L, false)
  | some f => if (0 ≤ now ∧ now ≤ 1099511627776) ∧ f.seen ≤ now then (insF { f with seen := now } (delF t L), true) else (L, true)
def FTouchPost (bt : Nat) (most idle : Int) (r : List Fl × Bool) (w : World) (F : List Nat) (e : Ending) (w' : World) : Prop := GV (.bool r.2) (FA bt most idle r.1) w F e w'
theorem ftouch {w : World} {bt : Nat} {most idle : Int} {L : List Fl} {F : List Nat} (h : FA bt most idle L w F) {t : Tup} (wt : WfT t) (now : Int) :
    Calls Tryz.prog 83 #[.pointer (some ⟨bt, 0, none⟩), .agg (encT t), .int .i64 now] w (FTouchPost bt most idle (touchF L t now) w F) := by
  have hok := (in_one (FA.framed _ _ _ _) h).okF 0 rfl
  have h0 := (in_one (FA.framed _ _ _ _) h).cells (encT t) 24
  have H0 := Lib.hid (o_fget h0 1 rfl wt)
  have HG : Hid (∀ w1 q, touchF L t now = (L, q) → In F w w1 [FA bt most idle L] → FTouchPost bt most idle (touchF L t now) w F (.returned (.bool q)) w1) := Lib.hid fun w1 q hq h1 => by
    rw [hq]
    exact GV.mk h1 (fun F' hs => by obtain ⟨F1, F2, q1, q2, q3, q4⟩ := hs; obtain rfl : F2 = [] := q2; rw [q4]; simpa using q1)
  have hcase : ((atF L t).isSome = false ∧ touchF L t now = (L, false)) ∨ ((atF L t).isSome = true ∧ ¬ (0 ≤ now ∧ now ≤ 1099511627776) ∧ touchF L t now = (L, true)) ∨
      ((atF L t).isSome = true ∧ 0 ≤ now ∧ now ≤ 1099511627776 ∧ decide (((atF L t).getD zF).seen ≤ now) = false ∧ touchF L t now = (L, true)) ∨
      ((atF L t).isSome = true ∧ 0 ≤ now ∧ now ≤ 1099511627776 ∧ ((atF L t).getD zF).seen ≤ now ∧ touchF L t now = (insF { (atF L t).getD zF with seen := now } (delF t L), true)) := by
    unfold touchF
    cases ha : atF L t with
    | none => left; simp
    | some f =>
      right
      by_cases h1 : 0 ≤ now ∧ now ≤ 1099511627776
      · right
        by_cases h2 : f.seen ≤ now
        · right; simp [h1, h2]
        · left; simp [h1, h2]
      · left
        refine ⟨rfl, h1, ?_⟩
        simp only
        rw [if_neg (fun h => h1 h.1)]
  have HS : Hid (∀ w1, (atF L t).isSome = true → 0 ≤ now → now ≤ 1099511627776 → touchF L t now = (insF { (atF L t).getD zF with seen := now } (delF t L), true) → In F w w1 [FA bt most idle L] → Calls Tryz.prog 122 #[.pointer (some ⟨bt, 0, none⟩), .agg (encF { (atF L t).getD zF with seen := now })] w1 fun e w' => e = .returned (.tuple #[]) ∧ FTouchPost bt most idle (touchF L t now) w F (.returned (.bool true)) w') :=
    Lib.hid fun w1 hs a1 a2 hp h1 => by
      cases ha : atF L t with
      | none => rw [ha] at hs; cases hs
      | some f =>
        obtain ⟨m1, rfl⟩ := (atF_some hok.keys).1 ha
        have e3 : (some f).getD zF = f := rfl
        rw [ha, e3] at hp
        rw [e3]
        have mf : MayF { f with seen := now } := by
          have := hok.may f m1
          exact ⟨this.t, this.b0, this.b1, this.g0, this.g1, a1, a2⟩
        refine (own_val (A' := FA bt most idle (insF { f with seen := now } (delF f.t L))) (r := .tuple #[]) h1 0 rfl (FA.framed _ _ _ _) fun F hF => fset hF (f := { f with seen := now }) (hok.wf f m1) mf (Or.inl (by rw [ha]; simp))).mono fun e w' ⟨he, ho⟩ => ⟨he, ?_⟩
        rw [hp]
        exact GV.mk ho (fun F' hs => by obtain ⟨F1, F2, q1, q2, q3, q4⟩ := hs; obtain rfl : F2 = [] := q2; rw [q4]; simpa using q1)
  have Hcase := Lib.hid hcase
  clear hcase h h0 hok wt
  generalize (atF L t).getD zF = fv at *
  generalize (atF L t).isSome = q at *
  generalize touchF L t now = P at *
  have HT := Lib.hid (fun (a1 : 0 ≤ now) (a2 : now ≤ 1099511627776) w => ftime_true a1 a2 w)
  have HF := Lib.hid (fun (a : ¬ (0 ≤ now ∧ now ≤ 1099511627776)) w => ftime_false a w)
  obtain ⟨⟨f1, f2, f3, f4, f5⟩, f6, f7, f8⟩ := fv
  go_enter Tryz.func83, Tryz.ntmps83
  go_wp2_with fail
  refine H0.out.mono ?_
  rintro e w1 ⟨rfl, ho⟩
  have HO := Lib.hid ho.drop
  clear ho
  have e1 : encF ⟨⟨f1, f2, f3, f4, f5⟩, f6, f7, f8⟩ = #[.int .u32 f1, .int .u32 f2, .int .i64 f3, .int .i64 f4, .int .i64 f5, .int .i64 f6, .int .i64 f7, .int .i64 f8] := rfl
  rw [e1]
  clear e1
  have HW := Lib.hid fun o => HO.out.alloc o
  rcases Hcase.out with ⟨c, cP⟩ | ⟨c, ct, cP⟩ | ⟨c, c1, c2, c3, cP⟩ | ⟨c, c1, c2, c3, cP⟩
  · subst c
    have HP := Lib.hid cP
    clear cP
    go_wp2_with fail
    go_ret
    exact HG.out _ _ HP.out (HW.out _)
  · subst c
    have HP := Lib.hid cP
    have Ht := Lib.hid ct
    clear cP ct
    go_wp2_with fail
    refine (HF.out Ht.out _).mono ?_
    rintro e w2 ⟨rfl, rfl⟩
    go_wp2_with fail
    go_ret
    exact HG.out _ _ HP.out (HW.out _)
  · subst c
    have HP := Lib.hid cP
    have C1 := Lib.hid c1
    have C2 := Lib.hid c2
    clear cP c1 c2
    go_wp2_with fail
    refine (HT.out C1.out C2.out _).mono ?_
    rintro e w2 ⟨rfl, rfl⟩
    go_wp2_with fail
    go_ret
    exact HG.out _ _ HP.out (HW.out _)
  · subst c
    have HP := Lib.hid cP
    have C1 := Lib.hid c1
    have C2 := Lib.hid c2
    clear cP c1 c2
    go_wp2_with fail
    refine (HT.out C1.out C2.out _).mono ?_
    rintro e w2 ⟨rfl, rfl⟩
    go_wp2_with fail
    refine (HS.out _ trivial C1.out C2.out HP.out (HW.out _)).mono ?_
    rintro e w3 ⟨rfl, ho⟩
    have H3 := Lib.hid ho
    clear ho
    go_wp2_with fail
    go_ret
    exact H3.out
def FDropPost (bt : Nat) (most idle : Int) (r : List Fl × List KT × Bool) (w : World) (F : List Nat) (e : Ending) (w' : World) : Prop := GV (.bool r.2.2) (FAQ bt most idle r.1 r.2.1) w F e w'
def dropQ (L : List Fl) (Q : List KT) (t : Tup) : List Fl × List KT × Bool := if (atF L t).isSome = true then (delF t L, delS (keyT t) Q, true) else (L, Q, false)
theorem ok_del {most : Int} {L : List Fl} (h : OkF most L) (t : Tup) : OkF most (delF t L) := by
  refine ⟨fun x hx => h.wf x (delF_mem.1 hx).1, fun x hx => h.may x (delF_mem.1 hx).1, h.keys.sublist (List.filter_sublist.map _), ?_, h.most⟩
  have := List.length_filter_le (notT t) L
  have h3 := h.room
  unfold delF
  omega
theorem del_none {L : List Fl} {t : Tup} (h : atF L t = none) : delF t L = L := List.filter_eq_self.2 (fun x hx => by simpa [notT] using atF_none.1 h x hx)
theorem star_back {w : World} : ∀ {A1 R : List Asrt} {F1 F2 : List Nat}, Star A1 w F1 → Star R w F2 → Apart F1 F2 → Star (A1 ++ R) w (F1 ++ F2)
  | [], R, F1, F2, h1, h2, _ => by obtain rfl : F1 = [] := h1; exact h2
  | A :: A1, R, F1, F2, ⟨G1, G2, g1, g2, g3, e⟩, h2, h3 => by
    refine ⟨G1, G2 ++ F2, g1, star_back g2 h2 (fun b hb => h3 b (by rw [e]; exact List.mem_append_right _ hb)), fun b hb hb2 => ?_, by rw [e, List.append_assoc]⟩
    rcases List.mem_append.1 hb2 with hb2 | hb2
    · exact g3 b hb hb2
    · exact h3 b (by rw [e]; exact List.mem_append_left _ hb) hb2
theorem In.openF {F0 : List Nat} {w0 w : World} {R : List Asrt} {bt : Nat} {most idle : Int} {L : List Fl} {Q : List KT} (h : In F0 w0 w (FAQ bt most idle L Q :: R)) : ∃ bm bk bq, In F0 w0 w (FRQ bt most idle bm bk bq L Q ++ R) := by
  obtain ⟨F, ⟨F1, F2, ⟨bm, bk, bq, hok, h1⟩, h2, h3, rfl⟩, hF⟩ := h.star
  refine ⟨bm, bk, bq, fun B hB => ?_, ⟨_, star_back h1 h2 h3, hF⟩, h.mod⟩
  rcases List.mem_append.1 hB with hB | hB
  · exact FRQ.framed _ hB
  · exact h.framed B (List.mem_cons_of_mem _ hB)
abbrev TC (bt : Nat) (most idle : Int) (bm bk bq : Nat) : Asrt := Cells bt #[.int .i64 most, .int .i64 idle, .map (some bm), .map (some bk), .pointer (some ⟨bq, 0, none⟩)] 93
def TupC (bt g : Nat) (bm bk bq : Nat) (t : Tup) (w' : World) : Prop :=
  w'.cell? ⟨bt, 2, none⟩ = some (.map (some bm)) ∧ w'.cell? ⟨bt, 3, none⟩ = some (.map (some bk)) ∧ w'.cell? ⟨bt, 4, none⟩ = some (.pointer (some ⟨bq, 0, none⟩)) ∧
  w'.cell? ⟨g, 0, none⟩ = some (.int .u32 t.src) ∧ w'.cell? ⟨g, 1, none⟩ = some (.int .u32 t.dst) ∧ w'.cell? ⟨g, 2, none⟩ = some (.int .i64 t.proto) ∧ w'.cell? ⟨g, 3, none⟩ = some (.int .i64 t.sport) ∧ w'.cell? ⟨g, 4, none⟩ = some (.int .i64 t.dport)
theorem TupC.of {F0 : List Nat} {w0 w' : World} {bt g : Nat} {most idle : Int} {bm bk bq : Nat} {t : Tup} {R : List Asrt} (h : In F0 w0 w' (TC bt most idle bm bk bq :: R)) (i : Nat) (hA : (TC bt most idle bm bk bq :: R)[i]? = some (Cells g (encT t) 24)) : TupC bt g bm bk bq t w' :=
  ⟨cell_of (h.block 0 rfl) rfl, cell_of (h.block 0 rfl) rfl, cell_of (h.block 0 rfl) rfl, cell_of (h.block i hA) rfl, cell_of (h.block i hA) rfl, cell_of (h.block i hA) rfl, cell_of (h.block i hA) rfl, cell_of (h.block i hA) rfl⟩
theorem fdropQ {w : World} {bt : Nat} {most idle : Int} {L : List Fl} {Q : List KT} {F : List Nat} (h : FAQ bt most idle L Q w F) {t : Tup} (wt : WfT t) :
    Calls Tryz.prog 84 #[.pointer (some ⟨bt, 0, none⟩), .agg (encT t)] w (FDropPost bt most idle (dropQ L Q t) w F) := by
  have hok := (in_one (FAQ.framed _ _ _ _ _) h).okF 0 rfl
  have h0 := (in_one (FAQ.framed _ _ _ _ _) h).cells (encT t) 24
  have H0 := Lib.hid (o_fget h0 1 rfl wt)
  obtain ⟨kt, hkt⟩ := keyOf_tup wt
  have HG0 : Hid (∀ w1, (atF L t).isSome = false → In F w w1 [FAQ bt most idle L Q] → FDropPost bt most idle (dropQ L Q t) w F (.returned (.bool false)) w1) := Lib.hid fun w1 hq h1 => by
    have e2 : dropQ L Q t = (L, Q, false) := by unfold dropQ; rw [if_neg (by rw [hq]; simp)]
    rw [e2]
    exact GV.mk h1 (fun F' hs => by obtain ⟨F1, F2, q1, q2, q3, q4⟩ := hs; obtain rfl : F2 = [] := q2; rw [q4]; simpa using q1)
  have HM : Hid ((atF L t).isSome = true → MayT t) := Lib.hid fun hs => by
    cases ha : atF L t with
    | none => rw [ha] at hs; cases hs
    | some f =>
      obtain ⟨m1, rfl⟩ := (atF_some hok.keys).1 ha
      exact (hok.may f m1).t
  have HX : Hid (∀ w1, In F w w1 [Cells w.heap.size (encT t) 24, FAQ bt most idle L Q] → ∃ bm bk bq, In F w w1 [TC bt most idle bm bk bq, FM bm L, KM bk L, QA bq Q, Cells w.heap.size (encT t) 24]) := Lib.hid fun w1 h1 => In.openF (h1.perm (List.Perm.swap _ _ _))
  have HD1 : Hid (∀ w1 bm bk bq, In F w w1 [TC bt most idle bm bk bq, FM bm L, KM bk L, QA bq Q, Cells w.heap.size (encT t) 24] → ∃ w2, (Builtin.delete_ #[88, 24] 0 #[.map (some bm), .agg (encT t)]).run Tryz.prog w1 = .ok (.tuple #[]) w2 ∧ In F w w2 [TC bt most idle bm bk bq, FM bm (delF t L), KM bk L, QA bq Q, Cells w.heap.size (encT t) 24]) :=
    Lib.hid fun w1 bm bk bq h1 => by
      obtain ⟨w2, r1, _, h2⟩ := tab_del h1 1 rfl tupLaw Tryz.underlying88 hkt (nodup_vT hok.keys) (notT t) notT_vT 24 0
      exact ⟨w2, r1, h2⟩
  have HD2 : Hid ((atF L t).isSome = true → ∀ w1 bm bk bq, In F w w1 [TC bt most idle bm bk bq, FM bm (delF t L), KM bk L, QA bq Q, Cells w.heap.size (encT t) 24] → ∃ w2, (Builtin.delete_ #[89, 9] 0 #[.map (some bk), .string (keyT t)]).run Tryz.prog w1 = .ok (.tuple #[]) w2 ∧ In F w w2 [TC bt most idle bm bk bq, FM bm (delF t L), KM bk (delF t L), QA bq Q, Cells w.heap.size (encT t) 24]) :=
    Lib.hid fun hs w1 bm bk bq h1 => by
      obtain ⟨w2, r1, _, h2⟩ := tab_del h1 2 rfl strLawT Tryz.underlying89 (Go.WideMaps.keyOf_string_mk Tryz.underlying9 (keyT_size t)) (nodup_vK hok) (notT t) (notT_vK hok wt (HM.out hs)) 9 0
      exact ⟨w2, r1, h2⟩
  have HD3 : Hid ((atF L t).isSome = true → ∀ w1 bm bk bq, In F w w1 [TC bt most idle bm bk bq, FM bm (delF t L), KM bk (delF t L), QA bq Q, Cells w.heap.size (encT t) 24] → Calls Tryz.prog 125 #[.pointer (some ⟨bq, 0, none⟩), .string (keyT t)] w1 fun e w' => (∃ b, e = .returned (.bool b)) ∧ In F w w' [TC bt most idle bm bk bq, FM bm (delF t L), KM bk (delF t L), QA bq (delS (keyT t) Q), Cells w.heap.size (encT t) 24]) :=
    Lib.hid fun hs w1 bm bk bq h1 => by
      have := o_drop h1 3 rfl (keyT_size t)
      exact this.mono fun e w' ⟨he, ho⟩ => ⟨⟨_, he⟩, ho⟩
  have HG : Hid (∀ wz bm bk bq, (atF L t).isSome = true → In F w wz [TC bt most idle bm bk bq, FM bm (delF t L), KM bk (delF t L), QA bq (delS (keyT t) Q), Cells w.heap.size (encT t) 24] → FDropPost bt most idle (dropQ L Q t) w F (.returned (.bool true)) wz) :=
    Lib.hid fun wz bm bk bq hs hz => by
      have e2 : dropQ L Q t = (delF t L, delS (keyT t) Q, true) := by unfold dropQ; rw [if_pos hs]
      rw [e2]
      exact GV.mk (hz.sel [0, 1, 2, 3] (by decide) rfl) (fun F' hs => ⟨bm, bk, bq, ok_del hok t, hs⟩)
  have Hk : Hid (∀ {w2 : World} {R}, In F w w2 R → Calls Tryz.prog 124 #[.agg (encT t)] w2 fun e w' => e = .returned (.string (keyT t)) ∧ In F w w' R) := Lib.hid fun h => o_fkey h wt
  clear h h0 hok hkt wt HM
  generalize (atF L t).getD zF = fv at *
  generalize (atF L t).isSome = q at *
  generalize dropQ L Q t = P at *
  obtain ⟨⟨f1, f2, f3, f4, f5⟩, f6, f7, f8⟩ := fv
  go_enter Tryz.func84, Tryz.ntmps84
  go_wp2_with fail
  generalize w.heap.size = g at *
  refine H0.out.mono ?_
  rintro e w1 ⟨rfl, ho⟩
  have HO := Lib.hid ho
  have HO1 := Lib.hid ho.drop
  clear ho
  have e1 : encF ⟨⟨f1, f2, f3, f4, f5⟩, f6, f7, f8⟩ = #[.int .u32 f1, .int .u32 f2, .int .i64 f3, .int .i64 f4, .int .i64 f5, .int .i64 f6, .int .i64 f7, .int .i64 f8] := rfl
  rw [e1]
  clear e1
  have HW := Lib.hid fun o => HO.out.alloc o
  have HW1 := Lib.hid fun o => HO1.out.alloc o
  rcases q with _ | _
  · go_wp2_with fail
    go_ret
    exact HG0.out _ trivial (HW1.out _)
  · go_wp2_with fail
    have HWW0 := Lib.hid (HW.out (.cells #[.int .u32 f1, .int .u32 f2, .int .i64 f3, .int .i64 f4, .int .i64 f5, .int .i64 f6, .int .i64 f7, .int .i64 f8] 49))
    generalize w1.alloc (.cells #[.int .u32 f1, .int .u32 f2, .int .i64 f3, .int .i64 f4, .int .i64 f5, .int .i64 f6, .int .i64 f7, .int .i64 f8] 49) = W at *
    obtain ⟨bm, bk, bq, hx⟩ := HX.out _ HWW0.out
    obtain ⟨w2, r1, h2⟩ := HD1.out _ bm bk bq hx.drew
    have HX2 := Lib.hid hx
    have H2 := Lib.hid h2
    clear hx h2
    have hc0 : W.cell? ⟨bt, 2, none⟩ = some (.map (some bm)) ∧ W.cell? ⟨g, 0, none⟩ = some (.int .u32 t.src) ∧ W.cell? ⟨g, 1, none⟩ = some (.int .u32 t.dst) ∧ W.cell? ⟨g, 2, none⟩ = some (.int .i64 t.proto) ∧ W.cell? ⟨g, 3, none⟩ = some (.int .i64 t.sport) ∧ W.cell? ⟨g, 4, none⟩ = some (.int .i64 t.dport) := by
      obtain ⟨a1, a2, a3, a4, a5, a6, a7, a8⟩ := TupC.of HX2.out 4 rfl
      exact ⟨a1, a4, a5, a6, a7, a8⟩
    have hc1 : w2.cell? ⟨bt, 2, none⟩ = some (.map (some bm)) ∧ w2.cell? ⟨g, 0, none⟩ = some (.int .u32 t.src) ∧ w2.cell? ⟨g, 1, none⟩ = some (.int .u32 t.dst) ∧ w2.cell? ⟨g, 2, none⟩ = some (.int .i64 t.proto) ∧ w2.cell? ⟨g, 3, none⟩ = some (.int .i64 t.sport) ∧ w2.cell? ⟨g, 4, none⟩ = some (.int .i64 t.dport) := by
      obtain ⟨a1, a2, a3, a4, a5, a6, a7, a8⟩ := TupC.of H2.out 4 rfl
      exact ⟨a1, a4, a5, a6, a7, a8⟩
    go_region_held3 (fun w' => w'.cell? ⟨bt, 2, none⟩ = some (.map (some bm)) ∧ w'.cell? ⟨g, 0, none⟩ = some (.int .u32 t.src) ∧ w'.cell? ⟨g, 1, none⟩ = some (.int .u32 t.dst) ∧ w'.cell? ⟨g, 2, none⟩ = some (.int .i64 t.proto) ∧ w'.cell? ⟨g, 3, none⟩ = some (.int .i64 t.sport) ∧ w'.cell? ⟨g, 4, none⟩ = some (.int .i64 t.dport)) (first | exact hc1 | exact hc0 | go_keep) (fail)
    clear hc0 hc1 r1
    have hc1 : w2.cell? ⟨bt, 3, none⟩ = some (.map (some bk)) ∧ w2.cell? ⟨g, 0, none⟩ = some (.int .u32 t.src) ∧ w2.cell? ⟨g, 1, none⟩ = some (.int .u32 t.dst) ∧ w2.cell? ⟨g, 2, none⟩ = some (.int .i64 t.proto) ∧ w2.cell? ⟨g, 3, none⟩ = some (.int .i64 t.sport) ∧ w2.cell? ⟨g, 4, none⟩ = some (.int .i64 t.dport) := by
      obtain ⟨a1, a2, a3, a4, a5, a6, a7, a8⟩ := TupC.of H2.out 4 rfl
      exact ⟨a2, a4, a5, a6, a7, a8⟩
    go_wp2_with fail
    go_region_held3 (fun w' => w'.cell? ⟨bt, 3, none⟩ = some (.map (some bk)) ∧ w'.cell? ⟨g, 0, none⟩ = some (.int .u32 t.src) ∧ w'.cell? ⟨g, 1, none⟩ = some (.int .u32 t.dst) ∧ w'.cell? ⟨g, 2, none⟩ = some (.int .i64 t.proto) ∧ w'.cell? ⟨g, 3, none⟩ = some (.int .i64 t.sport) ∧ w'.cell? ⟨g, 4, none⟩ = some (.int .i64 t.dport)) (first | exact hc3 | exact hc2 | exact hc1 | go_keep)
      (first
        | (go_at_call 124
           refine (Hk.out H2.out.drew).mono ?_
           rintro e w3 ⟨rfl, ho⟩
           have hc2 : w3.cell? ⟨bt, 3, none⟩ = some (.map (some bk)) ∧ w3.cell? ⟨g, 0, none⟩ = some (.int .u32 t.src) ∧ w3.cell? ⟨g, 1, none⟩ = some (.int .u32 t.dst) ∧ w3.cell? ⟨g, 2, none⟩ = some (.int .i64 t.proto) ∧ w3.cell? ⟨g, 3, none⟩ = some (.int .i64 t.sport) ∧ w3.cell? ⟨g, 4, none⟩ = some (.int .i64 t.dport) := by
             obtain ⟨a1, a2, a3, a4, a5, a6, a7, a8⟩ := TupC.of ho 4 rfl
             exact ⟨a2, a4, a5, a6, a7, a8⟩
           obtain ⟨w4, r3, ho3⟩ := HD2.out trivial w3 _ _ _ ho
           have hc3 : w4.cell? ⟨bt, 3, none⟩ = some (.map (some bk)) ∧ w4.cell? ⟨g, 0, none⟩ = some (.int .u32 t.src) ∧ w4.cell? ⟨g, 1, none⟩ = some (.int .u32 t.dst) ∧ w4.cell? ⟨g, 2, none⟩ = some (.int .i64 t.proto) ∧ w4.cell? ⟨g, 3, none⟩ = some (.int .i64 t.sport) ∧ w4.cell? ⟨g, 4, none⟩ = some (.int .i64 t.dport) := by
             obtain ⟨a1, a2, a3, a4, a5, a6, a7, a8⟩ := TupC.of ho3 4 rfl
             exact ⟨a2, a4, a5, a6, a7, a8⟩
           have H4 := Lib.hid ho3
           clear ho ho3))
    clear hc1 hc2 hc3 r3
    have hc1 : w4.cell? ⟨bt, 4, none⟩ = some (.pointer (some ⟨bq, 0, none⟩)) ∧ w4.cell? ⟨g, 0, none⟩ = some (.int .u32 t.src) ∧ w4.cell? ⟨g, 1, none⟩ = some (.int .u32 t.dst) ∧ w4.cell? ⟨g, 2, none⟩ = some (.int .i64 t.proto) ∧ w4.cell? ⟨g, 3, none⟩ = some (.int .i64 t.sport) ∧ w4.cell? ⟨g, 4, none⟩ = some (.int .i64 t.dport) := by
      obtain ⟨a1, a2, a3, a4, a5, a6, a7, a8⟩ := TupC.of H4.out 4 rfl
      exact ⟨a3, a4, a5, a6, a7, a8⟩
    go_wp2_with fail
    go_region_held3 (fun w' => w'.cell? ⟨bt, 4, none⟩ = some (.pointer (some ⟨bq, 0, none⟩)) ∧ w'.cell? ⟨g, 0, none⟩ = some (.int .u32 t.src) ∧ w'.cell? ⟨g, 1, none⟩ = some (.int .u32 t.dst) ∧ w'.cell? ⟨g, 2, none⟩ = some (.int .i64 t.proto) ∧ w'.cell? ⟨g, 3, none⟩ = some (.int .i64 t.sport) ∧ w'.cell? ⟨g, 4, none⟩ = some (.int .i64 t.dport)) (first | exact hc3 | exact hc2 | exact hc1 | go_keep)
      (first
        | (go_at_call 124
           refine (Hk.out H4.out.drew).mono ?_
           rintro e w5 ⟨rfl, ho⟩
           have hc2 : w5.cell? ⟨bt, 4, none⟩ = some (.pointer (some ⟨bq, 0, none⟩)) ∧ w5.cell? ⟨g, 0, none⟩ = some (.int .u32 t.src) ∧ w5.cell? ⟨g, 1, none⟩ = some (.int .u32 t.dst) ∧ w5.cell? ⟨g, 2, none⟩ = some (.int .i64 t.proto) ∧ w5.cell? ⟨g, 3, none⟩ = some (.int .i64 t.sport) ∧ w5.cell? ⟨g, 4, none⟩ = some (.int .i64 t.dport) := by
             obtain ⟨a1, a2, a3, a4, a5, a6, a7, a8⟩ := TupC.of ho 4 rfl
             exact ⟨a3, a4, a5, a6, a7, a8⟩
           have H5 := Lib.hid ho
           clear ho)
        | (go_at_call 125
           refine (HD3.out trivial _ _ _ _ H5.out).mono ?_
           rintro e w6 ⟨⟨b, rfl⟩, ho⟩
           have hc3 : w6.cell? ⟨bt, 4, none⟩ = some (.pointer (some ⟨bq, 0, none⟩)) ∧ w6.cell? ⟨g, 0, none⟩ = some (.int .u32 t.src) ∧ w6.cell? ⟨g, 1, none⟩ = some (.int .u32 t.dst) ∧ w6.cell? ⟨g, 2, none⟩ = some (.int .i64 t.proto) ∧ w6.cell? ⟨g, 3, none⟩ = some (.int .i64 t.sport) ∧ w6.cell? ⟨g, 4, none⟩ = some (.int .i64 t.dport) := by
             obtain ⟨a1, a2, a3, a4, a5, a6, a7, a8⟩ := TupC.of ho 4 rfl
             exact ⟨a3, a4, a5, a6, a7, a8⟩
           have H6 := Lib.hid ho
           clear ho))
    have HF := Lib.hid (HG.out _ _ _ _ trivial H6.out)
    go_wp2_with fail
    go_ret
    exact HF.out
theorem drop_enc {most : Int} {L : List Fl} (h : OkF most L) {t : Tup} (wt : WfT t) : dropQ L (L.map encQ) t = (delF t L, (delF t L).map encQ, (atF L t).isSome) := by
  unfold dropQ
  cases ha : atF L t with
  | none => simp [del_none ha]
  | some f =>
    obtain ⟨m1, rfl⟩ := (atF_some h.keys).1 ha
    simp only [Option.isSome_some, if_true]
    rw [delF_enc wt (h.may f m1).t h.wf h.may]
theorem fdrop {w : World} {bt : Nat} {most idle : Int} {L : List Fl} {F : List Nat} (h : FA bt most idle L w F) {t : Tup} (wt : WfT t) :
    Calls Tryz.prog 84 #[.pointer (some ⟨bt, 0, none⟩), .agg (encT t)] w (GV (.bool (atF L t).isSome) (FA bt most idle (delF t L)) w F) := by
  have hok := (in_one (FA.framed _ _ _ _) h).okF 0 rfl
  have c : Calls Tryz.prog 84 #[.pointer (some ⟨bt, 0, none⟩), .agg (encT t)] w (FDropPost bt most idle (dropQ L (L.map encQ) t) w F) := fdropQ h wt
  rw [drop_enc hok wt] at c
  exact c
theorem own_two {F0 : List Nat} {w0 w : World} {R : List Asrt} {A A' : Asrt} {B : Value → Asrt} {P : Program} {f : FuncId} {args : Array Value} (h : In F0 w0 w R) (i : Nat) (hA : R[i]? = some A) (fA : Framed A') (fB : ∀ v, Framed (B v))
    (c : ∀ F, A w F → Calls P f args w (Gives w F (fun v => Star [A', B v]))) : Calls P f args w fun e w' => ∃ v, e = .returned v ∧ In F0 w0 w' (B v :: R.set i A') := by
  have fr : ∀ v, Framed (Star [A', B v]) := fun v => Framed.star (fun C hC => by
    simp at hC; rcases hC with rfl | rfl
    · exact fA
    · exact fB v)
  refine (h.call (A' := fun v => Star [A', B v]) i hA fr c).mono fun e w' ⟨v, he, ho⟩ => ⟨v, he, ?_⟩
  have hi := (List.getElem?_eq_some_iff.1 hA).1
  have := ho.split (A := A') (B := B v) i (by simp [hi]) fA (fB v)
  rwa [List.set_set] at this
section
variable {F0 : List Nat} {w0 w : World} {R : List Asrt} {bt : Nat} {most idle : Int} {L : List Fl}
theorem o_fput (h : In F0 w0 w R) (i : Nat) (hA : R[i]? = some (FA bt most idle L)) {f : Fl} (wf : WfT f.t) :
    Calls Tryz.prog 82 #[.pointer (some ⟨bt, 0, none⟩), .agg (encF f)] w fun e w' => e = .returned (.tuple #[.bool (putF most L f).2.1, .int .i64 (putF most L f).2.2]) ∧ In F0 w0 w' (R.set i (FA bt most idle (putF most L f).1)) :=
  own_val h i hA (FA.framed _ _ _ _) fun F hF => by
    by_cases hf : MayF f
    · exact fput_ok hF wf hf
    · have e : putF most L f = (L, false, 1) := by unfold putF; rw [if_pos hf]
      rw [e]
      exact fput_may hF hf
theorem o_ftouch (h : In F0 w0 w R) (i : Nat) (hA : R[i]? = some (FA bt most idle L)) {t : Tup} (wt : WfT t) (now : Int) :
    Calls Tryz.prog 83 #[.pointer (some ⟨bt, 0, none⟩), .agg (encT t), .int .i64 now] w fun e w' => e = .returned (.bool (touchF L t now).2) ∧ In F0 w0 w' (R.set i (FA bt most idle (touchF L t now).1)) :=
  own_val h i hA (FA.framed _ _ _ _) fun F hF => ftouch hF wt now
theorem o_fdrop (h : In F0 w0 w R) (i : Nat) (hA : R[i]? = some (FA bt most idle L)) {t : Tup} (wt : WfT t) :
    Calls Tryz.prog 84 #[.pointer (some ⟨bt, 0, none⟩), .agg (encT t)] w fun e w' => e = .returned (.bool (atF L t).isSome) ∧ In F0 w0 w' (R.set i (FA bt most idle (delF t L))) :=
  own_val h i hA (FA.framed _ _ _ _) fun F hF => fdrop hF wt
theorem o_flen (h : In F0 w0 w R) (i : Nat) (hA : R[i]? = some (FA bt most idle L)) : Calls Tryz.prog 16 #[.pointer (some ⟨bt, 0, none⟩)] w fun e w' => e = .returned (.int .i64 L.length) ∧ w = w' := by
  obtain ⟨F, hq⟩ := h.get i hA
  exact flen hq
end
structure PlanD where
  verdict : Int
  reason : Int
  bk : Int
  pkt : List UInt8
  recs : List Rec
deriving DecidableEq
def dropP (why : Int) : PlanD := ⟨1, why, 0, [], []⟩
def putRec (f : Fl) : Rec := ⟨1, f, 0, [], 0, 0, 0⟩
def delRec (t : Tup) : Rec := ⟨2, ⟨t, 0, 0, 0⟩, 0, [], 0, 0, 0⟩
def keepD (most : Int) (L : List Fl) (f : Fl) (known : Bool) (was : Int) (ends : Bool) : List Rec × List Fl :=
  if ends = true then (if known = true then ([delRec f.t], delF f.t L) else ([], L))
  else if known = true ∧ was = f.bk then ([], (touchF L f.t f.seen).1)
  else if (putF most L f).2.2 = 0 then ([putRec f], (putF most L f).1) else ([], (putF most L f).1)
def choiceD (L : List Fl) (ch : ChD) (k : Tup) : Option Bk :=
  match atF L k with
  | none => pickCh ch k
  | some f => match findBk ch.l f.bk with
    | some b => some b
    | none => pickCh ch k
def wasD (L : List Fl) (k : Tup) : Int := ((atF L k).getD zF).bk
def pktD (self mtu most : Int) (L : List Fl) (ch : ChD) (gen now : Int) (b : List UInt8) : PlanD × List Fl :=
  if 0 ≤ now ∧ now ≤ 1099511627776 then
    if (withinD b).2.2.2 ≠ 0 then (dropP (withinD b).2.2.2, L)
    else match choiceD L ch (withinD b).1 with
      | none => (dropP 10, L)
      | some be =>
        if (wrapD b self be.addr mtu).2 ≠ 0 then (dropP (wrapD b self be.addr mtu).2, L)
        else (⟨2, 0, be.id, (wrapD b self be.addr mtu).1, (keepD most L ⟨(withinD b).1, be.id, gen, now⟩ (atF L (withinD b).1).isSome (wasD L (withinD b).1) (endsD (withinD b).1 b)).1⟩,
          (keepD most L ⟨(withinD b).1, be.id, gen, now⟩ (atF L (withinD b).1).isSome (wasD L (withinD b).1) (endsD (withinD b).1 b)).2)
  else (⟨0, 0, 0, [], []⟩, L)
theorem exists_list {α : Type} {p : Nat → α → Prop} : ∀ (n : Nat), (∀ i, i < n → ∃ x, p i x) → ∃ l : List α, l.length = n ∧ ∀ i (hi : i < l.length), p i l[i]
  | 0, _ => ⟨[], rfl, fun i hi => by simp at hi⟩
  | n + 1, h => by
    obtain ⟨l, hl, hp⟩ := exists_list n (fun i hi => h i (by omega))
    obtain ⟨x, hx⟩ := h n (by omega)
    refine ⟨l ++ [x], by simp [hl], fun i hi => ?_⟩
    by_cases hin : i < l.length
    · rw [List.getElem_append_left hin]; exact hp i hin
    · have : i = l.length := by simp at hi; omega
      subst this
      simpa [hl] using hx
structure ArgStrs (w : World) (a : Option Addr) (len cap : Nat) (ss : List ByteArray) : Prop where
  length : ss.length = len
  room : len ≤ cap
  most : cap ≤ maxLen
  small : ∀ s ∈ ss, s.size ≤ maxLen
  at' : len = 0 ∨ ∃ b o, a = some ⟨b, o, none⟩ ∧ b < w.heap.size ∧ ∀ i (hi : i < ss.length), w.cell? ⟨b, o + i, none⟩ = some (.string ss[i])
structure ArgInts (k : IntKind) (w : World) (a : Option Addr) (len cap : Nat) (zs : List Int) : Prop where
  length : zs.length = len
  room : len ≤ cap
  most : cap ≤ maxLen
  small : ∀ n ∈ zs, (Lit.int k n).wf = true
  at' : len = 0 ∨ ∃ b o, a = some ⟨b, o, none⟩ ∧ b < w.heap.size ∧ ∀ i (hi : i < zs.length), w.cell? ⟨b, o + i, none⟩ = some (.int k zs[i])
section
variable {H : Type} {enc : TypeId × Value → H} {P : Program} {w : World} {base : Nat} {spare : Nat → Bool} {held : Bool}
theorem addr_none {a : Addr} {v : Value} (h : w.cell? (a.add 0) = some v) : a = ⟨a.block, a.off, none⟩ := by
  have : a.add 0 = a := by simp [Addr.add]
  rw [this] at h
  have := World.cell?_spot h
  cases a; simp at this; simp [this]
theorem add_plain (b o i : Nat) : (⟨b, o, none⟩ : Addr).add i = ⟨b, o + i, none⟩ := by
  unfold Addr.add; split
  · simp
  · rfl
end
structure AB (w : World) (v : Value) (bs : List UInt8) : Prop where
  ex : ∃ a c, v = .slice a bs.length c ∧ Src w a bs.length 1 (u8s bs) ∧ bs.length ≤ c ∧ c ≤ maxLen
structure ArgCellsOf {α : Type} (Rd : World → Value → α → Prop) (w : World) (a : Option Addr) (len cap : Nat) (L : List α) : Prop where
  length : L.length = len
  room : len ≤ cap
  most : cap ≤ maxLen
  at' : ∀ i x, L[i]? = some x → ∃ g o v, a = some ⟨g, o, none⟩ ∧ w.cell? ⟨g, o + i, none⟩ = some v ∧ Rd w v x
abbrev ArgBss := ArgCellsOf AB
section
variable {H : Type} {enc : TypeId × Value → H} {P : Program} {w : World} {base : Nat} {spare : Nat → Bool} {held : Bool}
end
section
variable {w0 w : World} {R : List Asrt}
theorem cell_old (h : Own w0 w R) {a : Addr} {v : Value} (hc : w0.cell? a = some v) : w.cell? a = some v := by
  have hb := World.block_lt_of_cell? _ _ hc
  rw [← hc]
  exact World.cell?_of_block (h.mod.block _ hb (by simp))
theorem Src.old (h : Own w0 w R) {A : Option Addr} {n k : Nat} {xs : List Value} (hs : Src w0 A n k xs) : Src w A n k xs :=
  ⟨hs.len, fun h0 => by
    obtain ⟨ad, e, hc⟩ := hs.at' h0
    exact ⟨ad, e, fun j u hu => cell_old h (hc j u hu)⟩⟩
end
theorem meas_lt {n j : Nat} (h : (j : Int) < (n : Int)) : n - (intOf (.int .i64 ((j : Int) + 1))).toNat < n - (intOf (.int .i64 (j : Int))).toNat := by
  simp only [intOf]; omega
structure FrI where
  kind : Int
  ver : Int
  body : List UInt8
def FrIAt (w : World) (g o : Nat) (f : FrI) : Prop := w.cell? ⟨g, o, none⟩ = some (.int .i64 f.kind) ∧ w.cell? ⟨g, o + 1, none⟩ = some (.int .i64 f.ver) ∧ ∃ v, w.cell? ⟨g, o + 2, none⟩ = some v ∧ AB w v f.body
structure ArgStr {α : Type} (k : Nat) (Rd : World → Nat → Nat → α → Prop) (w : World) (v : Value) (L : List α) : Prop where
  ex : ∃ a c, v = .slice a L.length c ∧ L.length ≤ c ∧ c ≤ maxLen ∧ ∀ i x, L[i]? = some x → ∃ g o, a = some ⟨g, o, none⟩ ∧ Rd w g (o + i * k) x
abbrev ArgFrs := ArgStr 3 FrIAt
structure CallI where
  act : Int
  n : Int
  b : List UInt8
  rows : List FrI
def CallIAt (w : World) (g o : Nat) (c : CallI) : Prop := w.cell? ⟨g, o, none⟩ = some (.int .i64 c.act) ∧ w.cell? ⟨g, o + 1, none⟩ = some (.int .i64 c.n) ∧ (∃ v, w.cell? ⟨g, o + 2, none⟩ = some v ∧ AB w v c.b) ∧ ∃ v, w.cell? ⟨g, o + 3, none⟩ = some v ∧ ArgFrs w v c.rows
abbrev ArgCalls6 := ArgStr 4 CallIAt
section
variable {H : Type} {enc : TypeId × Value → H} {w : World} {base : Nat} {spare : Nat → Bool} {held : Bool}
end
section
variable {w0 w : World} {R : List Asrt}
end
end Go.Proofs.YtgapbecddgfkmaaGreat
