/- A table of flows: one is put. -/
import Derived.Test.YtcakgponofbhkaaFlowGet
namespace Go.Proofs.Ytcakgponofbhkaa
open Go.RowKit
open Go.Maps (Keyed)
set_option linter.unusedVariables false
set_option maxRecDepth 100000

theorem In.drew {F0 : List Nat} {w0 w : World} {R : List Asrt} (h : In F0 w0 w R) : In F0 w0 w.drew R := h.drewN 1
/-- 'Put'. -/
def putF (most : Int) (L : List Fl) (f : Fl) : List Fl × Bool × Int :=
  if ¬ MayF f then (L, false, 1) else if atF L f.t = none ∧ most ≤ (L.length : Int) then (L, false, 9) else (insF f (delF f.t L), (atF L f.t).isNone, 0)
def FPutPost (bt : Nat) (most idle : Int) (r : List Fl × Bool × Int) (w : World) (F : List Nat) (e : Ending) (w' : World) : Prop := GV (.tuple #[.bool r.2.1, .int .i64 r.2.2]) (FA bt most idle r.1) w F e w'
theorem fput_nil (f : Fl) (w : World) : Calls Try.prog 29 #[.pointer none, .agg (encF f)] w fun e w' => e = .returned (.tuple #[.bool false, .int .i64 1]) ∧ Mod [] w w' := by
  have HM : Hid (∀ o : Obj, Mod [] w (w.alloc o)) := Lib.hid fun o => (Mod.refl _ _).alloc _
  go_enter Try.func29, Try.ntmps29
  go_wp2_with fail
  go_ret2
  exact ⟨rfl, HM.out _⟩
theorem fput_may {w : World} {bt : Nat} {most idle : Int} {L : List Fl} {F : List Nat} (h : FA bt most idle L w F) {f : Fl} (hf : ¬ MayF f) :
    Calls Try.prog 29 #[.pointer (some ⟨bt, 0, none⟩), .agg (encF f)] w (FPutPost bt most idle (L, false, 1) w F) := by
  have h0 := (in_one (FA.framed _ _ _ _) h).cells (encF f) 59
  have H0 := Lib.hid (o_fmay_false h0 hf)
  have HG : Hid (∀ wz, In F w wz [Cells w.heap.size (encF f) 59, FA bt most idle L] → FPutPost bt most idle (L, false, 1) w F (.returned (.tuple #[.bool false, .int .i64 1])) wz) := Lib.hid fun wz hz => GV.mk (hz.drop) (fun F' hs => by obtain ⟨F1, F2, q1, q2, q3, q4⟩ := hs; obtain rfl : F2 = [] := q2; rw [q4]; simpa using q1)
  clear h h0 hf
  go_enter Try.func29, Try.ntmps29
  go_wp2_with fail
  refine H0.out.mono ?_
  rintro e w1 ⟨rfl, ho⟩
  have HO := Lib.hid (HG.out _ ho)
  clear ho
  go_wp2_with fail
  go_ret2
  exact HO.out
set_option maxHeartbeats 16000000 in
theorem fput_ok {w : World} {bt : Nat} {most idle : Int} {L : List Fl} {F : List Nat} (h : FA bt most idle L w F) {f : Fl} (wf : WfT f.t) (hf : MayF f) :
    Calls Try.prog 29 #[.pointer (some ⟨bt, 0, none⟩), .agg (encF f)] w (FPutPost bt most idle (putF most L f) w F) := by
  obtain ⟨bm, bk, bq, hok, h⟩ := h
  have h0 := (In.start FR.framed h).cells (encF f) 59
  have H0 := Lib.hid (o_fmay_true h0 hf)
  have Hl := Lib.hid fun (w1 : World) (h1 : In F w w1 (Cells w.heap.size (encF f) 59 :: FR bt most idle bm bk bq L)) => flook h1 2 rfl hok.keys wf
  have hput : putF most L f = if atF L f.t = none ∧ most ≤ (L.length : Int) then (L, false, 9) else (insF f (delF f.t L), (atF L f.t).isNone, 0) := by rw [putF, if_neg (by simpa using hf)]
  have HS : Hid (∀ w1, ((atF L f.t).isSome = true ∨ (L.length : Int) < most) → In F w w1 (Cells w.heap.size (encF f) 59 :: FR bt most idle bm bk bq L) → Calls Try.prog 63 #[.pointer (some ⟨bt, 0, none⟩), .agg (encF f)] w1 fun e w' => e = .returned (.tuple #[]) ∧ FPutPost bt most idle (putF most L f) w F (.returned (.tuple #[.bool (!(atF L f.t).isSome), .int .i64 0])) w') :=
    Lib.hid fun w1 hroom h1 => by
      have hroom : atF L f.t ≠ none ∨ (L.length : Int) < most := by
        rcases hroom with h | h
        · left; intro e; rw [e] at h; cases h
        · exact Or.inr h
      have h2 := (In.join (A1 := FR bt most idle bm bk bq L) (R := []) (by simpa using h1.drop)).imp (A' := FA bt most idle L) 0 rfl (FA.framed _ _ _ _) (fun F hF => ⟨bm, bk, bq, hok, hF⟩)
      refine (own_val (A' := FA bt most idle (insF f (delF f.t L))) (r := .tuple #[]) h2 0 rfl (FA.framed _ _ _ _) fun F hF => fset hF wf hf hroom).mono fun e w' ⟨he, ho⟩ => ⟨he, ?_⟩
      rw [hput, if_neg (by rintro ⟨e, hl⟩; rcases hroom with h | h; exact h e; omega)]
      have e2 : (!(atF L f.t).isSome) = (atF L f.t).isNone := by cases atF L f.t <;> rfl
      rw [e2]
      exact GV.mk ho (fun F' hs => by obtain ⟨F1, F2, q1, q2, q3, q4⟩ := hs; obtain rfl : F2 = [] := q2; rw [q4]; simpa using q1)
  have Hfull : Hid (∀ wz, ((atF L f.t).isSome = false ∧ most ≤ (L.length : Int)) → In F w wz (Cells w.heap.size (encF f) 59 :: FR bt most idle bm bk bq L) → FPutPost bt most idle (putF most L f) w F (.returned (.tuple #[.bool false, .int .i64 9])) wz) := Lib.hid fun wz hfull hz => by
    have e : atF L f.t = none := by
      have := hfull.1
      revert this; cases atF L f.t <;> simp
    rw [hput, if_pos ⟨e, hfull.2⟩]
    exact GV.mk hz.drop (fun F' hs => ⟨bm, bk, bq, hok, hs⟩)
  have Hlen := Lib.hid fun (w1 : World) (h1 : In F w w1 (Cells w.heap.size (encF f) 59 :: FR bt most idle bm bk bq L)) (ty : TypeId) => tab_len h1 2 rfl Try.underlying102 ty
  clear h h0 hf wf hok hput
  generalize hp : putF most L f = P at *
  clear hp
  have hcase : (atF L f.t).isSome = true ∨ ((atF L f.t).isSome = false ∧ (L.length : Int) < most) ∨ ((atF L f.t).isSome = false ∧ most ≤ (L.length : Int)) := by
    cases (atF L f.t).isSome with
    | true => left; rfl
    | false => right; simp; omega
  have Hcase := Lib.hid hcase
  clear hcase
  go_enter Try.func29, Try.ntmps29
  go_wp2_with fail
  refine H0.out.mono ?_
  rintro e w1 ⟨rfl, ho⟩
  have c0 : w1.cell? ⟨bt, 2, none⟩ = some (.map (some bm)) ∧ w1.cell? ⟨w.heap.size, 0, none⟩ = some (.int .u32 f.t.src) ∧ w1.cell? ⟨w.heap.size, 1, none⟩ = some (.int .u32 f.t.dst) ∧ w1.cell? ⟨w.heap.size, 2, none⟩ = some (.int .i64 f.t.proto) ∧ w1.cell? ⟨w.heap.size, 3, none⟩ = some (.int .i64 f.t.sport) ∧ w1.cell? ⟨w.heap.size, 4, none⟩ = some (.int .i64 f.t.dport) := ⟨cell_of (ho.block 1 rfl) rfl, cell_of (ho.block 0 rfl) rfl, cell_of (ho.block 0 rfl) rfl, cell_of (ho.block 0 rfl) rfl, cell_of (ho.block 0 rfl) rfl, cell_of (ho.block 0 rfl) rfl⟩
  have l0 : (Instr.lookup 102 (.map (some bm)) (.agg (encT f.t)) true).run Try.prog w1.drew = .ok (.tuple #[.agg (encF ((atF L f.t).getD zF)), .bool (atF L f.t).isSome]) w1.drew := Hl.out _ (ho.drewN 1)
  have l1 : (Instr.lookup 102 (.map (some bm)) (.agg (encT f.t)) true).run Try.prog (w1.alloc (.cells #[.int .u32 0, .int .u32 0, .int .i64 0, .int .i64 0, .int .i64 0, .int .i64 0, .int .i64 0, .int .i64 0] 59)).drew = .ok (.tuple #[.agg (encF ((atF L f.t).getD zF)), .bool (atF L f.t).isSome]) (w1.alloc (.cells #[.int .u32 0, .int .u32 0, .int .i64 0, .int .i64 0, .int .i64 0, .int .i64 0, .int .i64 0, .int .i64 0] 59)).drew := Hl.out _ ((ho.alloc (.cells #[.int .u32 0, .int .u32 0, .int .i64 0, .int .i64 0, .int .i64 0, .int .i64 0, .int .i64 0, .int .i64 0] 59)).drewN 1)
  have HO := Lib.hid ho
  clear ho H0
  generalize hfv : (atF L f.t).getD zF = fv at *
  clear hfv
  obtain ⟨⟨f1, f2, f3, f4, f5⟩, f6, f7, f8⟩ := fv
  generalize hq : (atF L f.t).isSome = q at *
  clear hq
  generalize w.heap.size = g at *
  go_wp2_with fail
  go_region_held3 (fun w' => w'.cell? ⟨bt, 2, none⟩ = some (.map (some bm)) ∧ w'.cell? ⟨g, 0, none⟩ = some (.int .u32 f.t.src) ∧ w'.cell? ⟨g, 1, none⟩ = some (.int .u32 f.t.dst) ∧ w'.cell? ⟨g, 2, none⟩ = some (.int .i64 f.t.proto) ∧ w'.cell? ⟨g, 3, none⟩ = some (.int .i64 f.t.sport) ∧ w'.cell? ⟨g, 4, none⟩ = some (.int .i64 f.t.dport)) (go_keep) (fail)
  all_goals
    clear l0 l1 c0
    have HW := Lib.hid (HO.out.alloc (.cells #[.int .u32 f1, .int .u32 f2, .int .i64 f3, .int .i64 f4, .int .i64 f5, .int .i64 f6, .int .i64 f7, .int .i64 f8] 59))
    generalize (w1.alloc (.cells #[.int .u32 f1, .int .u32 f2, .int .i64 f3, .int .i64 f4, .int .i64 f5, .int .i64 f6, .int .i64 f7, .int .i64 f8] 59)) = W at *
    have H2 := Lib.hid HW.out.drew
    have d1 : W.cell? ⟨bt, 2, none⟩ = some (.map (some bm)) := cell_of (H2.out.block 1 rfl) rfl
    have d2 : W.cell? ⟨bt, 0, none⟩ = some (.int .i64 most) := cell_of (H2.out.block 1 rfl) rfl
    have d3 : ∀ (n : Nat) ty, (Builtin.len_ #[102] ty #[.map (some bm)]).run Try.prog (W.drewN n) = .ok (.int .i64 L.length) (W.drewN n) := fun n ty => Hlen.out _ (HW.out.drewN n) ty
    obtain ⟨e1, e2, e3, e4, e5, e6, e7, e8⟩ : W.cell? ⟨g, 0, none⟩ = some (.int .u32 f.t.src) ∧ W.cell? ⟨g, 1, none⟩ = some (.int .u32 f.t.dst) ∧ W.cell? ⟨g, 2, none⟩ = some (.int .i64 f.t.proto) ∧ W.cell? ⟨g, 3, none⟩ = some (.int .i64 f.t.sport) ∧ W.cell? ⟨g, 4, none⟩ = some (.int .i64 f.t.dport) ∧ W.cell? ⟨g, 5, none⟩ = some (.int .i64 f.bk) ∧ W.cell? ⟨g, 6, none⟩ = some (.int .i64 f.gen) ∧ W.cell? ⟨g, 7, none⟩ = some (.int .i64 f.seen) := ⟨cell_of (H2.out.block 0 rfl) rfl, cell_of (H2.out.block 0 rfl) rfl, cell_of (H2.out.block 0 rfl) rfl, cell_of (H2.out.block 0 rfl) rfl, cell_of (H2.out.block 0 rfl) rfl, cell_of (H2.out.block 0 rfl) rfl, cell_of (H2.out.block 0 rfl) rfl, cell_of (H2.out.block 0 rfl) rfl⟩
    rcases Hcase.out with c | ⟨c, cl⟩ | ⟨c, cl⟩
    · subst c
      clear d3
      go_wp2_with fail
      go_quiet (fail)
      go_wp2_with fail
      refine (HS.out _ (Or.inl (by first | rfl | trivial)) (HW.out.drewN (1 + nq))).mono ?_
      rintro e w3 ⟨rfl, ho⟩
      have H3 := Lib.hid ho
      clear ho
      go_wp2_with fail
      go_ret2
      exact H3.out
    · subst c
      have cl' := Lib.hid cl
      go_wp2_with fail
      go_quiet (fail)
      go_wp2_with fail
      refine (HS.out _ (Or.inr cl'.out) (HW.out.drewN (1 + nq))).mono ?_
      rintro e w3 ⟨rfl, ho⟩
      have H3 := Lib.hid ho
      clear ho
      go_wp2_with fail
      go_ret2
      exact H3.out
    · subst c
      have cl' := Lib.hid cl
      go_wp2_with fail
      go_quiet (fail)
      go_wp2_with fail
      go_ret2
      exact Hfull.out _ ⟨by first | rfl | trivial, cl'.out⟩ (H2.out.drewN nq)
end Go.Proofs.Ytcakgponofbhkaa
