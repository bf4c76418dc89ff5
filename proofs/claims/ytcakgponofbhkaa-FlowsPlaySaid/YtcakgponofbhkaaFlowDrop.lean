/- A table of flows: one is dropped. -/
import Derived.Test.YtcakgponofbhkaaFlowTouch
namespace Go.Proofs.Ytcakgponofbhkaa
open Go.RowKit
open Go.Maps (Keyed)
set_option linter.unusedVariables false
set_option maxRecDepth 100000

def FDropPost (bt : Nat) (most idle : Int) (r : List Fl × List KT × Bool) (w : World) (F : List Nat) (e : Ending) (w' : World) : Prop := GV (.bool r.2.2) (FAQ bt most idle r.1 r.2.1) w F e w'
def dropQ (L : List Fl) (Q : List KT) (t : Tup) : List Fl × List KT × Bool := if (atF L t).isSome = true then (delF t L, delS (keyT t) Q, true) else (L, Q, false)
theorem ok_del {most : Int} {L : List Fl} (h : OkF most L) (t : Tup) : OkF most (delF t L) := by
  refine ⟨fun x hx => h.wf x (delF_mem.1 hx).1, fun x hx => h.may x (delF_mem.1 hx).1, h.keys.sublist (List.filter_sublist.map _), ?_, h.most⟩
  have := List.length_filter_le (notT t) L
  have h3 := h.room
  unfold delF
  omega
theorem del_none {L : List Fl} {t : Tup} (h : atF L t = none) : delF t L = L := List.filter_eq_self.2 (fun x hx => by simpa [notT] using atF_none.1 h x hx)
set_option maxHeartbeats 8000000 in
theorem fdrop_nil (t : Tup) (w : World) : Calls Try.prog 38 #[.pointer none, .agg (encT t)] w fun e w' => e = .returned (.bool false) ∧ Mod [] w w' := by
  have H0 := Lib.hid (fun o : Obj => fget_nil t (w.alloc o))
  have HM : Hid (∀ (o : Obj) w1, Mod [] (w.alloc o) w1 → ∀ o', Mod [] w (w1.alloc o')) := Lib.hid fun o w1 h o' => (((Mod.refl _ _).alloc _).trans h (fun x hx => by simp at hx)).alloc _
  go_enter Try.func38, Try.ntmps38
  go_wp2_with fail
  refine (H0.out _).mono ?_
  rintro e w1 ⟨rfl, ho⟩
  have HO := Lib.hid (HM.out _ _ ho)
  clear ho
  have e1 : encF zF = #[.int .u32 0, .int .u32 0, .int .i64 0, .int .i64 0, .int .i64 0, .int .i64 0, .int .i64 0, .int .i64 0] := rfl
  rw [e1]
  clear e1
  go_wp2_with fail
  go_ret
  exact ⟨rfl, HO.out _⟩
theorem star_back {w : World} : ∀ {A1 R : List Asrt} {F1 F2 : List Nat}, Star A1 w F1 → Star R w F2 → Apart F1 F2 → Star (A1 ++ R) w (F1 ++ F2)
  | [], R, F1, F2, h1, h2, _ => by obtain rfl : F1 = [] := h1; exact h2
  | A :: A1, R, F1, F2, ⟨G1, G2, g1, g2, g3, e⟩, h2, h3 => by
    refine ⟨G1, G2 ++ F2, g1, star_back g2 h2 (fun b hb => h3 b (by rw [e]; exact List.mem_append_right _ hb)), fun b hb hb2 => ?_, by rw [e, List.append_assoc]⟩
    rcases List.mem_append.1 hb2 with hb2 | hb2
    · exact g3 b hb hb2
    · exact h3 b (by rw [e]; exact List.mem_append_left _ hb) hb2
theorem In.openF {F0 : List Nat} {w0 w : World} {R : List Asrt} {bt : Nat} {most idle : Int} {L : List Fl} {Q : List KT} (h : In F0 w0 w (FAQ bt most idle L Q :: R)) : ∃ bm bk bq, In F0 w0 w (FRQ bt most idle bm bk bq L Q ++ R) := by
  obtain ⟨F, ⟨F1, F2, ⟨bm, bk, bq, hok, h1⟩, h2, h3, rfl⟩, hF⟩ := h.star
  refine ⟨bm, bk, bq, fun B hB => ?_, ⟨_, star_back h1 h2 h3, hF⟩, h.mod⟩
  rcases List.mem_append.1 hB with hB | hB
  · exact FRQ.framed _ hB
  · exact h.framed B (List.mem_cons_of_mem _ hB)

/-- The table's row. -/
abbrev TC (bt : Nat) (most idle : Int) (bm bk bq : Nat) : Asrt := Cells bt #[.int .i64 most, .int .i64 idle, .map (some bm), .map (some bk), .pointer (some ⟨bq, 0, none⟩)] 105
/-- What a walk reads of the table and of a tuple. -/
def TupC (bt g : Nat) (bm bk bq : Nat) (t : Tup) (w' : World) : Prop :=
  w'.cell? ⟨bt, 2, none⟩ = some (.map (some bm)) ∧ w'.cell? ⟨bt, 3, none⟩ = some (.map (some bk)) ∧ w'.cell? ⟨bt, 4, none⟩ = some (.pointer (some ⟨bq, 0, none⟩)) ∧
  w'.cell? ⟨g, 0, none⟩ = some (.int .u32 t.src) ∧ w'.cell? ⟨g, 1, none⟩ = some (.int .u32 t.dst) ∧ w'.cell? ⟨g, 2, none⟩ = some (.int .i64 t.proto) ∧ w'.cell? ⟨g, 3, none⟩ = some (.int .i64 t.sport) ∧ w'.cell? ⟨g, 4, none⟩ = some (.int .i64 t.dport)
theorem TupC.of {F0 : List Nat} {w0 w' : World} {bt g : Nat} {most idle : Int} {bm bk bq : Nat} {t : Tup} {R : List Asrt} (h : In F0 w0 w' (TC bt most idle bm bk bq :: R)) (i : Nat) (hA : (TC bt most idle bm bk bq :: R)[i]? = some (Cells g (encT t) 57)) : TupC bt g bm bk bq t w' :=
  ⟨cell_of (h.block 0 rfl) rfl, cell_of (h.block 0 rfl) rfl, cell_of (h.block 0 rfl) rfl, cell_of (h.block i hA) rfl, cell_of (h.block i hA) rfl, cell_of (h.block i hA) rfl, cell_of (h.block i hA) rfl, cell_of (h.block i hA) rfl⟩
set_option maxHeartbeats 16000000 in
theorem fdropQ {w : World} {bt : Nat} {most idle : Int} {L : List Fl} {Q : List KT} {F : List Nat} (h : FAQ bt most idle L Q w F) {t : Tup} (wt : WfT t) :
    Calls Try.prog 38 #[.pointer (some ⟨bt, 0, none⟩), .agg (encT t)] w (FDropPost bt most idle (dropQ L Q t) w F) := by
  have hok := (in_one (FAQ.framed _ _ _ _ _) h).okF 0 rfl
  have h0 := (in_one (FAQ.framed _ _ _ _ _) h).cells (encT t) 57
  have H0 := Lib.hid (o_fget h0 1 rfl wt)
  obtain ⟨kt, hkt⟩ := keyOf_tup wt
  have HG0 : Hid (∀ w1, (atF L t).isSome = false → In F w w1 [FAQ bt most idle L Q] → FDropPost bt most idle (dropQ L Q t) w F (.returned (.bool false)) w1) := Lib.hid fun w1 hq h1 => by
    have e2 : dropQ L Q t = (L, Q, false) := by unfold dropQ; rw [if_neg (by rw [hq]; simp)]
    rw [e2]
    exact GV.mk h1 (fun F' hs => by obtain ⟨F1, F2, q1, q2, q3, q4⟩ := hs; obtain rfl : F2 = [] := q2; rw [q4]; simpa using q1)
  have HM : Hid ((atF L t).isSome = true → MayT t) := Lib.hid fun hs => by
    cases ha : atF L t with
    | none => rw [ha] at hs; cases hs
    | some f =>
      obtain ⟨m1, rfl⟩ := (atF_some hok.keys).1 ha
      exact (hok.may f m1).t
  have HX : Hid (∀ w1, In F w w1 [Cells w.heap.size (encT t) 57, FAQ bt most idle L Q] → ∃ bm bk bq, In F w w1 [TC bt most idle bm bk bq, FM bm L, KM bk L, QA bq Q, Cells w.heap.size (encT t) 57]) := Lib.hid fun w1 h1 => In.openF (h1.perm (List.Perm.swap _ _ _))
  have HD1 : Hid (∀ w1 bm bk bq, In F w w1 [TC bt most idle bm bk bq, FM bm L, KM bk L, QA bq Q, Cells w.heap.size (encT t) 57] → ∃ w2, (Builtin.delete_ #[102, 57] 0 #[.map (some bm), .agg (encT t)]).run Try.prog w1 = .ok (.tuple #[]) w2 ∧ In F w w2 [TC bt most idle bm bk bq, FM bm (delF t L), KM bk L, QA bq Q, Cells w.heap.size (encT t) 57]) :=
    Lib.hid fun w1 bm bk bq h1 => by
      obtain ⟨w2, r1, _, h2⟩ := tab_del h1 1 rfl tupLaw Try.underlying102 hkt (nodup_vT hok.keys) (notT t) notT_vT 57 0
      exact ⟨w2, r1, h2⟩
  have HD2 : Hid ((atF L t).isSome = true → ∀ w1 bm bk bq, In F w w1 [TC bt most idle bm bk bq, FM bm (delF t L), KM bk L, QA bq Q, Cells w.heap.size (encT t) 57] → ∃ w2, (Builtin.delete_ #[103, 9] 0 #[.map (some bk), .string (keyT t)]).run Try.prog w1 = .ok (.tuple #[]) w2 ∧ In F w w2 [TC bt most idle bm bk bq, FM bm (delF t L), KM bk (delF t L), QA bq Q, Cells w.heap.size (encT t) 57]) :=
    Lib.hid fun hs w1 bm bk bq h1 => by
      obtain ⟨w2, r1, _, h2⟩ := tab_del h1 2 rfl strLawT Try.underlying103 (Go.WideMaps.keyOf_string_mk Try.underlying9 (keyT_size t)) (nodup_vK hok) (notT t) (notT_vK hok wt (HM.out hs)) 9 0
      exact ⟨w2, r1, h2⟩
  have HD3 : Hid ((atF L t).isSome = true → ∀ w1 bm bk bq, In F w w1 [TC bt most idle bm bk bq, FM bm (delF t L), KM bk (delF t L), QA bq Q, Cells w.heap.size (encT t) 57] → Calls Try.prog 60 #[.pointer (some ⟨bq, 0, none⟩), .string (keyT t)] w1 fun e w' => (∃ b, e = .returned (.bool b)) ∧ In F w w' [TC bt most idle bm bk bq, FM bm (delF t L), KM bk (delF t L), QA bq (delS (keyT t) Q), Cells w.heap.size (encT t) 57]) :=
    Lib.hid fun hs w1 bm bk bq h1 => by
      have := o_drop h1 3 rfl (keyT_size t)
      exact this.mono fun e w' ⟨he, ho⟩ => ⟨⟨_, he⟩, ho⟩
  have HG : Hid (∀ wz bm bk bq, (atF L t).isSome = true → In F w wz [TC bt most idle bm bk bq, FM bm (delF t L), KM bk (delF t L), QA bq (delS (keyT t) Q), Cells w.heap.size (encT t) 57] → FDropPost bt most idle (dropQ L Q t) w F (.returned (.bool true)) wz) :=
    Lib.hid fun wz bm bk bq hs hz => by
      have e2 : dropQ L Q t = (delF t L, delS (keyT t) Q, true) := by unfold dropQ; rw [if_pos hs]
      rw [e2]
      exact GV.mk (hz.sel [0, 1, 2, 3] (by decide) rfl) (fun F' hs => ⟨bm, bk, bq, ok_del hok t, hs⟩)
  have Hk : Hid (∀ {w2 : World} {R}, In F w w2 R → Calls Try.prog 69 #[.agg (encT t)] w2 fun e w' => e = .returned (.string (keyT t)) ∧ In F w w' R) := Lib.hid fun h => o_fkey h wt
  clear h h0 hok hkt wt HM
  generalize (atF L t).getD zF = fv at *
  generalize (atF L t).isSome = q at *
  generalize dropQ L Q t = P at *
  obtain ⟨⟨f1, f2, f3, f4, f5⟩, f6, f7, f8⟩ := fv
  go_enter Try.func38, Try.ntmps38
  go_wp2_with fail
  generalize w.heap.size = g at *
  refine H0.out.mono ?_
  rintro e w1 ⟨rfl, ho⟩
  have HO := Lib.hid ho
  have HO1 := Lib.hid ho.drop
  clear ho
  have e1 : encF ⟨⟨f1, f2, f3, f4, f5⟩, f6, f7, f8⟩ = #[.int .u32 f1, .int .u32 f2, .int .i64 f3, .int .i64 f4, .int .i64 f5, .int .i64 f6, .int .i64 f7, .int .i64 f8] := rfl
  rw [e1]
  clear e1
  have HW := Lib.hid fun o => HO.out.alloc o
  have HW1 := Lib.hid fun o => HO1.out.alloc o
  rcases q with _ | _
  · go_wp2_with fail
    go_ret
    exact HG0.out _ trivial (HW1.out _)
  · go_wp2_with fail
    have HWW0 := Lib.hid (HW.out (.cells #[.int .u32 f1, .int .u32 f2, .int .i64 f3, .int .i64 f4, .int .i64 f5, .int .i64 f6, .int .i64 f7, .int .i64 f8] 59))
    generalize w1.alloc (.cells #[.int .u32 f1, .int .u32 f2, .int .i64 f3, .int .i64 f4, .int .i64 f5, .int .i64 f6, .int .i64 f7, .int .i64 f8] 59) = W at *
    obtain ⟨bm, bk, bq, hx⟩ := HX.out _ HWW0.out
    obtain ⟨w2, r1, h2⟩ := HD1.out _ bm bk bq hx.drew
    have HX2 := Lib.hid hx
    have H2 := Lib.hid h2
    clear hx h2
    have hc0 : W.cell? ⟨bt, 2, none⟩ = some (.map (some bm)) ∧ W.cell? ⟨g, 0, none⟩ = some (.int .u32 t.src) ∧ W.cell? ⟨g, 1, none⟩ = some (.int .u32 t.dst) ∧ W.cell? ⟨g, 2, none⟩ = some (.int .i64 t.proto) ∧ W.cell? ⟨g, 3, none⟩ = some (.int .i64 t.sport) ∧ W.cell? ⟨g, 4, none⟩ = some (.int .i64 t.dport) := by
      obtain ⟨a1, a2, a3, a4, a5, a6, a7, a8⟩ := TupC.of HX2.out 4 rfl
      exact ⟨a1, a4, a5, a6, a7, a8⟩
    have hc1 : w2.cell? ⟨bt, 2, none⟩ = some (.map (some bm)) ∧ w2.cell? ⟨g, 0, none⟩ = some (.int .u32 t.src) ∧ w2.cell? ⟨g, 1, none⟩ = some (.int .u32 t.dst) ∧ w2.cell? ⟨g, 2, none⟩ = some (.int .i64 t.proto) ∧ w2.cell? ⟨g, 3, none⟩ = some (.int .i64 t.sport) ∧ w2.cell? ⟨g, 4, none⟩ = some (.int .i64 t.dport) := by
      obtain ⟨a1, a2, a3, a4, a5, a6, a7, a8⟩ := TupC.of H2.out 4 rfl
      exact ⟨a1, a4, a5, a6, a7, a8⟩
    go_region_held3 (fun w' => w'.cell? ⟨bt, 2, none⟩ = some (.map (some bm)) ∧ w'.cell? ⟨g, 0, none⟩ = some (.int .u32 t.src) ∧ w'.cell? ⟨g, 1, none⟩ = some (.int .u32 t.dst) ∧ w'.cell? ⟨g, 2, none⟩ = some (.int .i64 t.proto) ∧ w'.cell? ⟨g, 3, none⟩ = some (.int .i64 t.sport) ∧ w'.cell? ⟨g, 4, none⟩ = some (.int .i64 t.dport)) (first | exact hc1 | exact hc0 | go_keep) (fail)
    clear hc0 hc1 r1
    have hc1 : w2.cell? ⟨bt, 3, none⟩ = some (.map (some bk)) ∧ w2.cell? ⟨g, 0, none⟩ = some (.int .u32 t.src) ∧ w2.cell? ⟨g, 1, none⟩ = some (.int .u32 t.dst) ∧ w2.cell? ⟨g, 2, none⟩ = some (.int .i64 t.proto) ∧ w2.cell? ⟨g, 3, none⟩ = some (.int .i64 t.sport) ∧ w2.cell? ⟨g, 4, none⟩ = some (.int .i64 t.dport) := by
      obtain ⟨a1, a2, a3, a4, a5, a6, a7, a8⟩ := TupC.of H2.out 4 rfl
      exact ⟨a2, a4, a5, a6, a7, a8⟩
    go_wp2_with fail
    go_region_held3 (fun w' => w'.cell? ⟨bt, 3, none⟩ = some (.map (some bk)) ∧ w'.cell? ⟨g, 0, none⟩ = some (.int .u32 t.src) ∧ w'.cell? ⟨g, 1, none⟩ = some (.int .u32 t.dst) ∧ w'.cell? ⟨g, 2, none⟩ = some (.int .i64 t.proto) ∧ w'.cell? ⟨g, 3, none⟩ = some (.int .i64 t.sport) ∧ w'.cell? ⟨g, 4, none⟩ = some (.int .i64 t.dport)) (first | exact hc3 | exact hc2 | exact hc1 | go_keep)
      (first
        | (go_at_call 69
           refine (Hk.out H2.out.drew).mono ?_
           rintro e w3 ⟨rfl, ho⟩
           have hc2 : w3.cell? ⟨bt, 3, none⟩ = some (.map (some bk)) ∧ w3.cell? ⟨g, 0, none⟩ = some (.int .u32 t.src) ∧ w3.cell? ⟨g, 1, none⟩ = some (.int .u32 t.dst) ∧ w3.cell? ⟨g, 2, none⟩ = some (.int .i64 t.proto) ∧ w3.cell? ⟨g, 3, none⟩ = some (.int .i64 t.sport) ∧ w3.cell? ⟨g, 4, none⟩ = some (.int .i64 t.dport) := by
             obtain ⟨a1, a2, a3, a4, a5, a6, a7, a8⟩ := TupC.of ho 4 rfl
             exact ⟨a2, a4, a5, a6, a7, a8⟩
           obtain ⟨w4, r3, ho3⟩ := HD2.out trivial w3 _ _ _ ho
           have hc3 : w4.cell? ⟨bt, 3, none⟩ = some (.map (some bk)) ∧ w4.cell? ⟨g, 0, none⟩ = some (.int .u32 t.src) ∧ w4.cell? ⟨g, 1, none⟩ = some (.int .u32 t.dst) ∧ w4.cell? ⟨g, 2, none⟩ = some (.int .i64 t.proto) ∧ w4.cell? ⟨g, 3, none⟩ = some (.int .i64 t.sport) ∧ w4.cell? ⟨g, 4, none⟩ = some (.int .i64 t.dport) := by
             obtain ⟨a1, a2, a3, a4, a5, a6, a7, a8⟩ := TupC.of ho3 4 rfl
             exact ⟨a2, a4, a5, a6, a7, a8⟩
           have H4 := Lib.hid ho3
           clear ho ho3))
    clear hc1 hc2 hc3 r3
    have hc1 : w4.cell? ⟨bt, 4, none⟩ = some (.pointer (some ⟨bq, 0, none⟩)) ∧ w4.cell? ⟨g, 0, none⟩ = some (.int .u32 t.src) ∧ w4.cell? ⟨g, 1, none⟩ = some (.int .u32 t.dst) ∧ w4.cell? ⟨g, 2, none⟩ = some (.int .i64 t.proto) ∧ w4.cell? ⟨g, 3, none⟩ = some (.int .i64 t.sport) ∧ w4.cell? ⟨g, 4, none⟩ = some (.int .i64 t.dport) := by
      obtain ⟨a1, a2, a3, a4, a5, a6, a7, a8⟩ := TupC.of H4.out 4 rfl
      exact ⟨a3, a4, a5, a6, a7, a8⟩
    go_wp2_with fail
    go_region_held3 (fun w' => w'.cell? ⟨bt, 4, none⟩ = some (.pointer (some ⟨bq, 0, none⟩)) ∧ w'.cell? ⟨g, 0, none⟩ = some (.int .u32 t.src) ∧ w'.cell? ⟨g, 1, none⟩ = some (.int .u32 t.dst) ∧ w'.cell? ⟨g, 2, none⟩ = some (.int .i64 t.proto) ∧ w'.cell? ⟨g, 3, none⟩ = some (.int .i64 t.sport) ∧ w'.cell? ⟨g, 4, none⟩ = some (.int .i64 t.dport)) (first | exact hc3 | exact hc2 | exact hc1 | go_keep)
      (first
        | (go_at_call 69
           refine (Hk.out H4.out.drew).mono ?_
           rintro e w5 ⟨rfl, ho⟩
           have hc2 : w5.cell? ⟨bt, 4, none⟩ = some (.pointer (some ⟨bq, 0, none⟩)) ∧ w5.cell? ⟨g, 0, none⟩ = some (.int .u32 t.src) ∧ w5.cell? ⟨g, 1, none⟩ = some (.int .u32 t.dst) ∧ w5.cell? ⟨g, 2, none⟩ = some (.int .i64 t.proto) ∧ w5.cell? ⟨g, 3, none⟩ = some (.int .i64 t.sport) ∧ w5.cell? ⟨g, 4, none⟩ = some (.int .i64 t.dport) := by
             obtain ⟨a1, a2, a3, a4, a5, a6, a7, a8⟩ := TupC.of ho 4 rfl
             exact ⟨a3, a4, a5, a6, a7, a8⟩
           have H5 := Lib.hid ho
           clear ho)
        | (go_at_call 60
           refine (HD3.out trivial _ _ _ _ H5.out).mono ?_
           rintro e w6 ⟨⟨b, rfl⟩, ho⟩
           have hc3 : w6.cell? ⟨bt, 4, none⟩ = some (.pointer (some ⟨bq, 0, none⟩)) ∧ w6.cell? ⟨g, 0, none⟩ = some (.int .u32 t.src) ∧ w6.cell? ⟨g, 1, none⟩ = some (.int .u32 t.dst) ∧ w6.cell? ⟨g, 2, none⟩ = some (.int .i64 t.proto) ∧ w6.cell? ⟨g, 3, none⟩ = some (.int .i64 t.sport) ∧ w6.cell? ⟨g, 4, none⟩ = some (.int .i64 t.dport) := by
             obtain ⟨a1, a2, a3, a4, a5, a6, a7, a8⟩ := TupC.of ho 4 rfl
             exact ⟨a3, a4, a5, a6, a7, a8⟩
           have H6 := Lib.hid ho
           clear ho))
    have HF := Lib.hid (HG.out _ _ _ _ trivial H6.out)
    go_wp2_with fail
    go_ret
    exact HF.out
theorem drop_enc {most : Int} {L : List Fl} (h : OkF most L) {t : Tup} (wt : WfT t) : dropQ L (L.map encQ) t = (delF t L, (delF t L).map encQ, (atF L t).isSome) := by
  unfold dropQ
  cases ha : atF L t with
  | none => simp [del_none ha]
  | some f =>
    obtain ⟨m1, rfl⟩ := (atF_some h.keys).1 ha
    simp only [Option.isSome_some, if_true]
    rw [delF_enc wt (h.may f m1).t h.wf h.may]
theorem fdrop {w : World} {bt : Nat} {most idle : Int} {L : List Fl} {F : List Nat} (h : FA bt most idle L w F) {t : Tup} (wt : WfT t) :
    Calls Try.prog 38 #[.pointer (some ⟨bt, 0, none⟩), .agg (encT t)] w (GV (.bool (atF L t).isSome) (FA bt most idle (delF t L)) w F) := by
  have hok := (in_one (FA.framed _ _ _ _) h).okF 0 rfl
  have c : Calls Try.prog 38 #[.pointer (some ⟨bt, 0, none⟩), .agg (encT t)] w (FDropPost bt most idle (dropQ L (L.map encQ) t) w F) := fdropQ h wt
  rw [drop_enc hok wt] at c
  exact c
end Go.Proofs.Ytcakgponofbhkaa
