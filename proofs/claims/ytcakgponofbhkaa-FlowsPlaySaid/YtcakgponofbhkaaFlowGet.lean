/- A table of flows: how many, how many there may be, one of them; a new one. -/
import Derived.Test.YtcakgponofbhkaaFlowSet
namespace Go.Proofs.Ytcakgponofbhkaa
open Go.RowKit
open Go.Maps (Keyed)
set_option linter.unusedVariables false
set_option maxRecDepth 100000

def zT : Tup := ⟨0, 0, 0, 0, 0⟩
def zF : Fl := ⟨zT, 0, 0, 0⟩
theorem zero_flow (w : World) : (zeroValue 59).run Try.prog w = .ok (.agg #[.int .u32 0, .int .u32 0, .int .i64 0, .int .i64 0, .int .i64 0, .int .i64 0, .int .i64 0, .int .i64 0]) w := by kernel_rfl
theorem fcells {F0 : List Nat} {w0 w : World} {R : List Asrt} {C : Array Value} {bt : Nat} (h : In F0 w0 w R) (i : Nat) (hA : R[i]? = some (Cells bt C 105)) : w.heap[bt]? = some (.cells C 105 (0, 0)) := h.block i hA
theorem flook {F0 : List Nat} {w0 w : World} {R : List Asrt} {bm : Nat} {L : List Fl} (h : In F0 w0 w R) (i : Nat) (hA : R[i]? = some (FM bm L)) (hk : (L.map (·.t)).Nodup) {t : Tup} (wt : WfT t) :
    (Instr.lookup 102 (.map (some bm)) (.agg (encT t)) true).run Try.prog w = .ok (.tuple #[.agg (encF ((atF L t).getD zF)), .bool (atF L t).isSome]) w := by
  obtain ⟨kl, hkl⟩ := keyOf_tup wt
  rcases tab_look h i hA tupLaw Try.underlying102 (zero_flow w) hkl true with ⟨x, hx, e, hr⟩ | ⟨hn, hr⟩
  · have : atF L t = some x := (atF_some hk).2 ⟨hx, vT_inj (y := ⟨t, 0, 0, 0⟩) e⟩
    rw [this]; exact hr
  · have : atF L t = none := atF_none.2 (fun x hx e => hn x hx (by rw [← e]))
    rw [this]; exact hr
theorem flook1 {F0 : List Nat} {w0 w : World} {R : List Asrt} {bm : Nat} {L : List Fl} (h : In F0 w0 w R) (i : Nat) (hA : R[i]? = some (FM bm L)) (hk : (L.map (·.t)).Nodup) {t : Tup} (wt : WfT t) :
    (Instr.lookup 102 (.map (some bm)) (.agg (encT t)) false).run Try.prog w = .ok (.agg (encF ((atF L t).getD zF))) w := by
  obtain ⟨kl, hkl⟩ := keyOf_tup wt
  rcases tab_look h i hA tupLaw Try.underlying102 (zero_flow w) hkl false with ⟨x, hx, e, hr⟩ | ⟨hn, hr⟩
  · have : atF L t = some x := (atF_some hk).2 ⟨hx, vT_inj (y := ⟨t, 0, 0, 0⟩) e⟩
    rw [this]; exact hr
  · have : atF L t = none := atF_none.2 (fun x hx e => hn x hx (by rw [← e]))
    rw [this]; exact hr

theorem fmost_nil (w : World) : Calls Try.prog 42 #[.pointer none] w fun e w' => e = .returned (.int .i64 0) ∧ w = w' := by
  go_enter Try.func42, Try.ntmps42
  go_wp2_with fail
  go_ret
  exact ⟨rfl, rfl⟩
theorem flen_nil (w : World) : Calls Try.prog 36 #[.pointer none] w fun e w' => e = .returned (.int .i64 0) ∧ w = w' := by
  go_enter Try.func36, Try.ntmps36
  go_wp2_with fail
  go_ret
  exact ⟨rfl, rfl⟩
theorem fmost {w : World} {bt : Nat} {most idle : Int} {L : List Fl} {F : List Nat} (h : FA bt most idle L w F) : Calls Try.prog 42 #[.pointer (some ⟨bt, 0, none⟩)] w fun e w' => e = .returned (.int .i64 most) ∧ w = w' := by
  obtain ⟨bm, bk, bq, hok, h⟩ := h
  have HB := In.start FR.framed h
  have c0 : w.cell? ⟨bt, 0, none⟩ = some (.int .i64 most) := cell_of (HB.block 0 rfl) rfl
  clear HB h hok
  go_enter Try.func42, Try.ntmps42
  go_wp2_with fail
  go_ret
  exact ⟨rfl, rfl⟩
theorem flen {w : World} {bt : Nat} {most idle : Int} {L : List Fl} {F : List Nat} (h : FA bt most idle L w F) : Calls Try.prog 36 #[.pointer (some ⟨bt, 0, none⟩)] w fun e w' => e = .returned (.int .i64 L.length) ∧ w = w' := by
  obtain ⟨bm, bk, bq, hok, h⟩ := h
  have HB := In.start FR.framed h
  have c0 : w.cell? ⟨bt, 2, none⟩ = some (.map (some bm)) := cell_of (HB.block 0 rfl) rfl
  have hl : ∀ ty, (Builtin.len_ #[102] ty #[.map (some bm)]).run Try.prog w = .ok (.int .i64 L.length) w := fun ty => tab_len HB 1 rfl Try.underlying102 ty
  clear HB h hok
  go_enter Try.func36, Try.ntmps36
  go_wp2_with fail
  go_ret
  exact ⟨rfl, rfl⟩

/-! ### Get -/
def FGetPost (A : Asrt) (L : List Fl) (t : Tup) (w : World) (F : List Nat) (e : Ending) (w' : World) : Prop :=
  GV (.tuple #[.agg (encF ((atF L t).getD zF)), .bool (atF L t).isSome]) A w F e w'
theorem fget_nil (t : Tup) (w : World) : Calls Try.prog 37 #[.pointer none, .agg (encT t)] w fun e w' => e = .returned (.tuple #[.agg (encF zF), .bool false]) ∧ Mod [] w w' := by
  have HM : Hid (∀ o o' : Obj, Mod [] w ((w.alloc o).alloc o')) := Lib.hid fun o o' => ((Mod.refl _ _).alloc _).alloc _
  go_enter Try.func37, Try.ntmps37
  go_wp2_with fail
  exact bodyPost_ret (v := .tuple #[.agg (encF zF), .bool false]) (by simp [results, Try.results37, go_sem, zF, zT]) rfl ⟨rfl, HM.out _ _⟩
set_option maxHeartbeats 8000000 in
theorem fget {w : World} {bt : Nat} {most idle : Int} {L : List Fl} {Q : List KT} {F : List Nat} (h : FAQ bt most idle L Q w F) {t : Tup} (wt : WfT t) :
    Calls Try.prog 37 #[.pointer (some ⟨bt, 0, none⟩), .agg (encT t)] w (FGetPost (FAQ bt most idle L Q) L t w F) := by
  obtain ⟨bm, bk, bq, hok, h⟩ := h
  have h0 := ((In.start FRQ.framed h).cells (encT t) 57).cells #[.int .u32 0, .int .u32 0, .int .i64 0, .int .i64 0, .int .i64 0, .int .i64 0, .int .i64 0, .int .i64 0] 59
  rw [World.size_alloc] at h0
  have l0 := flook (h0.drewN 1) 3 rfl hok.keys wt
  have l1 := flook ((h0.drewN 1).cells #[.int .u32 0, .int .u32 0, .int .i64 0, .int .i64 0, .int .i64 0, .int .i64 0, .int .i64 0, .int .i64 0] 59) 4 rfl hok.keys wt
  have HB := In.start FRQ.framed h
  have HG : Hid (∀ o1 o2 o3, FGetPost (FAQ bt most idle L Q) L t w F (.returned (.tuple #[.agg (encF ((atF L t).getD zF)), .bool (atF L t).isSome])) (((w.alloc o1).alloc o2).alloc o3).drew) := Lib.hid fun o1 o2 o3 => GV.mk ((((HB.alloc o1).alloc o2).alloc o3).drewN 1) (fun F' hs => ⟨bm, bk, bq, hok, hs⟩)
  clear HB
  have d0 : (((w.alloc (.cells (encT t) 57)).alloc (.cells #[.int .u32 0, .int .u32 0, .int .i64 0, .int .i64 0, .int .i64 0, .int .i64 0, .int .i64 0, .int .i64 0] 59))).cell? ⟨bt, 2, none⟩ = some (.map (some bm)) := cell_of (h0.block 2 rfl) rfl
  have H0 := Lib.hid h0
  clear h h0 hok wt
  generalize (atF L t).getD zF = f at *
  generalize (atF L t).isSome = q at *
  obtain ⟨⟨f1, f2, f3, f4, f5⟩, f6, f7, f8⟩ := f
  go_enter Try.func37, Try.ntmps37
  have l0' : (Instr.lookup 102 (.map (some bm)) (.agg (encT t)) true).run Try.prog ((w.alloc (.cells (encT t) 57)).alloc (.cells #[.int .u32 0, .int .u32 0, .int .i64 0, .int .i64 0, .int .i64 0, .int .i64 0, .int .i64 0, .int .i64 0] 59)).drew = .ok (.tuple #[.agg #[.int .u32 f1, .int .u32 f2, .int .i64 f3, .int .i64 f4, .int .i64 f5, .int .i64 f6, .int .i64 f7, .int .i64 f8], .bool q]) ((w.alloc (.cells (encT t) 57)).alloc (.cells #[.int .u32 0, .int .u32 0, .int .i64 0, .int .i64 0, .int .i64 0, .int .i64 0, .int .i64 0, .int .i64 0] 59)).drew := l0
  have l1' : (Instr.lookup 102 (.map (some bm)) (.agg (encT t)) true).run Try.prog (((w.alloc (.cells (encT t) 57)).alloc (.cells #[.int .u32 0, .int .u32 0, .int .i64 0, .int .i64 0, .int .i64 0, .int .i64 0, .int .i64 0, .int .i64 0] 59)).alloc (.cells #[.int .u32 0, .int .u32 0, .int .i64 0, .int .i64 0, .int .i64 0, .int .i64 0, .int .i64 0, .int .i64 0] 59)).drew = .ok (.tuple #[.agg #[.int .u32 f1, .int .u32 f2, .int .i64 f3, .int .i64 f4, .int .i64 f5, .int .i64 f6, .int .i64 f7, .int .i64 f8], .bool q]) (((w.alloc (.cells (encT t) 57)).alloc (.cells #[.int .u32 0, .int .u32 0, .int .i64 0, .int .i64 0, .int .i64 0, .int .i64 0, .int .i64 0, .int .i64 0] 59)).alloc (.cells #[.int .u32 0, .int .u32 0, .int .i64 0, .int .i64 0, .int .i64 0, .int .i64 0, .int .i64 0, .int .i64 0] 59)).drew := l1
  clear l0 l1
  go_wp2_with fail
  go_region_held3 (fun w' => w'.cell? ⟨bt, 2, none⟩ = some (.map (some bm)) ∧ w'.cell? ⟨w.heap.size, 0, none⟩ = some (.int .u32 t.src) ∧ w'.cell? ⟨w.heap.size, 1, none⟩ = some (.int .u32 t.dst) ∧ w'.cell? ⟨w.heap.size, 2, none⟩ = some (.int .i64 t.proto) ∧ w'.cell? ⟨w.heap.size, 3, none⟩ = some (.int .i64 t.sport) ∧ w'.cell? ⟨w.heap.size, 4, none⟩ = some (.int .i64 t.dport)) (go_keep) (fail)
  all_goals
    go_wp2_with fail
    exact bodyPost_ret (v := .tuple #[.agg #[.int .u32 f1, .int .u32 f2, .int .i64 f3, .int .i64 f4, .int .i64 f5, .int .i64 f6, .int .i64 f7, .int .i64 f8], .bool q]) (by simp [results, Try.results37, go_sem]) rfl (HG.out _ _ _)

/-! ### New -/
def clampM (n : Int) : Int := max 0 (min n 256)
def clampI (n : Int) : Int := max 1 (min n 1099511627776)
theorem clampM_ok (n : Int) : OkF (clampM n) [] := ⟨by simp, by simp, by simp, by unfold clampM; simp; omega, by unfold clampM; omega⟩
set_option maxHeartbeats 4000000 in
theorem o_fnew {F0 : List Nat} {w0 w : World} {R : List Asrt} (h : In F0 w0 w R) (most idle : Int) :
    Calls Try.prog 28 #[.int .i64 most, .int .i64 idle] w fun e w' => ∃ bt, e = .returned (.pointer (some ⟨bt, 0, none⟩)) ∧ In F0 w0 w' (FA bt (clampM most) (clampI idle) [] :: R) := by
  have h0 := tab_make (tab_make h Try.prog 57 vT vF) Try.prog 9 vK vT
  rw [World.size_alloc] at h0
  have H0 := Lib.hid (o_new h0)
  have hmm := @run_makeMap Try.prog
  have HG : Hid (∀ (wz : World) (bq : Nat) (m i : Int), m = clampM most → i = clampI idle → In F0 w0 wz (QA bq [] :: KM (w.heap.size + 1) [] :: FM w.heap.size [] :: R) → In F0 w0 (wz.alloc (.cells #[.int .i64 m, .int .i64 i, .map (some w.heap.size), .map (some (w.heap.size + 1)), .pointer (some ⟨bq, 0, none⟩)] 105)) (FA wz.heap.size (clampM most) (clampI idle) [] :: R)) :=
    Lib.hid fun wz bq m i hm hi hz => by
      subst hm; subst hi
      have a1 := hz.cells #[.int .i64 (clampM most), .int .i64 (clampI idle), .map (some w.heap.size), .map (some (w.heap.size + 1)), .pointer (some ⟨bq, 0, none⟩)] 105
      have a2 := a1.perm (R' := Cells wz.heap.size #[.int .i64 (clampM most), .int .i64 (clampI idle), .map (some w.heap.size), .map (some (w.heap.size + 1)), .pointer (some ⟨bq, 0, none⟩)] 105 :: FM w.heap.size [] :: KM (w.heap.size + 1) [] :: QA bq [] :: R) (by
        refine List.Perm.cons _ ?_
        exact ((List.Perm.swap _ _ _).trans ((List.Perm.swap _ _ _).cons _)).trans (List.Perm.swap _ _ _))
      exact (In.join (A1 := [_, _, _, _]) (R := R) a2).imp (A' := FA wz.heap.size (clampM most) (clampI idle) []) 0 rfl (FA.framed _ _ _ _) (fun F hF => ⟨_, _, bq, clampM_ok most, hF⟩)
  clear h h0
  go_enter Try.func28, Try.ntmps28
  go_wp2_with fail
  all_goals
    refine H0.out.mono ?_
    rintro e w1 ⟨bq, rfl, ho⟩
    have HO := Lib.hid ho
    clear ho
    go_wp2_with fail
    go_ret
    exact ⟨_, rfl, HG.out _ _ _ _ (by unfold clampM; omega) (by unfold clampI; omega) HO.out⟩
end Go.Proofs.Ytcakgponofbhkaa
