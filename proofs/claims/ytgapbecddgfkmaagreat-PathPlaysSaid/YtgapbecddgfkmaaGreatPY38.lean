/- Rows.PathPlaysSaid -/
import Derived.Test.YtgapbecddgfkmaaGreatPY36
namespace Go.Proofs.YtgapbecddgfkmaaGreat
open Go.RowKit
set_option linter.unusedVariables false
set_option maxHeartbeats 64000000
set_option maxRecDepth 100000
attribute [-go_sem] run_eql_struct
def getRF (L : List Fl) (t : Tup) : Fl × Bool := match atF L t with
  | none => (zF, false)
  | some x => (x, true)
theorem getRF_none {L : List Fl} {t : Tup} (h : atF L t = none) : getRF L t = (zF, false) := by unfold getRF; rw [h]
theorem getRF_some {L : List Fl} {t : Tup} {x : Fl} (h : atF L t = some x) : getRF L t = (x, true) := by unfold getRF; rw [h]
theorem In.put8 {F0 : List Nat} {w0 w : World} {R : List Asrt} {b : Nat} {C : Array Value} {T : TypeId} (h : In F0 w0 w R) (i : Nat) (hi : R[i]? = some (Cells b C T)) (v0 v1 v2 v3 v4 v5 v6 v7 : Value) :
    ∃ C', In F0 w0 ((((((((w.setCell ⟨b, 0, none⟩ v0).setCell ⟨b, 1, none⟩ v1).setCell ⟨b, 2, none⟩ v2).setCell ⟨b, 3, none⟩ v3).setCell ⟨b, 4, none⟩ v4).setCell ⟨b, 5, none⟩ v5).setCell ⟨b, 6, none⟩ v6).setCell ⟨b, 7, none⟩ v7) (R.set i (Cells b C' T)) := by
  have hlt : i < R.length := (List.getElem?_eq_some_iff.1 hi).1
  have g : ∀ (C' : Array Value), (R.set i (Cells b C' T))[i]? = some (Cells b C' T) := fun C' => List.getElem?_set_self hlt
  have s0 := h.put i hi 0 v0
  have s1 := s0.put i (g _) 1 v1
  rw [List.set_set] at s1
  have s2 := s1.put i (g _) 2 v2
  rw [List.set_set] at s2
  have s3 := s2.put i (g _) 3 v3
  rw [List.set_set] at s3
  have s4 := s3.put i (g _) 4 v4
  rw [List.set_set] at s4
  have s5 := s4.put i (g _) 5 v5
  rw [List.set_set] at s5
  have s6 := s5.put i (g _) 6 v6
  rw [List.set_set] at s6
  have s7 := s6.put i (g _) 7 v7
  rw [List.set_set] at s7
  exact ⟨_, s7⟩
theorem rf_get {w : World} {bt : Nat} {most wait : Int} {L : List Fl} {F : List Nat} (h : RFA bt most wait L w F) (hl : L.length ≤ 1000000) (t : Tup) :
    Calls Tryz.prog 52 #[.pointer (some ⟨bt, 0, none⟩), .agg (encT t)] w (GV (.tuple #[.agg (encF (getRF L t).1), .bool (getRF L t).2]) (RFA bt most wait L) w F) := by
  have h0 := (((in_one (RFA.framed bt most wait L) h).cells (encT t) 24).cells (encF zF) 49).perm (R' := [RFA bt most wait L, Cells (w.alloc (.cells (encT t) 24)).heap.size (encF zF) 49, Cells w.heap.size (encT t) 24]) (((List.Perm.swap _ _ _).cons _).trans (List.Perm.swap _ _ _))
  rw [World.size_alloc] at h0
  have HAT := Lib.hid (o_rfat h0 0 rfl hl t)
  rcases atF_ix (L := L) (t := t) with ⟨e, e2⟩ | ⟨j, x, e, hj, -, e2, -⟩
  · rw [e] at HAT
    rw [getRF_none e2]
    clear e e2 h0 h hl
    go_enter Tryz.func52, Tryz.ntmps52
    go_wp2_with fail
    refine HAT.out.mono ?_
    rintro e w1 ⟨rfl, ho⟩
    have HO := Lib.hid ho
    have hB := ho.block 1 rfl
    generalize w.heap.size + 1 = fb at *
    have HE := Lib.hid (ho.put8 1 rfl (.int .u32 0) (.int .u32 0) (.int .i64 0) (.int .i64 0) (.int .i64 0) (.int .i64 0) (.int .i64 0) (.int .i64 0))
    have t0 := cell_of (o := 0) hB rfl
    have t1 := cell_of (o := 1) hB rfl
    have t2 := cell_of (o := 2) hB rfl
    have t3 := cell_of (o := 3) hB rfl
    have t4 := cell_of (o := 4) hB rfl
    have t5 := cell_of (o := 5) hB rfl
    have t6 := cell_of (o := 6) hB rfl
    have t7 := cell_of (o := 7) hB rfl
    have g0 := free_of (o := 0) hB
    have g1 := free_of (o := 1) hB
    have g2 := free_of (o := 2) hB
    have g3 := free_of (o := 3) hB
    have g4 := free_of (o := 4) hB
    have g5 := free_of (o := 5) hB
    have g6 := free_of (o := 6) hB
    have g7 := free_of (o := 7) hB
    clear ho HAT hB HO
    go_wp2_with fail
    obtain ⟨C', hE⟩ := HE.out
    exact bodyPost_ret (v := .tuple #[.agg (encF zF), .bool false]) (by simp [results, Tryz.results52, go_sem, zF, zT, encF, *]) rfl (rf_head hE)
  · rw [e] at HAT
    rw [getRF_some e2]
    have hlt : j < L.length := (List.getElem?_eq_some_iff.1 hj).1
    have i1 : (j : Int) < (L.length : Int) := by omega
    have hd2 : decide (0 ≤ (j : Int)) = true := by simp
    clear e e2 h0 h
    go_enter Tryz.func52, Tryz.ntmps52
    go_wp2_with fail
    refine HAT.out.mono ?_
    rintro e w1 ⟨rfl, ho⟩
    obtain ⟨v, ho⟩ := ho.openR
    obtain ⟨Fv, hv⟩ := ho.get 1 rfl
    obtain ⟨av, cv, rfl, l1, l2, -⟩ := hv.shape
    have b0 : w1.cell? ⟨bt, 0, none⟩ = some (.slice av L.length cv) := cell_of (ho.block 0 rfl) rfl
    obtain ⟨g, rfl, hc⟩ := flow_at_row ho 1 rfl (by omega)
    obtain ⟨x0, x1, x2, x3, x4, x5, x6, x7⟩ := hc j x hj
    have hB := ho.block 2 rfl
    generalize w.heap.size + 1 = fb at *
    have HE := Lib.hid (ho.put8 2 rfl (.int .u32 x.t.src) (.int .u32 x.t.dst) (.int .i64 x.t.proto) (.int .i64 x.t.sport) (.int .i64 x.t.dport) (.int .i64 x.bk) (.int .i64 x.gen) (.int .i64 x.seen))
    have t0 := cell_of (o := 0) hB rfl
    have t1 := cell_of (o := 1) hB rfl
    have t2 := cell_of (o := 2) hB rfl
    have t3 := cell_of (o := 3) hB rfl
    have t4 := cell_of (o := 4) hB rfl
    have t5 := cell_of (o := 5) hB rfl
    have t6 := cell_of (o := 6) hB rfl
    have t7 := cell_of (o := 7) hB rfl
    have g0 := free_of (o := 0) hB
    have g1 := free_of (o := 1) hB
    have g2 := free_of (o := 2) hB
    have g3 := free_of (o := 3) hB
    have g4 := free_of (o := 4) hB
    have g5 := free_of (o := 5) hB
    have g6 := free_of (o := 6) hB
    have g7 := free_of (o := 7) hB
    clear ho HAT hB hv hc hj
    go_wp2_with fail
    obtain ⟨C', hE⟩ := HE.out
    exact bodyPost_ret (v := .tuple #[.agg (encF x), .bool true]) (by simp [results, Tryz.results52, go_sem, encF, encT, *]) rfl (rf_same (R := [_, _]) hE)
section
variable {F0 : List Nat} {w0 w : World} {R : List Asrt} {bt : Nat} {most wait : Int} {L : List Fl}
theorem o_rfget (h : In F0 w0 w R) (i : Nat) (hA : R[i]? = some (RFA bt most wait L)) (hl : L.length ≤ 1000000) (t : Tup) :
    Calls Tryz.prog 52 #[.pointer (some ⟨bt, 0, none⟩), .agg (encT t)] w fun e w' => e = .returned (.tuple #[.agg (encF (getRF L t).1), .bool (getRF L t).2]) ∧ In F0 w0 w' R := by
  have c := own_val (A' := RFA bt most wait L) h i hA (RFA.framed _ _ _ _) fun F hF => rf_get hF hl t
  rwa [set_same hA] at c
end
end Go.Proofs.YtgapbecddgfkmaaGreat
