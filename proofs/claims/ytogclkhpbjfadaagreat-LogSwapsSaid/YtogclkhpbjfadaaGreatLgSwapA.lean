/- A log takes a manifest: the row of segments that it had stays. -/
import Derived.Test.YtogclkhpbjfadaaGreatLgRows
namespace Go.Proofs.YtogclkhpbjfadaaGreat
open Go.RowKit
set_option linter.unusedVariables false
set_option maxRecDepth 100000
section
variable {F0 : List Nat} {w0 w : World} {R : List Asrt} {pn : Value} {bd lb : Nat} {d : DiskD} {l : LogD}
def AdoptPostP (pn : Value) (lb bd : Nat) (m : ManD) (A : Option Addr) (c : Nat) (s : DL) (F0 : List Nat) (w0 : World) (R : List Asrt) (e : Ending) (w' : World) : Prop :=
  e = .returned (.tuple #[.bool (adoptL m s).2.1, .int .i64 (adoptL m s).2.2]) ∧ ((adoptL m s).2.1 = true → In F0 w0 w' (LgA lb bd (adoptL m s).1.2 :: DkA bd (adoptL m s).1.1 :: RowA 3 1 pn s.2.m.segs.length (segV s.2.m.segs) :: R)) ∧
    ((adoptL m s).2.1 = false → In F0 w0 w' (LgP pn lb bd s.2 :: DkA bd (adoptL m s).1.1 :: SegR A c m.segs :: R))
set_option maxHeartbeats 16000000 in
theorem o_adoptP (m : ManD) {A : Option Addr} {c : Nat} (h : In F0 w0 w (LgP pn lb bd l :: DkA bd d :: SegR A c m.segs :: R)) (ho : d.ops ≤ 99999990) (hn : m.segs.length ≤ 1000000000) :
    Calls Tryz.prog 95 #[dptr lb, manAgg m A c] w (AdoptPostP pn lb bd m A c (d, l) F0 w0 R) := by
  have h1 := h.lgpOpen
  have h2 := h1.cells #[.int .i64 m.ver, .int .i64 m.next, .slice A m.segs.length c] 111
  have HW : Hid (∀ w', In F0 w0 w' (Cells w.heap.size #[.int .i64 m.ver, .int .i64 m.next, .slice A m.segs.length c] 111 :: RowA 3 1 pn l.m.segs.length (segV l.m.segs) :: Cells lb (lgC bd l pn) 120 :: DkA bd (commitD m d).1 :: SegR A c m.segs :: R) →
      (w'.cell? ⟨lb, 0, none⟩ = some (dptr bd) ∧ w'.cell? ⟨w.heap.size, 0, none⟩ = some (.int .i64 m.ver) ∧ w'.cell? ⟨w.heap.size, 1, none⟩ = some (.int .i64 m.next) ∧ w'.cell? ⟨w.heap.size, 2, none⟩ = some (.slice A m.segs.length c)) ∧
      (w'.frozen? ⟨lb, 2, none⟩ = false ∧ w'.frozen? ⟨lb, 3, none⟩ = false ∧ w'.frozen? ⟨lb, 4, none⟩ = false ∧ w'.frozen? ⟨lb, 5, none⟩ = false ∧
        ∃ x2 x3 x4 x5, w'.cell? ⟨lb, 2, none⟩ = some x2 ∧ w'.cell? ⟨lb, 3, none⟩ = some x3 ∧ w'.cell? ⟨lb, 4, none⟩ = some x4 ∧ w'.cell? ⟨lb, 5, none⟩ = some x5)) := Lib.hid fun w' h' =>
    ⟨⟨cell_of (h'.block 2 rfl) rfl, cell_of (h'.block 0 rfl) rfl, cell_of (h'.block 0 rfl) rfl, cell_of (h'.block 0 rfl) rfl⟩, free_of (h'.block 2 rfl), free_of (h'.block 2 rfl), free_of (h'.block 2 rfl), free_of (h'.block 2 rfl), _, _, _, _, cell_of (h'.block 2 rfl) rfl, cell_of (h'.block 2 rfl) rfl, cell_of (h'.block 2 rfl) rfl, cell_of (h'.block 2 rfl) rfl⟩
  have HS0 : Hid ((w.alloc (.cells #[.int .i64 m.ver, .int .i64 m.next, .slice A m.segs.length c] 111)).cell? ⟨lb, 0, none⟩ = some (dptr bd) ∧ (w.alloc (.cells #[.int .i64 m.ver, .int .i64 m.next, .slice A m.segs.length c] 111)).cell? ⟨w.heap.size, 0, none⟩ = some (.int .i64 m.ver) ∧ (w.alloc (.cells #[.int .i64 m.ver, .int .i64 m.next, .slice A m.segs.length c] 111)).cell? ⟨w.heap.size, 1, none⟩ = some (.int .i64 m.next) ∧ (w.alloc (.cells #[.int .i64 m.ver, .int .i64 m.next, .slice A m.segs.length c] 111)).cell? ⟨w.heap.size, 2, none⟩ = some (.slice A m.segs.length c)) := Lib.hid
    ⟨cell_of (h2.block 2 rfl) rfl, cell_of (h2.block 0 rfl) rfl, cell_of (h2.block 0 rfl) rfl, cell_of (h2.block 0 rfl) rfl⟩
  have C := Lib.hid (fun n => o_commit (h2.drewN n) 3 rfl ho m (A := A) (c := c) (fun w' h' => by obtain ⟨F', r'⟩ := h'.get 4 rfl; exact r'.all) hn)
  have HQ : Hid (adoptL m (d, l) = (((commitD m d).1, if (commitD m d).2.1 then { l with m := m, loose := decide ((commitD m d).2.2 ≠ 0) } else l), (commitD m d).2.1, (commitD m d).2.2)) := Lib.hid rfl
  have HT : Hid (∀ w', In F0 w0 w' (Cells w.heap.size #[.int .i64 m.ver, .int .i64 m.next, .slice A m.segs.length c] 111 :: RowA 3 1 pn l.m.segs.length (segV l.m.segs) :: Cells lb (lgC bd l pn) 120 :: DkA bd (commitD m d).1 :: SegR A c m.segs :: R) →
      In F0 w0 ((((w'.setCell ⟨lb, 2, none⟩ (.int .i64 m.ver)).setCell ⟨lb, 3, none⟩ (.int .i64 m.next)).setCell ⟨lb, 4, none⟩ (.slice A m.segs.length c)).setCell ⟨lb, 5, none⟩ (.bool ((commitD m d).2.2 != 0)))
        (LgA lb bd { l with m := m, loose := decide ((commitD m d).2.2 ≠ 0) } :: DkA bd (commitD m d).1 :: RowA 3 1 pn l.m.segs.length (segV l.m.segs) :: R)) := Lib.hid fun w' h' => by
    have e : ((commitD m d).2.2 != 0) = decide ((commitD m d).2.2 ≠ 0) := by simp [bne, Bool.beq_eq_decide_eq]
    have g := (((h'.put (b := lb) 2 rfl 2 (.int .i64 m.ver)).put (b := lb) 2 rfl 3 (.int .i64 m.next)).put (b := lb) 2 rfl 4 (.slice A m.segs.length c)).put (b := lb) 2 rfl 5 (.bool ((commitD m d).2.2 != 0))
    have g2 := g.sel2 (R1 := [_, _, _, _, _]) [4, 2, 3, 1] (by decide) rfl
    refine In.lgClose (l' := { l with m := m, loose := decide ((commitD m d).2.2 ≠ 0) }) (v := .slice A m.segs.length c) ?_
    unfold lgC
    rw [← e]
    exact g2
  have HN : Hid (∀ w', In F0 w0 w' (Cells w.heap.size #[.int .i64 m.ver, .int .i64 m.next, .slice A m.segs.length c] 111 :: RowA 3 1 pn l.m.segs.length (segV l.m.segs) :: Cells lb (lgC bd l pn) 120 :: DkA bd (commitD m d).1 :: SegR A c m.segs :: R) →
      In F0 w0 w' (LgP pn lb bd l :: DkA bd (commitD m d).1 :: SegR A c m.segs :: R)) := Lib.hid fun w' h' => h'.drop.lgpClose
  unfold manAgg at C ⊢
  clear h h1 h2 hn ho
  cases hq : (commitD m d).2.1 with
  | true =>
    have HF : Hid (∀ w', In F0 w0 w' (LgA lb bd { l with m := m, loose := decide ((commitD m d).2.2 ≠ 0) } :: DkA bd (commitD m d).1 :: RowA 3 1 pn l.m.segs.length (segV l.m.segs) :: R) → AdoptPostP pn lb bd m A c (d, l) F0 w0 R (.returned (.tuple #[.bool true, .int .i64 (commitD m d).2.2])) w') := Lib.hid fun w' h' => by
      unfold AdoptPostP
      rw [HQ.out, hq]
      exact ⟨rfl, fun _ => h', fun e => by cases e⟩
    rw [hq] at C
    clear HQ HN hq
    go_enter Tryz.func95, Tryz.ntmps95
    go_wp2_with fail
    go_region_held3 (fun w' => w'.cell? ⟨lb, 0, none⟩ = some (dptr bd) ∧ w'.cell? ⟨w.heap.size, 0, none⟩ = some (.int .i64 m.ver) ∧ w'.cell? ⟨w.heap.size, 1, none⟩ = some (.int .i64 m.next) ∧ w'.cell? ⟨w.heap.size, 2, none⟩ = some (.slice A m.segs.length c)) (first | exact HS0.out | exact hc1) (first | (go_at_call 67; refine (C.out 1).mono ?_; rintro e w1 ⟨rfl, g1⟩; obtain ⟨hc1, f2, f3, f4, f5, x2, x3, x4, x5, d2, d3, d4, d5⟩ := HW.out w1 g1; have G := Lib.hid (HF.out _ (HT.out w1 g1)); clear g1))
    go_wp2_with fail
    go_ret2
    exact G.out
  | false =>
    have HF : Hid (∀ w', In F0 w0 w' (LgP pn lb bd l :: DkA bd (commitD m d).1 :: SegR A c m.segs :: R) → AdoptPostP pn lb bd m A c (d, l) F0 w0 R (.returned (.tuple #[.bool false, .int .i64 (commitD m d).2.2])) w') := Lib.hid fun w' h' => by
      unfold AdoptPostP
      rw [HQ.out, hq]
      exact ⟨rfl, fun e => (by cases e), fun _ => h'⟩
    rw [hq] at C
    clear HQ HT hq
    go_enter Tryz.func95, Tryz.ntmps95
    go_wp2_with fail
    go_region_held3 (fun w' => w'.cell? ⟨lb, 0, none⟩ = some (dptr bd) ∧ w'.cell? ⟨w.heap.size, 0, none⟩ = some (.int .i64 m.ver) ∧ w'.cell? ⟨w.heap.size, 1, none⟩ = some (.int .i64 m.next) ∧ w'.cell? ⟨w.heap.size, 2, none⟩ = some (.slice A m.segs.length c)) (first | exact HS0.out | exact hc1) (first | (go_at_call 67; refine (C.out 1).mono ?_; rintro e w1 ⟨rfl, g1⟩; obtain ⟨hc1, -⟩ := HW.out w1 g1; have G := Lib.hid (HF.out _ (HN.out w1 g1)); clear g1))
    go_wp2_with fail
    go_ret2
    exact G.out
end
end Go.Proofs.YtogclkhpbjfadaaGreat
