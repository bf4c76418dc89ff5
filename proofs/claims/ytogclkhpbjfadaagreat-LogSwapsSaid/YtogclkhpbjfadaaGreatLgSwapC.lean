/- A swap: what its calls compute, one behind the other. -/
import Derived.Test.YtogclkhpbjfadaaGreatLgSwapB
namespace Go.Proofs.YtogclkhpbjfadaaGreat
open Go.RowKit
set_option linter.unusedVariables false
set_option maxRecDepth 100000
section
variable {F0 : List Nat} {w0 w : World} {R : List Asrt} {pn : Value} {bd lb sb : Nat} {d : DiskD} {l : LogD}
set_option maxHeartbeats 8000000 in
theorem swap_all {ver : Nat} {bs : List (List UInt8)} {vs : List Value} {a : Option Addr} {c lx vx bx cb fb : Nat} (hvs : vs.length = bs.length) (hl : LgOk l) (ho : d.ops ≤ 99900000) (hb5 : ∀ b ∈ bs, b.length ≤ 5000) (hn : bs.length ≤ 1000)
    (fs : List (FuncId × Array Value)) (hfs : fs = [(92, #[.pointer (some ⟨lx, 0, none⟩), .pointer (some ⟨bx, 0, none⟩), .pointer (some ⟨sb, 0, none⟩)]), (94, #[.pointer (some ⟨lx, 0, none⟩), .pointer (some ⟨vx, 0, none⟩), .pointer (some ⟨sb, 0, none⟩), .pointer (some ⟨cb, 0, none⟩)])])
    (h : In F0 w0 w (Cells fb (fs.map fnV).toArray 48 :: SwX pn lb bd sb cb l (Cells lx #[dptr lb] 28 :: Cells vx #[.int .i64 ver] 3 :: Cells bx #[.slice a bs.length c] 22 :: RowA 23 1 (.slice a bs.length c) bs.length vs :: (bodB vs bs ++ R)) ⟨d, [], false, l⟩)) :
    Calls Tryz.prog 60 #[.slice (some ⟨fb, 0, none⟩) 2 2] w fun e w' => e = .returned (.int .i64 (swapT ver bs l d).2) ∧ In F0 w0 w' (SwX pn lb bd sb cb l (Cells lx #[dptr lb] 28 :: Cells vx #[.int .i64 ver] 3 :: Cells bx #[.slice a bs.length c] 22 :: RowA 23 1 (.slice a bs.length c) bs.length vs :: (bodB vs bs ++ R)) (swapT ver bs l d).1) := by
  have hnx : l.m.next ≤ 1000000 := (mayM_iff.1 hl.2.2).1.2.2.2.2.2
  have hent1 : ∀ args w', (callFunc 92 args).run Tryz.prog w' = .ok (.enter 92 args) w' := enters_of Tryz.func92 (by kernel_rfl) rfl
  have hent2 : ∀ args w', (callFunc 94 args).run Tryz.prog w' = .ok (.enter 94 args) w' := enters_of Tryz.func94 (by kernel_rfl) rfl
  have hlen : fs.length = 2 := by rw [hfs]; rfl
  obtain ⟨q1, q2, q3⟩ := layD_ok (l := l) (d := d) hb5
  have key := all_fn (F0 := F0) (w0 := w0) (w := w) (fun k (t : SwT) => (k = 0 → t = ⟨d, [], false, l⟩) ∧ (k = 1 → t = (swLay bs l ⟨d, [], false, l⟩).1)) (SwX pn lb bd sb cb l (Cells lx #[dptr lb] 28 :: Cells vx #[.int .i64 ver] 3 :: Cells bx #[.slice a bs.length c] 22 :: RowA 23 1 (.slice a bs.length c) bs.length vs :: (bodB vs bs ++ R))) fb 48 [swLay bs l, swSet ver l] fs (by rw [hlen]; rfl) (by omega) ⟨d, [], false, l⟩ 2
    ⟨fun _ => rfl, fun h => by omega⟩ (fun k f hf t hI => by
      refine ⟨fun h => by omega, fun h => ?_⟩
      obtain rfl : k = 0 := by omega
      cases hf
      obtain rfl := hI.1 rfl
      rfl)
    (fun f hf => by
      rw [hfs] at hf
      simp only [List.mem_cons, List.not_mem_nil, or_false] at hf
      rcases hf with rfl | rfl
      · exact hent1
      · exact hent2)
    (fun k f g hf hgg w' t hI h' => by
      rw [hfs] at hf
      rcases k with _ | _ | k
      · obtain rfl := hI.1 rfl
        cases hf; cases hgg
        have h2 : In F0 w0 w' (Cells fb (fs.map fnV).toArray 48 :: LgP pn lb bd l :: DkA bd d :: SegA sb [] :: Cells cb #[.bool false] 4 :: Cells lx #[dptr lb] 28 :: Cells vx #[.int .i64 ver] 3 :: Cells bx #[.slice a bs.length c] 22 :: RowA 23 1 (.slice a bs.length c) bs.length vs :: (bodB vs bs ++ R)) := h'
        have h3 := In.midL (X := [_, _, _, _, _, _]) (A := [_, _, _]) (h2.sel2 (R1 := [_, _, _, _, _, _, _, _, _]) [5, 7, 1, 2, 3, 8, 0, 4, 6] (by decide) rfl)
        refine (o_swap1 (R := Cells fb (fs.map fnV).toArray 48 :: Cells cb #[.bool false] 4 :: Cells vx #[.int .i64 ver] 3 :: R) hvs h3 hl ho hb5 hn).mono fun e w'' ⟨he, hw⟩ => ⟨he, ?_⟩
        have h4 := (In.midL (X := [_, _, _, _, _, _]) (B := [_, _, _]) hw).sel2 (R1 := [_, _, _, _, _, _, _, _, _]) [6, 2, 3, 4, 7, 0, 8, 1, 5] (by decide) rfl
        exact h4
      · obtain rfl := hI.2 rfl
        cases hf; cases hgg
        have h2 : In F0 w0 w' (Cells fb (fs.map fnV).toArray 48 :: LgP pn lb bd l :: DkA bd (layD l bs d).1.1 :: SegA sb (layD l bs d).1.2.1 :: Cells cb #[.bool false] 4 :: (Cells lx #[dptr lb] 28 :: Cells vx #[.int .i64 ver] 3 :: Cells bx #[.slice a bs.length c] 22 :: RowA 23 1 (.slice a bs.length c) bs.length vs :: (bodB vs bs ++ R))) := h'
        have h3 : In F0 w0 w' (SwX pn lb bd sb cb l (Cells fb (fs.map fnV).toArray 48 :: Cells lx #[dptr lb] 28 :: Cells vx #[.int .i64 ver] 3 :: Cells bx #[.slice a bs.length c] 22 :: RowA 23 1 (.slice a bs.length c) bs.length vs :: (bodB vs bs ++ R)) ⟨(layD l bs d).1.1, (layD l bs d).1.2.1, false, l⟩) := h2.sel2 (R1 := [_, _, _, _, _]) [1, 2, 3, 4, 0] (by decide) rfl
        refine (o_swap2 (ver := ver) (lx := lx) (vx := vx) 1 2 rfl rfl h3 (by omega) q2 hnx).mono fun e w'' ⟨he, hw⟩ => ⟨he, ?_⟩
        have he2 : (swSet ver l ⟨(layD l bs d).1.1, (layD l bs d).1.2.1, false, l⟩) = swSet ver l (swLay bs l ⟨d, [], false, l⟩).1 := rfl
        rw [he2] at hw
        generalize (swSet ver l (swLay bs l ⟨d, [], false, l⟩).1).1 = t2 at *
        unfold SwX at hw ⊢
        by_cases hon : t2.on = true
        · rw [if_pos hon] at hw ⊢
          exact hw.sel2 (R1 := [_, _, _, _, _]) [4, 0, 1, 2, 3] (by decide) rfl
        · rw [if_neg hon] at hw ⊢
          exact hw.sel2 (R1 := [_, _, _, _, _]) [4, 0, 1, 2, 3] (by decide) rfl
      · simp at hf) h
  rw [hlen] at key
  exact key.mono fun e w' ⟨he, hw⟩ => ⟨he, hw.drop⟩
end
end Go.Proofs.YtogclkhpbjfadaaGreat
