/- A swap's closures: rows are laid, the manifest is written. -/
import Derived.Test.YtogclkhpbjfadaaGreatLgSwapA
import Derived.Test.YtogclkhpbjfadaaGreatLgRowsR
import Derived.Test.YtogclkhpbjfadaaGreatHeldN
import Derived.StillTailTactics
namespace Go.Proofs.YtogclkhpbjfadaaGreat
open Go.RowKit
set_option linter.unusedVariables false
set_option maxRecDepth 100000

theorem thenD_cases {σ : Type} {P : σ → Prop} {r : σ × Int} {f : σ → σ × Int} (h : P r.1) (hf : r.2 = 0 → P (f r.1).1) : P (thenD r f).1 := by
  unfold thenD; split
  · rename_i e; exact hf e
  · exact h
theorem rows_RwI {l : LogD} {d0 : DiskD} : ∀ (bs : List (List UInt8)) (k : Nat) (s : SLN), RwI l d0 k s → (∀ b ∈ bs, b.length ≤ 5000) → ∃ k', k' ≤ k + bs.length ∧ RwI l d0 k' (rowsD l bs s).1
  | [], k, s, h, _ => ⟨k, Nat.le_refl _, h⟩
  | b :: bs, k, s, h, hb => by
    have h1 := h.row (b := b) (hb b (by simp))
    have e : rowsD l (b :: bs) s = thenD (rowD l b s) (rowsD l bs) := rfl
    rw [e]
    by_cases hz : (rowD l b s).2 = 0
    · rw [thenD_ok hz]
      obtain ⟨k', h2, h3⟩ := rows_RwI bs (k + 1) _ h1 (fun x hx => hb x (by simp [hx]))
      exact ⟨k', by simp only [List.length_cons]; omega, h3⟩
    · rw [thenD_err hz]
      exact ⟨k + 1, by simp only [List.length_cons]; omega, h1⟩
structure LayOk (l : LogD) (d0 : DiskD) (n : Nat) (s : SLN) : Prop where
  ops : s.1.ops ≤ d0.ops + 3 * n + 3
  len : s.2.1.length ≤ 64
  lt : ∀ x ∈ s.2.1, x < l.m.next + 64
theorem layD_ok {l : LogD} {d : DiskD} {bs : List (List UInt8)} (hb : ∀ b ∈ bs, b.length ≤ 5000) : LayOk l d bs.length (layD l bs d).1 := by
  obtain ⟨k, hk, h1, h2, h3, h4⟩ := rows_RwI (l := l) (d0 := d) bs 0 (d, [], 0) ⟨by simp, by simp, by simp, by simp⟩ hb
  unfold layD
  have hs : LayOk l d bs.length (rowsD l bs (d, [], 0)).1 := ⟨by omega, h2, h3⟩
  have h5 : ((thenD (rowsD l bs (d, [], 0)) (fun s => if s.2.1 = [] then nextD l.m.next [] s else (s, 0))).1.1.ops ≤ d.ops + 3 * bs.length + 2) ∧ (thenD (rowsD l bs (d, [], 0)) (fun s => if s.2.1 = [] then nextD l.m.next [] s else (s, 0))).1.2.1.length ≤ 64 ∧ ∀ x ∈ (thenD (rowsD l bs (d, [], 0)) (fun s => if s.2.1 = [] then nextD l.m.next [] s else (s, 0))).1.2.1, x < l.m.next + 64 := by
    refine thenD_cases (P := fun s : SLN => s.1.ops ≤ d.ops + 3 * bs.length + 2 ∧ s.2.1.length ≤ 64 ∧ ∀ x ∈ s.2.1, x < l.m.next + 64) ⟨by omega, h2, h3⟩ (fun _ => ?_)
    split
    · obtain ⟨n1, n2, n3, _, _⟩ := nextD_inv (nx := l.m.next) (b := []) h2 h3
      exact ⟨by omega, n2, n3⟩
    · exact ⟨by simp only; omega, h2, h3⟩
  refine thenD_cases (P := fun s : SLN => LayOk l d bs.length s) ⟨by omega, h5.2.1, h5.2.2⟩ (fun _ => ?_)
  have := dSync_ops (thenD (rowsD l bs (d, [], 0)) (fun s => if s.2.1 = [] then nextD l.m.next [] s else (s, 0))).1.1 (newest (thenD (rowsD l bs (d, [], 0)) (fun s => if s.2.1 = [] then nextD l.m.next [] s else (s, 0))).1.2.1)
  exact ⟨by simp only; omega, h5.2.1, h5.2.2⟩
/-- What a swap's calls leave. -/
structure SwT where
  d : DiskD
  segs : List Nat
  on : Bool
  l : LogD
def swLay (bs : List (List UInt8)) (l : LogD) (t : SwT) : SwT × Int := (⟨(layD l bs t.d).1.1, (layD l bs t.d).1.2.1, t.on, t.l⟩, (layD l bs t.d).2)
def swSet (ver : Nat) (l : LogD) (t : SwT) : SwT × Int := (⟨(adoptL (swapIn ver l t.segs) (t.d, l)).1.1, t.segs, (adoptL (swapIn ver l t.segs) (t.d, l)).2.1, (adoptL (swapIn ver l t.segs) (t.d, l)).1.2⟩, (adoptL (swapIn ver l t.segs) (t.d, l)).2.2)
def swapT (ver : Nat) (bs : List (List UInt8)) (l : LogD) (d : DiskD) : SwT × Int := foldD [swLay bs l, swSet ver l] ⟨d, [], false, l⟩
def swapEnd (l : LogD) (r : SwT × Int) : DL × Int :=
  if r.2 = 0 then ((removeD l.m.segs r.1.d, r.1.l), 0) else if r.1.on then ((r.1.d, r.1.l), r.2) else ((dropD r.1.segs r.1.d, r.1.l), r.2)
theorem commitD_on {m : ManD} {d : DiskD} (h : (commitD m d).2.2 = 0) : (commitD m d).2.1 = true := by
  unfold commitD at h ⊢
  split at h
  · simp at h
  split at h
  · rename_i h1 h2; exact absurd h h2
  · rename_i h1 h2; rw [if_neg h1, if_neg h2]
theorem swapT_eq (ver : Nat) (bs : List (List UInt8)) (l : LogD) (d : DiskD) : swapT ver bs l d = if (layD l bs d).2 ≠ 0 then (⟨(layD l bs d).1.1, (layD l bs d).1.2.1, false, l⟩, (layD l bs d).2) else swSet ver l ⟨(layD l bs d).1.1, (layD l bs d).1.2.1, false, l⟩ := by
  have e : swapT ver bs l d = thenD (thenD ((⟨d, [], false, l⟩ : SwT), (0 : Int)) (swLay bs l)) (swSet ver l) := rfl
  rw [e, thenD_ok (r := ((⟨d, [], false, l⟩ : SwT), (0 : Int))) rfl]
  by_cases h : (layD l bs d).2 = 0
  · rw [if_neg (by simp [h]), thenD_ok (r := swLay bs l ⟨d, [], false, l⟩) h]; rfl
  · rw [if_pos h, thenD_err (r := swLay bs l ⟨d, [], false, l⟩) h]; rfl
theorem swapL_end (ver : Nat) (bs : List (List UInt8)) (s : DL) (h : (settleL s).2 = 0) : swapL ver bs s = swapEnd (settleL s).1.2 (swapT ver bs (settleL s).1.2 (settleL s).1.1) := by
  unfold swapL
  simp only
  rw [if_neg (by simp [h])]
  by_cases h2 : (layD (settleL s).1.2 bs (settleL s).1.1).2 = 0
  · have e1 := swapT_eq ver bs (settleL s).1.2 (settleL s).1.1
    rw [if_neg (by simp [h2])] at e1
    rw [e1, if_neg (by simp [h2])]
    rfl
  · have e1 := swapT_eq ver bs (settleL s).1.2 (settleL s).1.1
    rw [if_pos h2] at e1
    rw [e1, if_pos h2]
    unfold swapEnd
    rw [if_neg h2]
    rfl
/-- One that went well counts. -/
theorem swapT_on {ver : Nat} {bs : List (List UInt8)} {l : LogD} {d : DiskD} (h : (swapT ver bs l d).2 = 0) : (swapT ver bs l d).1.on = true := by
  rw [swapT_eq] at h ⊢
  by_cases h2 : (layD l bs d).2 = 0
  · rw [if_neg (by simp [h2])] at h ⊢
    exact commitD_on h
  · rw [if_pos h2] at h; exact absurd h h2
theorem swapT_ops {ver : Nat} {bs : List (List UInt8)} {l : LogD} {d : DiskD} (hb : ∀ b ∈ bs, b.length ≤ 5000) : (swapT ver bs l d).1.d.ops ≤ d.ops + 3 * bs.length + 8 ∧ (swapT ver bs l d).1.segs.length ≤ 64 ∧ ∀ x ∈ (swapT ver bs l d).1.segs, x < l.m.next + 64 := by
  obtain ⟨h1, h2, h3⟩ := layD_ok (l := l) (d := d) hb
  rw [swapT_eq]
  split
  · exact ⟨by simp only; omega, h2, h3⟩
  · have := commitD_ops (swapIn ver l (layD l bs d).1.2.1) (layD l bs d).1.1
    exact ⟨by show (commitD (swapIn ver l (layD l bs d).1.2.1) (layD l bs d).1.1).1.ops ≤ _; omega, h2, h3⟩
theorem swapT_off {ver : Nat} {bs : List (List UInt8)} {l : LogD} {d : DiskD} (h : (swapT ver bs l d).1.on = false) : (swapT ver bs l d).1.l = l := by
  rw [swapT_eq] at h ⊢
  split at h
  · rename_i h2; rw [if_pos h2]
  · rename_i h2; rw [if_neg h2]
    show (if (commitD (swapIn ver l (layD l bs d).1.2.1) (layD l bs d).1.1).2.1 then _ else l) = l
    have h' : (commitD (swapIn ver l (layD l bs d).1.2.1) (layD l bs d).1.1).2.1 = false := h
    rw [h']; rfl
section
variable {F0 : List Nat} {w0 w : World} {R : List Asrt} {pn : Value} {bd lb sb : Nat} {d : DiskD} {l : LogD}
theorem In.midL {X A B : List Asrt} (h : In F0 w0 w (X ++ (A ++ (B ++ R)))) : In F0 w0 w (X ++ (B ++ (A ++ R))) := by
  refine h.perm (List.Perm.append_left X ?_)
  rw [← List.append_assoc, ← List.append_assoc]
  exact List.perm_append_comm.append_right R
set_option maxHeartbeats 8000000 in
theorem o_swap1 {bs : List (List UInt8)} {vs : List Value} {a : Option Addr} {c lx bx ty : Nat} (hvs : vs.length = bs.length) (h : In F0 w0 w (Cells lx #[dptr lb] 28 :: Cells bx #[.slice a bs.length c] ty :: LgP pn lb bd l :: DkA bd d :: SegA sb [] :: RowA 23 1 (.slice a bs.length c) bs.length vs :: (bodB vs bs ++ R))) (hl : LgOk l) (ho : d.ops ≤ 99900000) (hb5 : ∀ b ∈ bs, b.length ≤ 5000) (hn : bs.length ≤ 1000) :
    Calls Tryz.prog 92 #[.pointer (some ⟨lx, 0, none⟩), .pointer (some ⟨bx, 0, none⟩), .pointer (some ⟨sb, 0, none⟩)] w fun e w' => e = .returned (.int .i64 (layD l bs d).2) ∧ In F0 w0 w' (Cells lx #[dptr lb] 28 :: Cells bx #[.slice a bs.length c] ty :: LgP pn lb bd l :: DkA bd (layD l bs d).1.1 :: SegA sb (layD l bs d).1.2.1 :: RowA 23 1 (.slice a bs.length c) bs.length vs :: (bodB vs bs ++ R)) := by
  have y0 : w.cell? ⟨lx, 0, none⟩ = some (dptr lb) := cell_of (h.block 0 rfl) rfl
  have y1 : w.cell? ⟨bx, 0, none⟩ = some (.slice a bs.length c) := cell_of (h.block 1 rfl) rfl
  have h2 : In F0 w0 w (LgP pn lb bd l :: DkA bd d :: SegA sb [] :: RowA 23 1 (.slice a bs.length c) bs.length vs :: (bodB vs bs ++ (Cells lx #[dptr lb] 28 :: Cells bx #[.slice a bs.length c] ty :: R))) :=
    In.midL (X := [_, _, _, _]) (A := [_, _]) (h.sel2 (R1 := [_, _, _, _, _, _]) [2, 3, 4, 5, 0, 1] (by decide) rfl)
  have K := Lib.hid (o_rows hvs h2 hl ho hb5 hn)
  have HB : Hid (∀ w', In F0 w0 w' (LgP pn lb bd l :: DkA bd (layD l bs d).1.1 :: SegA sb (layD l bs d).1.2.1 :: RowA 23 1 (.slice a bs.length c) bs.length vs :: (bodB vs bs ++ (Cells lx #[dptr lb] 28 :: Cells bx #[.slice a bs.length c] ty :: R))) → In F0 w0 w' (Cells lx #[dptr lb] 28 :: Cells bx #[.slice a bs.length c] ty :: LgP pn lb bd l :: DkA bd (layD l bs d).1.1 :: SegA sb (layD l bs d).1.2.1 :: RowA 23 1 (.slice a bs.length c) bs.length vs :: (bodB vs bs ++ R))) := Lib.hid fun w' h' =>
    (In.midL (X := [_, _, _, _]) (B := [_, _]) h').sel2 (R1 := [_, _, _, _, _, _]) [4, 5, 0, 1, 2, 3] (by decide) rfl
  clear h h2 hl ho hb5 hn hvs
  go_enter Tryz.func92, Tryz.ntmps92
  go_wp2_with fail
  refine K.out.mono ?_
  rintro e w1 ⟨rfl, g1⟩
  have G := Lib.hid (HB.out w1 g1)
  clear g1 K HB
  go_wp2_with fail
  go_ret
  exact ⟨rfl, G.out⟩
/-- The second closure's lists. -/
def SwX (pn : Value) (lb bd sb cb : Nat) (l : LogD) (Q : List Asrt) (t : SwT) : List Asrt :=
  if t.on then LgA lb bd t.l :: DkA bd t.d :: RowA 3 1 pn l.m.segs.length (segV l.m.segs) :: Cells cb #[.bool true] 4 :: Q
  else LgP pn lb bd l :: DkA bd t.d :: SegA sb t.segs :: Cells cb #[.bool false] 4 :: Q
set_option maxHeartbeats 16000000 in
theorem o_swap2 {ver lx vx cb : Nat} {ty1 ty2 : Nat} {segs : List Nat} {Q : List Asrt} (j1 j2 : Nat) (hj1 : Q[j1]? = some (Cells lx #[dptr lb] ty1)) (hj2 : Q[j2]? = some (Cells vx #[.int .i64 ver] ty2)) (h : In F0 w0 w (SwX pn lb bd sb cb l Q ⟨d, segs, false, l⟩)) (ho : d.ops ≤ 99999000) (hs : segs.length ≤ 64) (hnx : l.m.next ≤ 1000000) :
    Calls Tryz.prog 94 #[.pointer (some ⟨lx, 0, none⟩), .pointer (some ⟨vx, 0, none⟩), .pointer (some ⟨sb, 0, none⟩), .pointer (some ⟨cb, 0, none⟩)] w fun e w' => e = .returned (.int .i64 (swSet ver l ⟨d, segs, false, l⟩).2) ∧ In F0 w0 w' (SwX pn lb bd sb cb l Q (swSet ver l ⟨d, segs, false, l⟩).1) := by
  have h0 : In F0 w0 w (LgP pn lb bd l :: DkA bd d :: SegA sb segs :: Cells cb #[.bool false] 4 :: Q) := h
  obtain ⟨sa, sc, h1⟩ := (h0.sel2 (R1 := [_, _, _, _]) [2, 0, 1, 3] (by decide) rfl).segOpen
  have y0 : w.cell? ⟨lx, 0, none⟩ = some (dptr lb) := cell_of (h1.block (j1 + 5) hj1) rfl
  have y1 : w.cell? ⟨vx, 0, none⟩ = some (.int .i64 ver) := cell_of (h1.block (j2 + 5) hj2) rfl
  have y2 : w.cell? ⟨sb, 0, none⟩ = some (.slice sa segs.length sc) := cell_of (h1.block 1 rfl) rfl
  have y3 : w.cell? ⟨lb, 3, none⟩ = some (.int .i64 l.m.next) := h0.lgpA.lg3
  have hwr : IntKind.i64.wrap ((l.m.next : Int) + (segs.length : Int)) = ((l.m.next + segs.length : Nat) : Int) := by rw [IntWalk.i64_in _ (by omega)]; exact (Int.natCast_add _ _).symm
  have K := Lib.hid (fun n => o_adoptP (pn := pn) (lb := lb) (bd := bd) (d := d) (l := l) (swapIn ver l segs) (A := sa) (c := sc) (R := Cells sb #[.slice sa segs.length sc] 43 :: Cells cb #[.bool false] 4 :: Q) ((h1.sel2 (R1 := [_, _, _, _, _]) [2, 3, 0, 1, 4] (by decide) rfl).drewN n) (Nat.le_trans ho (by decide)) (Nat.le_trans hs (by decide)))
  have e2 : swSet ver l ⟨d, segs, false, l⟩ = (⟨(adoptL (swapIn ver l segs) (d, l)).1.1, segs, (adoptL (swapIn ver l segs) (d, l)).2.1, (adoptL (swapIn ver l segs) (d, l)).1.2⟩, (adoptL (swapIn ver l segs) (d, l)).2.2) := rfl
  rw [e2]
  have hsegs : (swapIn ver l segs).segs = segs := rfl
  unfold AdoptPostP at K
  generalize hr : adoptL (swapIn ver l segs) (d, l) = r at *
  obtain ⟨⟨d2, l2⟩, on, re⟩ := r
  simp only at K ⊢
  have hma : manAgg (swapIn ver l segs) sa sc = .agg #[.int .i64 ver, .int .i64 ((l.m.next + segs.length : Nat) : Int), .slice sa segs.length sc] := rfl
  rw [hma] at K
  have HSW : Hid (∀ w', (on = true → In F0 w0 w' (LgA lb bd l2 :: DkA bd d2 :: RowA 3 1 pn l.m.segs.length (segV l.m.segs) :: Cells sb #[.slice sa segs.length sc] 43 :: Cells cb #[.bool false] 4 :: Q)) →
      (on = false → In F0 w0 w' (LgP pn lb bd l :: DkA bd d2 :: SegR sa sc segs :: Cells sb #[.slice sa segs.length sc] 43 :: Cells cb #[.bool false] 4 :: Q)) → (w'.frozen? ⟨cb, 0, none⟩ = false ∧ w'.cell? ⟨cb, 0, none⟩ = some (.bool false)) ∧ In F0 w0 (w'.setCell ⟨cb, 0, none⟩ (.bool on)) (SwX pn lb bd sb cb l Q ⟨d2, segs, on, l2⟩)) := Lib.hid fun w' h1 h2 => by
    cases on with
    | true =>
      have h3 := h1 rfl
      exact ⟨⟨free_of (h3.block 4 rfl), cell_of (h3.block 4 rfl) rfl⟩, (h3.put 4 rfl 0 (.bool true)).sel2 (R1 := [_, _, _, _, _]) [0, 1, 2, 4] (by decide) rfl⟩
    | false =>
      have h3 := h2 rfl
      refine ⟨⟨free_of (h3.block 4 rfl), cell_of (h3.block 4 rfl) rfl⟩, ?_⟩
      have h4 := ((h3.put 4 rfl 0 (.bool false)).sel2 (R1 := [_, _, _, _, _]) [2, 3, 0, 1, 4] (by decide) rfl).segClose
      exact h4.sel2 (R1 := [_, _, _, _]) [1, 2, 0, 3] (by decide) rfl
  clear h h0 h1 ho hs hnx e2 hsegs hr hma
  go_enter Tryz.func94, Tryz.ntmps94
  go_wp2_with fail
  refine n_start 12 (fun w' => w'.cell? ⟨lx, 0, none⟩ = some (dptr lb) ∧ w'.cell? ⟨vx, 0, none⟩ = some (.int .i64 ver) ∧ w'.cell? ⟨sb, 0, none⟩ = some (.slice sa segs.length sc) ∧ w'.cell? ⟨lb, 3, none⟩ = some (.int .i64 l.m.next)) (by kernel_rfl) ⟨y0, y1, y2, y3⟩ (fun hS => ?_)
  refine n_take (i := 0) (v := ?_) rfl (by kernel_rfl) (fun _ _ _ h => h) (by rfl) ?_ hS ?_
  rotate_left
  · (intro w hSw; (try dsimp only at hSw); go_simp; try with_reducible rfl)
  try simp only [Act.put, List.setIfInBounds_toArray, List.set_cons_zero, List.set_cons_succ]
  refine n_take (i := 1) (v := ?_) rfl (by kernel_rfl) (fun _ _ _ h => h) (by rfl) ?_ hS ?_
  rotate_left
  · (intro w hSw; (try dsimp only at hSw); go_simp; try with_reducible rfl)
  try simp only [Act.put, List.setIfInBounds_toArray, List.set_cons_zero, List.set_cons_succ]
  refine n_take (i := 2) (v := ?_) rfl (by kernel_rfl) (fun _ _ _ h => h) (by rfl) ?_ hS ?_
  rotate_left
  · (intro w hSw; (try dsimp only at hSw); go_simp; try with_reducible rfl)
  try simp only [Act.put, List.setIfInBounds_toArray, List.set_cons_zero, List.set_cons_succ]
  refine n_take (i := 3) (v := ?_) rfl (by kernel_rfl) (fun _ _ _ h => h) (by rfl) ?_ hS ?_
  rotate_left
  · (intro w hSw; (try dsimp only at hSw); go_simp; try with_reducible rfl)
  try simp only [Act.put, List.setIfInBounds_toArray, List.set_cons_zero, List.set_cons_succ]
  refine n_take (i := 4) (v := ?_) rfl (by kernel_rfl) (fun _ _ _ h => h) (by rfl) ?_ hS ?_
  rotate_left
  · (intro w hSw; (try dsimp only at hSw); go_simp; try with_reducible rfl)
  try simp only [Act.put, List.setIfInBounds_toArray, List.set_cons_zero, List.set_cons_succ]
  refine n_take (i := 5) (v := ?_) rfl (by kernel_rfl) (fun _ _ _ h => h) (by rfl) ?_ hS ?_
  rotate_left
  · (intro w hSw; (try dsimp only at hSw); go_simp; try with_reducible rfl)
  try simp only [Act.put, List.setIfInBounds_toArray, List.set_cons_zero, List.set_cons_succ]
  refine n_take (i := 6) (v := ?_) rfl (by kernel_rfl) (fun _ _ _ h => h) (by rfl) ?_ hS ?_
  rotate_left
  · (intro w hSw; (try dsimp only at hSw); go_simp; try with_reducible rfl)
  try simp only [Act.put, List.setIfInBounds_toArray, List.set_cons_zero, List.set_cons_succ]
  refine n_take (i := 7) (v := ?_) rfl (by kernel_rfl) (fun _ _ _ h => h) (by rfl) ?_ hS ?_
  rotate_left
  · (intro w hSw; (try dsimp only at hSw); go_simp; try with_reducible rfl)
  try simp only [Act.put, List.setIfInBounds_toArray, List.set_cons_zero, List.set_cons_succ]
  refine n_take (i := 8) (v := ?_) rfl (by kernel_rfl) (fun _ _ _ h => h) (by rfl) ?_ hS ?_
  rotate_left
  · (intro w hSw; (try dsimp only at hSw); go_simp; try with_reducible rfl)
  try simp only [Act.put, List.setIfInBounds_toArray, List.set_cons_zero, List.set_cons_succ]
  refine n_take (i := 9) (v := ?_) rfl (by kernel_rfl) (fun _ _ _ h => h) (by rfl) ?_ hS ?_
  rotate_left
  · (intro w hSw; (try dsimp only at hSw); go_simp; try with_reducible rfl)
  try simp only [Act.put, List.setIfInBounds_toArray, List.set_cons_zero, List.set_cons_succ]
  refine n_take (i := 10) (v := ?_) rfl (by kernel_rfl) (fun _ _ _ h => h) (by rfl) ?_ hS ?_
  rotate_left
  · (intro w hSw; (try dsimp only at hSw); go_simp; try with_reducible rfl)
  try simp only [Act.put, List.setIfInBounds_toArray, List.set_cons_zero, List.set_cons_succ]
  refine n_take (i := 11) (v := ?_) rfl (by kernel_rfl) (fun _ _ _ h => h) (by rfl) ?_ hS ?_
  rotate_left
  · (intro w hSw; (try dsimp only at hSw); go_simp; try with_reducible rfl)
  try simp only [Act.put, List.setIfInBounds_toArray, List.set_cons_zero, List.set_cons_succ]
  refine n_tail (by kernel_rfl) ?_
  refine e_pin (i := 12) rfl (by kernel_rfl) (fun K' hK => ?_)
  go_simp
  go_at_call 95
  refine (K.out 1).mono ?_
  rintro e w1 ⟨rfl, g1, g2⟩
  obtain ⟨⟨f1, f2⟩, g3⟩ := HSW.out w1 g1 g2
  have G := Lib.hid g3
  clear g1 g2 g3 K HSW hS
  refine hK.out _ _ trivial (fun _ => ?_)
  clear hK K'
  try simp only [Act.put, List.setIfInBounds_toArray, List.set_cons_zero, List.set_cons_succ]
  refine e_take (i := 13) (v := ?_) rfl (by kernel_rfl) (fun _ _ _ h => h) (by rfl) ?_ trivial ?_
  rotate_left
  · (intro w hSw; go_simp; try with_reducible rfl)
  try simp only [Act.put, List.setIfInBounds_toArray, List.set_cons_zero, List.set_cons_succ]
  refine e_take (i := 14) (v := ?_) rfl (by kernel_rfl) (fun _ _ _ h => h) (by rfl) ?_ trivial ?_
  rotate_left
  · (intro w hSw; go_simp; try with_reducible rfl)
  try simp only [Act.put, List.setIfInBounds_toArray, List.set_cons_zero, List.set_cons_succ]
  refine e_take (i := 15) (v := ?_) rfl (by kernel_rfl) (fun _ _ _ h => h) (by rfl) ?_ trivial ?_
  rotate_left
  · (intro w hSw; go_simp; try with_reducible rfl)
  try simp only [Act.put, List.setIfInBounds_toArray, List.set_cons_zero, List.set_cons_succ]
  refine e_pin (i := 16) rfl (by kernel_rfl) (fun K' hK => ?_)
  go_simp
  refine hK.out _ _ trivial (fun _ => ?_)
  clear hK K'
  try simp only [Act.put, List.setIfInBounds_toArray, List.set_cons_zero, List.set_cons_succ]
  refine e_last (i := 17) rfl (by kernel_rfl) (fun K' hK => ?_)
  go_simp
  refine hK.out _ _ ?_
  clear hK K'
  go_wp2_with fail
  go_ret
  exact ⟨rfl, G.out⟩
end
end Go.Proofs.YtogclkhpbjfadaaGreat
