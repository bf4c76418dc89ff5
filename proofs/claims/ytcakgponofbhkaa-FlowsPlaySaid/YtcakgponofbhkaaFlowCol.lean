/- The flows of a table's map, collected: slices.AppendSeq, slices.Collect. -/
import Derived.Test.YtcakgponofbhkaaFlowIter
import Derived.Test.YtcakgponofbhkaaFlowIdle
namespace Go.Proofs.Ytcakgponofbhkaa
open Go.RowKit Go.Shelf
open Go.Maps (Keyed)
set_option linter.unusedVariables false
set_option maxRecDepth 100000
attribute [local go_sem] Oper.semAt_some

theorem boxK_own {β : Type} (Bx : Nat) (T : TypeId) (f : β → Array Value) : Go.Own (fun s W => W.heap[Bx]? = some (.cells (f s) T (0, 0))) := fun s X Y row h hg hrow => by
  have hlt := hp_lt h
  refine (hg.block Bx hlt (fun e => ?_)).trans h
  obtain ⟨o, ho, hc⟩ := hrow Bx e.symm
  rw [h] at ho; cases ho; cases hc
/-- Between two rounds of the loop that collects. -/
def ColI (n₀ B : Nat) (w : World) (pre : List Fl) (W : World) : Prop := (∃ v, Boxed W B 51 v ∧ W.ownsRow n₀ 59 8 v pre.length (flatF pre) ∧ True) ∧ Below n₀ w W
set_option maxHeartbeats 8000000 in
/-- 'slices.AppendSeq(nil, seq)'. -/
theorem appseq_in (F : Fence) (n : Nat) (hf : F.fn 98) (hg : F.fn 85) (hro : F.round = none) (hn : 4 ≤ n) (Bm : Nat) (L : List Fl) (w : World) (hL : L.length ≤ 1000000)
    (hseq : ∀ w', Below w.heap.size w w' → SeqStopsK F (n - 1) Try.prog 85 #[.pointer (some ⟨Bm, 0, none⟩)] (fun f : Fl => #[.agg (encF f)]) KeepsWalks (fun xs => xs.Perm L) (fun _ => True) L.length w') :
    CallsIn F n Try.prog 98 #[.slice none 0 0, .func (.func 85) #[] #[.pointer (some ⟨Bm, 0, none⟩)]] w fun e w' => ∃ v xs, e = .returned v ∧ xs.Perm L ∧ w'.ownsRow w.heap.size 59 8 v xs.length (flatF xs) ∧ Below w.heap.size w w' := by
  have h1 : 1 ≤ n := by omega
  have HS := Lib.hid hseq
  clear hseq
  refine callsIn_of_wp_marks Try.func98 rfl hf ?_ hro
  simp only [Try.ntmps98, List.size_toArray, List.length_cons, List.length_nil, Nat.reduceAdd, Nat.reduceSub, Array.replicate_succ, Array.replicate_zero, List.push_toArray, List.append_toArray, List.nil_append, List.cons_append]
  gi_wp2
  have bB := Boxed.new w 51 (.slice none 0 0)
  have hB0 : Below w.heap.size w (w.alloc (.cells #[.slice none 0 0] 51)) := (Below.refl _ w).alloc (Nat.le_refl _) _
  have hsz : (w.alloc (.cells #[.slice none 0 0] 51)).heap.size = w.heap.size + 1 := by simp
  have hrow0 : (w.alloc (.cells #[.slice none 0 0] 51)).ownsRow w.heap.size 59 8 (.slice none 0 0) 0 (flatF []) := World.ownsRow_nil _ _ _ _
  obtain ⟨W0, hW0⟩ : ∃ W0, w.alloc (.cells #[.slice none 0 0] 51) = W0 := ⟨_, rfl⟩
  rw [hW0] at bB hB0 hsz hrow0 ⊢
  clear hW0
  obtain ⟨i0, hi, hz0, hz1, hz2⟩ := info_parts (P := Try.prog) (e := 59) (z := .agg #[.int .u32 0, .int .u32 0, .int .i64 0, .int .i64 0, .int .i64 0, .int .i64 0, .int .i64 0, .int .i64 0]) (size := 8) (bytes := 56) (by kernel_rfl)
  have hFX : Go.Own (fun (s : List Fl) W => ∃ v, Boxed W w.heap.size 51 v ∧ W.ownsRow w.heap.size 59 8 v s.length (flatF s) ∧ True) := holdsRow_own w.heap.size w.heap.size 51 59 8 (fun s => s.length) flatF (fun _ _ => True)
  refine wpIn_rangeFunc_ownH hro h1 (gf := 85) (lb := #[.pointer (some ⟨Bm, 0, none⟩)]) rfl hg (enters_of Try.func85 (by kernel_rfl) rfl)
    (HS.out W0 hB0) walksK_t walksK_b (Below.refl _ _) (fun _ => rfl)
    (ColI w.heap.size w.heap.size w)
    (fun _ _ _ => False)
    (OwnFrom.and (Go.Own.from hFX _) (ownFrom_below (Nat.le_refl _) (by omega)))
    (fun _ _ _ _ _ hs _ _ => hs)
    ⟨⟨_, bB, hrow0, trivial⟩, hB0⟩
    (fun x a' W => ∃ Bx, w.heap.size < Bx ∧ W.heap[Bx]? = some (.cells (encF x) 59 (0, 0)) ∧ a' = { tmps := #[.slice none 0 0, .func (.func 85) #[] #[.pointer (some ⟨Bm, 0, none⟩)], .pointer (some ⟨w.heap.size, 0, none⟩), undef, .slice none 0 0, .pointer (some ⟨Bx, 0, none⟩), .func (.func 85) #[] #[.pointer (some ⟨Bm, 0, none⟩)], .agg (encF x), undef, undef, undef, undef, undef], defers := [] })
    (fun x a' _ X Y row hs hg hr => by obtain ⟨Bx, h1, h2, h3⟩ := hs; exact ⟨Bx, h1, boxK_own Bx 59 (fun (_ : Unit) => encF x) () X Y row h2 hg (fun r e => (hr r e).2), h3⟩)
    ?assign ?body ?done ?stop
  case assign =>
    rintro l pre x W K ⟨⟨v, bv, hr, -⟩, hB⟩ hK
    have hlt := bv.lt
    have HK := Lib.hid (hK _ (W.alloc (.cells (encF x) 59)) ((KeepsOthers.alloc _ _).from _) (KeepsWalks.alloc _ _) ⟨⟨v, bv.alloc _, hr.alloc _, trivial⟩, hB.alloc hB.size _⟩ ⟨W.heap.size, hlt, hp_alloc_new, rfl⟩)
    clear hK bv hr hB HS hi hz0 hz1 hz2 hFX
    gi_wp2
    exact HK.out
  case body =>
    rintro l pre x a' W hl ⟨r, hr⟩ ⟨⟨v, bv, hrow, -⟩, hB⟩ ⟨Bx, hBx, bX, rfl⟩ hlt
    have hbv := bv.cell
    have hbf := bv.frozen
    have x0 := cell_of (o := 0) bX rfl
    have x1 := cell_of (o := 1) bX rfl
    have x2 := cell_of (o := 2) bX rfl
    have x3 := cell_of (o := 3) bX rfl
    have x4 := cell_of (o := 4) bX rfl
    have x5 := cell_of (o := 5) bX rfl
    have x6 := cell_of (o := 6) bX rfl
    have x7 := cell_of (o := 7) bX rfl
    have HBV := Lib.hid bv
    have HROW := Lib.hid hrow
    have HB := Lib.hid hB
    have HI := Lib.hid hi
    have hsz1 : w.heap.size ≤ W.heap.size := hB.size
    have hbl : w.heap.size < W.heap.size := bv.lt
    clear bv hrow hB bX hFX HS hr
    gi_wp2_with (gi_at_builtin; refine wpListIn_append_own _ rfl _ _ 51 rfl w.heap.size 59 i0 _ 8 56 Try.underlying51 HI.out hz0 hz1 hz2 rfl (by decide) _ _ _ rfl (HROW.out.alloc _) ⟨W.heap.size, 0, none⟩ 1 1 (encF x).toList rfl rfl (fun j u hu => by rw [add_at, Nat.zero_add]; exact cell_of hp_alloc_new (by rw [← hu, Array.getElem?_toList])) (fun u hu => by simp at hu; rcases hu with rfl | rfl | rfl | rfl | rfl | rfl | rfl | rfl <;> rfl) (by unfold maxLen; omega) (by omega) (by simp; omega) ?_; intro v' w1 hown' hgrow _; obtain ⟨g', cap', rfl⟩ := ownsRow_succ hown'; obtain ⟨hv1, hv2, hr2, hk2, hb2⟩ := HBV.out.appended (by decide) HROW.out HB.out.size (Nat.le_refl _) hown' hgrow; have hc1 := hv1.cell; have hf1 := hv1.frozen)
    have hr3 : (w1.setCell ⟨w.heap.size, 0, none⟩ (.slice (some ⟨g', 0, none⟩) (pre.length + 1) cap')).ownsRow w.heap.size 59 8 (.slice (some ⟨g', 0, none⟩) (pre.length + 1) cap') (pre ++ [x]).length (flatF (pre ++ [x])) := by
      rw [← flatF_snoc, show (pre ++ [x]).length = pre.length + 1 by simp]; exact hr2
    exact ⟨hk2.from _, ⟨hk2.size, fun k o ho hw => hk2.same k o ho (Obj.not_cells_of_walk hw)⟩, ⟨_, hv2, hr3, trivial⟩, HB.out.trans hb2⟩
  case done =>
    rintro D xs W hD hp ⟨⟨v, bv, hrow, -⟩, hB⟩ hK
    have hbv := bv.cell
    have HF : Hid (w.heap.size ≤ D ∧ xs.Perm L ∧ W.ownsRow w.heap.size 59 8 v xs.length (flatF xs) ∧ Below w.heap.size w W ∧ W.heap[D]? = some (.deferred (some []))) := Lib.hid ⟨by omega, hp, hrow, hB, hK⟩
    clear hD hp hrow hB hK bv hFX HS hi hz0 hz1 hz2
    gi_wp2
    obtain ⟨hD, hp, hrow, hB, hK⟩ := HF.out
    refine ⟨by simp, .inl ⟨_, _, rfl, run_takeDeferred hK, ?_⟩⟩
    exact ⟨_, results_tmp rfl _ _ _, v, xs, rfl, hp, ownsRow_putObj hrow _ hK rfl, hB.trans (belowK_b (w := w) (Nat.le_refl _) W D _ _ hD hK rfl rfl)⟩
  case stop =>
    rintro D c pre W _ _ h _
    exact h.elim
def ColPost (L : List Fl) (w : World) (e : Ending) (w' : World) : Prop := ∃ v xs, e = .returned v ∧ xs.Perm L ∧ w'.ownsRow w.heap.size 59 8 v xs.length (flatF xs) ∧ Below w.heap.size w w'
/-- 'slices.Collect(maps.Values(m))'. -/
theorem collect_call (Bm bm : Nat) (L : List Fl) (w : World) (hL : L.length ≤ 1000000) (hBm : Bm < w.heap.size) (hm : w.cell? ⟨Bm, 0, none⟩ = some (.map (some bm))) (hM : MapR Try.prog 57 w bm (tabR vT vF L) L.length) (hk : (L.map vT).Nodup) :
    Calls Try.prog 83 #[.func (.func 85) #[] #[.pointer (some ⟨Bm, 0, none⟩)]] w (ColPost L w) := by
  have hA := (callsIn_wide (n := 5)).1 (appseq_in Fence.wide 5 trivial trivial rfl (by omega) Bm L w hL (fun w' hb => values_stops Fence.wide 4 trivial rfl (by omega) Bm bm L w' (by have := hb.size; omega) ((hb.cell (p := ⟨Bm, 0, none⟩) hBm).trans hm) (hM.keep (hb.block _ hM.lt)) hk))
  have HA := Lib.hid hA
  clear hA hM hm hk
  go_enter Try.func83, Try.ntmps83
  go_wp2_with fail
  refine HA.out.mono ?_
  rintro e w' ⟨v, xs, rfl, hp⟩
  have HP := Lib.hid hp
  clear hp
  go_wp2_with fail
  go_ret
  exact ⟨v, xs, rfl, HP.out⟩
end Go.Proofs.Ytcakgponofbhkaa
