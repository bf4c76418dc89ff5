/- Rows.PathPlaysSaid -/
import Derived.Test.YtgapbecddgfkmaaGreatPY4
import Derived.Maps.RangeWalk
import Derived.Maps.OwnIn
import Derived.RangeFuncStops
import Derived.Test.YtgapbecddgfkmaaGreatPY6
import Derived.RangeFuncNested
import Derived.RangeFuncBound
import Derived.RangeFuncCalls
import Derived.RangeFuncLeaves
import Derived.Shelf.Abstract
import Derived.Shelf.RegionOpen
import Derived.OwnWalkIn
import Derived.TacticsInMore
import Derived.LoopNIn
import Derived.LoopIn
import Derived.Maps.AppendAt
import Derived.Test.YtgapbecddgfkmaaGreatPY24
import Derived.Test.YtgapbecddgfkmaaGreatPY2
import Derived.Shelf.SlSortCmp.WholeK
import Derived.Test.YtgapbecddgfkmaaGreatPY3
import Derived.StillTailTactics
import Derived.Sort.Grow
import Derived.Deep.Draws
import Derived.Test.YtgapbecddgfkmaaGreatPY7
import Derived.Test.YtgapbecddgfkmaaGreatShelfF
import Derived.Shelf.SlSortCmp.NoneTotal
namespace Go.Proofs.YtgapbecddgfkmaaGreat
open Go.RowKit Go.MapKept
open Go.ChangeMaps (setBlock)
open Go.Maps (Keyed)
open Go.RowKit Go.Shelf
open Go.RowKit Go.Sort
open Go.RowKit
open Go.RowKit Go.Shelf Go.Sort
set_option linter.unusedVariables false
set_option maxHeartbeats 64000000
set_option maxRecDepth 100000
section
variable {α : Type} {P : Program} {kt : TypeId} {ek ev : α → Value}
structure IterW (P : Program) (kt : TypeId) (ek ev : α → Value) (b r : Nat) (L done : List α) (w : World) : Prop where
  map : MapR P kt w b (tabR ek ev L) L.length
  keys : (L.map ek).Nodup
  sub : ∀ y ∈ done, y ∈ L
  once : done.Nodup
  it : ∃ es clock since seen c0, w.heap[b]? = some (.map es clock) ∧ w.heap[r]? = some (.mapIter (some b) since seen c0) ∧ Stamped es clock ∧ (∀ x ∈ es.toList, x.born < since) ∧ since ≤ c0 ∧ since ≤ clock ∧
    (∀ x ∈ es.toList, ∀ y ∈ L, x.key = ek y → (seen.contains x.born = true ↔ y ∈ done))
theorem tab_val {b : Nat} {L : List α} {w : World} (h : MapR P kt w b (tabR ek ev L) L.length) : ∃ es clock, w.heap[b]? = some (.map es clock) ∧ Stamped es clock ∧ (∀ x ∈ es.toList, ∃ y ∈ L, x.key = ek y ∧ x.val = ev y) ∧ (∀ y ∈ L, ∃ x ∈ es.toList, x.key = ek y ∧ x.val = ev y) ∧ es.size = L.length := by
  obtain ⟨es, clock, h1, h2, h3, h4, h5⟩ := h.ex
  refine ⟨es, clock, h1, h2, fun x hx => ?_, fun y hy => ?_, h5⟩
  · obtain ⟨i, hi, rfl⟩ := List.mem_iff_getElem.1 hx
    obtain ⟨y, hy, e1, e2⟩ := (h4 es[i].key es[i].val).2 ⟨i, es[i], by simp at hi ⊢, rfl, rfl⟩
    exact ⟨y, hy, e1, e2⟩
  · obtain ⟨i, x, hx, e1, e2⟩ := (h4 (ek y) (ev y)).1 ⟨y, hy, rfl, rfl⟩
    exact ⟨x, by rw [Array.mem_toList_iff]; exact Array.mem_of_getElem? hx, e1, e2⟩
theorem ek_inj {L : List α} (hk : (L.map ek).Nodup) {x y : α} (hx : x ∈ L) (hy : y ∈ L) (h : ek x = ek y) : x = y := by
  obtain ⟨i, hi, rfl⟩ := List.mem_iff_getElem.1 hx
  obtain ⟨j, hj, rfl⟩ := List.mem_iff_getElem.1 hy
  have : (L.map ek)[i]? = (L.map ek)[j]? := by simp [hi, hj, h]
  have := (List.getElem?_inj (by simpa using hi) hk).1 this
  subst this; rfl
theorem IterW.keep {b r : Nat} {L done : List α} {w w' : World} (h : IterW P kt ek ev b r L done w) (h1 : w'.heap[b]? = w.heap[b]?) (h2 : w'.heap[r]? = w.heap[r]?) : IterW P kt ek ev b r L done w' := by
  obtain ⟨m, k, s, o, es, clock, since, seen, c0, e1, e2, e3⟩ := h
  exact ⟨m.keep h1, k, s, o, es, clock, since, seen, c0, h1.trans e1, h2.trans e2, e3⟩
theorem IterW.of_walks {b r : Nat} {L done : List α} {w w' : World} (h : IterW P kt ek ev b r L done w) (hk : KeepsWalks w w') : IterW P kt ek ev b r L done w' ∧ w'.rangeLeft b r = w.rangeLeft b r := by
  obtain ⟨es, clock, since, seen, c0, e1, e2, e3⟩ := h.it
  have h1 := hk.same b _ e1 rfl
  have h2 := hk.same r _ e2 rfl
  exact ⟨h.keep (h1.trans e1.symm) (h2.trans e2.symm), by simp only [World.rangeLeft, e1, e2, h1, h2]⟩
theorem IterW.walk {b r : Nat} {L done : List α} {w : World} (h : IterW P kt ek ev b r L done w) : ∃ o : Obj, w.heap[r]? = some o ∧ o.isWalk = true := by
  obtain ⟨es, clock, since, seen, c0, e1, e2, e3⟩ := h.it
  exact ⟨_, e2, rfl⟩
theorem IterW.lt {b r : Nat} {L done : List α} {w : World} (h : IterW P kt ek ev b r L done w) : b < w.heap.size ∧ r < w.heap.size ∧ r ≠ b := by
  obtain ⟨m, k, s, o, es, clock, since, seen, c0, e1, e2, e3⟩ := h
  refine ⟨hp_lt e1, hp_lt e2, ?_⟩
  rintro rfl; rw [e1] at e2; cases e2
theorem iter_range {b : Nat} {L : List α} {w : World} (h : MapR P kt w b (tabR ek ev L) L.length) (hk : (L.map ek).Nodup) {t et : TypeId} (ht : P.underlying t = some (.map kt et)) :
    ∃ o, (Instr.range t (.map (some b))).run P w = .ok (.pointer (some ⟨w.heap.size, 0, none⟩)) (w.alloc o) ∧ IterW P kt ek ev b w.heap.size L [] (w.alloc o) := by
  obtain ⟨es, clock, e1, e2, e3, e4, e5⟩ := tab_val h
  refine ⟨.mapIter (some b) clock #[] clock, run_range_map w t kt et b es clock ht e1, h.keep (hp_alloc_old (hp_lt e1)), hk, by simp, by simp, es, clock, clock, #[], clock, (hp_alloc_old (hp_lt e1)).trans e1, hp_alloc_new, e2, e2.1, Nat.le_refl _, Nat.le_refl _, fun x _ y _ _ => by simp⟩
theorem iter_next [DecidableEq α] {b r : Nat} {L done : List α} {w : World} (h : IterW P kt ek ev b r L done w) (ty : TypeId) :
    (done.Perm L ∧ (Instr.next (.pointer (some ⟨r, 0, none⟩)) false ty).run P w = .ok (.tuple #[.bool false]) w) ∨
    ∃ y ∈ L, y ∉ done ∧ ∃ w', (Instr.next (.pointer (some ⟨r, 0, none⟩)) false ty).run P w = .ok (.tuple #[.bool true, ek y, ev y]) w' ∧ IterW P kt ek ev b r L (done ++ [y]) w' ∧ w.grownBy w' (some r) ∧ w'.heap.size = w.heap.size ∧ w'.rangeLeft b r < w.rangeLeft b r ∧
      (Instr.entry (.pointer (some ⟨r, 0, none⟩))).run P w' = .ok (.tuple #[ek y, ev y]) w' := by
  have hlt := h.lt
  obtain ⟨m, hk, hsub, hon, es, clock, since, seen, c0, hb, hr, hst, hold, hsc, hsk, hseen⟩ := h
  obtain ⟨es', clock', hb', _, e3, e4, _⟩ := tab_val m
  rw [hb] at hb'; cases hb'
  have hst' := (stamped_iff es clock).1 hst
  rcases run_next_at (P := P) w ty r b since c0 seen es clock hr hb hold hsc with ⟨h0, hrun⟩ | ⟨e, he, w1, hal, hrun⟩
  · refine Or.inl ⟨(List.perm_ext_iff_of_nodup hon (List.Pairwise.of_map ek (fun a b (h : ek a ≠ ek b) => fun e => h (by rw [e])) hk)).2 (fun y => ⟨hsub y, fun hy => ?_⟩), hrun⟩
    obtain ⟨x, hx, ex, _⟩ := e4 y hy
    exact (hseen x hx y hy ex).1 (all_seen es seen h0 x hx)
  · obtain ⟨hem, hes⟩ := mem_left he
    obtain ⟨y, hy, ey, ev'⟩ := e3 e hem
    have hyd : y ∉ done := fun hd => by
      have := (hseen e hem y hy ey).2 hd
      rw [hes] at this; cases this
    have hr1 : w1.heap[r]? = some (.mapIter (some b) since seen c0) := by rcases hal with rfl | rfl <;> exact hr
    have hb1 : w1.heap[b]? = some (.map es clock) := by rcases hal with rfl | rfl <;> exact hb
    have hset := heap_set (o' := .mapIter (some b) since (seen.push e.born) clock) hr1
    have hbn : (setBlock w1 r (.mapIter (some b) since (seen.push e.born) clock)).heap[b]? = some (.map es clock) := (hset.2 b (fun e1 => hlt.2.2 e1.symm)).trans hb1
    refine Or.inr ⟨y, hy, hyd, setBlock w1 r (.mapIter (some b) since (seen.push e.born) clock), by rw [← ey, ← ev']; exact hrun, ⟨m.keep (hbn.trans hb.symm), hk, ?_, ?_, es, clock, since, seen.push e.born, clock, hbn, hset.1, hst, hold, hsk, hsk, ?_⟩, ?_, ?_, ?_, ?_⟩
    · intro z hz
      rcases List.mem_append.1 hz with hz | hz
      · exact hsub z hz
      · simp at hz; subst hz; exact hy
    · exact List.nodup_append.2 ⟨hon, by simp, fun a ha c hc => by simp at hc; subst hc; exact fun e => hyd (e ▸ ha)⟩
    · intro x hx z hz ez
      rw [contains_push]
      have hzz := hseen x hx z hz ez
      have hbe : (x.born == e.born) = true ↔ z = y := by
        rw [beq_iff_eq]
        constructor
        · intro hbn'
          have : x = e := born_inj hst'.2.1 hx hem hbn'
          subst this
          exact ek_inj hk hz hy (ez.symm.trans ey)
        · rintro rfl
          have : x = e := entry_eq_of_key hst'.2.2 hx hem (ez.trans ey.symm)
          rw [this]
      simp only [Bool.or_eq_true, List.mem_append, List.mem_singleton]
      rw [hzz, hbe]
    · rcases hal with rfl | rfl <;> exact ⟨rfl, rfl, rfl, by simp [setBlock], fun i _ hi => hset.2 i (fun e1 => hi (by rw [e1]))⟩
    · rcases hal with rfl | rfl <;> simp [setBlock]
    · unfold World.rangeLeft
      have h9 : (setBlock w1 r (.mapIter (some b) since (seen.push e.born) clock)).heap[r]? = some (.mapIter (some b) since (seen.push e.born) clock) := hset.1
      rw [hbn, h9, hb, hr]
      exact left_shrinks es seen e he
    · rw [← ey, ← ev']
      exact run_entry_at _ r b since seen es clock e hset.1 hbn hem hst'.2.1
def IterA (P : Program) (kt : TypeId) (ek ev : α → Value) (b r : Nat) (L done : List α) : Asrt := fun w F => F = [b, r] ∧ IterW P kt ek ev b r L done w
variable {F0 : List Nat} {w0 w : World} {R : List Asrt} {b r : Nat} {L done : List α} {t et : TypeId}
end
attribute [local go_sem] Oper.semAt_some
theorem values_call (mb : Option Nat) (w : World) : Calls Tryz.prog 61 #[.map mb] w fun e w' => e = .returned (.func (.func 95) #[] #[.pointer (some ⟨w.heap.size, 0, none⟩)]) ∧ w' = w.alloc (.cells #[.map mb] 88) := by
  go_enter Tryz.func61, Tryz.ntmps61
  go_wp2_with fail
  go_ret
  exact ⟨rfl, rfl⟩
theorem values_stops (F : Fence) (n : Nat) (hf : F.fn 95) (hro : F.round = none) (hn : 1 ≤ n) (Bm bm : Nat) (L : List Fl) (w : World) (hBm : Bm < w.heap.size) (hm : w.cell? ⟨Bm, 0, none⟩ = some (.map (some bm)))
    (hM : MapR Tryz.prog 24 w bm (tabR vT vF L) L.length) (hk : (L.map vT).Nodup) :
    SeqStopsK F n Tryz.prog 95 #[.pointer (some ⟨Bm, 0, none⟩)] (fun f : Fl => #[.agg (encF f)]) KeepsWalks (fun xs => xs.Perm L) (fun _ => True) L.length w := fun l J Jx W hW hJ hJx hY h0 => by
  have hm' : W.cell? ⟨Bm, 0, none⟩ = some (.map (some bm)) := (hW.cell (p := ⟨Bm, 0, none⟩) hBm).trans hm
  have hM' : MapR Tryz.prog 24 W bm (tabR vT vF L) L.length := hM.keep (hW.block _ hM.lt)
  obtain ⟨o, hrun, hit⟩ := iter_range hM' hk Tryz.underlying88
  have HJ0 : Hid (J [] (W.alloc o)) := Lib.hid (hJ [] W _ none h0 (World.grownBy_alloc W o none) (fun r e => by cases e))
  have HI0 := Lib.hid hit
  have HY := Lib.hid hY
  have HJ := Lib.hid hJ
  clear hY hJ hJx h0 hM hM' hm hit hW hk
  refine callsIn_of_wp Tryz.func95 rfl hf ?_ hro
  simp only [Tryz.ntmps95, List.size_toArray, List.length_cons, List.length_nil, Nat.reduceAdd, Nat.reduceSub, Array.replicate_succ, Array.replicate_zero, List.push_toArray, List.append_toArray, List.nil_append, List.cons_append]
  gi_wp2
  clear hrun hm'
  gi_loopw [4] (fun _ wr => ∃ done, IterW Tryz.prog 24 vT vF bm W.heap.size L done wr ∧ J done wr) (fun _ wr => wr.rangeLeft bm W.heap.size)
  case atStart => exact ⟨[], HI0.out, HJ0.out⟩
  case round =>
    obtain ⟨done, hi, hj⟩ := hrel
    clear HI0 HJ0
    have HLI := Lib.hid hi
    rcases iter_next hi 0 with ⟨hp, hrun⟩ | ⟨y, hy, hyd, w', hrun, hi2, hg, hsz, hlt, hen⟩
    · have HR : Hid (∃ xs : List Fl, xs.Perm L ∧ J xs wr) := Lib.hid ⟨done, hp, hj⟩
      clear hi hj hp
      gi_wp2
      go_end0
      exact ⟨⟨_, rfl⟩, .inl HR.out⟩
    · have hlen : done.length < L.length := by
        have := (List.Nodup.length_le_of_subset hi2.once hi2.sub)
        simp at this; omega
      have hj2 : J done w' := HJ.out done wr w' (some W.heap.size) hj hg (fun r e => by cases e; exact ⟨Nat.le_refl _, hi.walk⟩)
      have hj3 : J done (w'.alloc (.cells (encF y) 49)) := HJ.out done w' _ none hj2 (World.grownBy_alloc _ _ none) (fun r e => by cases e)
      obtain ⟨fn, tmps, assign, body, hyd2, hR⟩ := HY.out done y _ hj3 hlen
      have HI2 := Lib.hid ((hi2.of_walks (KeepsWalks.alloc w' (.cells (encF y) 49))))
      have HLT := Lib.hid hlt
      have HR := Lib.hid hR
      clear hi hj hj2 hj3 hi2 hg hsz hlt hR hyd hy hlen
      gi_wp2
      refine HR.out.mono ?_
      rintro e W3 (⟨rfl, hJ3, hk3⟩ | ⟨rfl, hJx3⟩)
      · have HN := Lib.hid (HI2.out.1.of_walks hk3)
        have HJ3 := Lib.hid hJ3
        clear hJ3 hk3
        gi_wp2
        go_roundw
        case rel => exact ⟨_, HN.out.1, HJ3.out⟩
        case measure => rw [HN.out.2, HI2.out.2]; exact HLT.out
      · have HX := Lib.hid hJx3
        clear hJx3
        gi_wp2
        refine bodyPost_ret (results_none rfl _ _ _) rfl ?_
        exact ⟨⟨_, rfl⟩, .inr ⟨_, trivial, HX.out⟩⟩
attribute [local go_sem] Oper.semAt_some
theorem boxK_own {β : Type} (Bx : Nat) (T : TypeId) (f : β → Array Value) : Go.Own (fun s W => W.heap[Bx]? = some (.cells (f s) T (0, 0))) := fun s X Y row h hg hrow => by
  have hlt := hp_lt h
  refine (hg.block Bx hlt (fun e => ?_)).trans h
  obtain ⟨o, ho, hc⟩ := hrow Bx e.symm
  rw [h] at ho; cases ho; cases hc
def ColI (n₀ B : Nat) (w : World) (pre : List Fl) (W : World) : Prop := (∃ v, Boxed W B 75 v ∧ W.ownsRow n₀ 49 8 v pre.length (flatF pre) ∧ True) ∧ Below n₀ w W
theorem appseq_in (F : Fence) (n : Nat) (hf : F.fn 130) (hg : F.fn 95) (hro : F.round = none) (hn : 4 ≤ n) (Bm : Nat) (L : List Fl) (w : World) (hL : L.length ≤ 1000000)
    (hseq : ∀ w', Below w.heap.size w w' → SeqStopsK F (n - 1) Tryz.prog 95 #[.pointer (some ⟨Bm, 0, none⟩)] (fun f : Fl => #[.agg (encF f)]) KeepsWalks (fun xs => xs.Perm L) (fun _ => True) L.length w') :
    CallsIn F n Tryz.prog 130 #[.slice none 0 0, .func (.func 95) #[] #[.pointer (some ⟨Bm, 0, none⟩)]] w fun e w' => ∃ v xs, e = .returned v ∧ xs.Perm L ∧ w'.ownsRow w.heap.size 49 8 v xs.length (flatF xs) ∧ Below w.heap.size w w' := by
  have h1 : 1 ≤ n := by omega
  have HS := Lib.hid hseq
  clear hseq
  refine callsIn_of_wp_marks Tryz.func130 rfl hf ?_ hro
  simp only [Tryz.ntmps130, List.size_toArray, List.length_cons, List.length_nil, Nat.reduceAdd, Nat.reduceSub, Array.replicate_succ, Array.replicate_zero, List.push_toArray, List.append_toArray, List.nil_append, List.cons_append]
  gi_wp2
  have bB := Boxed.new w 75 (.slice none 0 0)
  have hB0 : Below w.heap.size w (w.alloc (.cells #[.slice none 0 0] 75)) := (Below.refl _ w).alloc (Nat.le_refl _) _
  have hsz : (w.alloc (.cells #[.slice none 0 0] 75)).heap.size = w.heap.size + 1 := by simp
  have hrow0 : (w.alloc (.cells #[.slice none 0 0] 75)).ownsRow w.heap.size 49 8 (.slice none 0 0) 0 (flatF []) := World.ownsRow_nil _ _ _ _
  obtain ⟨W0, hW0⟩ : ∃ W0, w.alloc (.cells #[.slice none 0 0] 75) = W0 := ⟨_, rfl⟩
  rw [hW0] at bB hB0 hsz hrow0 ⊢
  clear hW0
  obtain ⟨i0, hi, hz0, hz1, hz2⟩ := info_parts (P := Tryz.prog) (e := 49) (z := .agg #[.int .u32 0, .int .u32 0, .int .i64 0, .int .i64 0, .int .i64 0, .int .i64 0, .int .i64 0, .int .i64 0]) (size := 8) (bytes := 56) (by kernel_rfl)
  have hFX : Go.Own (fun (s : List Fl) W => ∃ v, Boxed W w.heap.size 75 v ∧ W.ownsRow w.heap.size 49 8 v s.length (flatF s) ∧ True) := holdsRow_own w.heap.size w.heap.size 75 49 8 (fun s => s.length) flatF (fun _ _ => True)
  refine wpIn_rangeFunc_ownH hro h1 (gf := 95) (lb := #[.pointer (some ⟨Bm, 0, none⟩)]) rfl hg (enters_of Tryz.func95 (by kernel_rfl) rfl)
    (HS.out W0 hB0) walksK_t walksK_b (Below.refl _ _) (fun _ => rfl)
    (ColI w.heap.size w.heap.size w)
    (fun _ _ _ => False)
    (OwnFrom.and (Go.Own.from hFX _) (ownFrom_below (Nat.le_refl _) (by omega)))
    (fun _ _ _ _ _ hs _ _ => hs)
    ⟨⟨_, bB, hrow0, trivial⟩, hB0⟩
    (fun x a' W => ∃ Bx, w.heap.size < Bx ∧ W.heap[Bx]? = some (.cells (encF x) 49 (0, 0)) ∧ a' = { tmps := #[.slice none 0 0, .func (.func 95) #[] #[.pointer (some ⟨Bm, 0, none⟩)], .pointer (some ⟨w.heap.size, 0, none⟩), undef, .slice none 0 0, .pointer (some ⟨Bx, 0, none⟩), .func (.func 95) #[] #[.pointer (some ⟨Bm, 0, none⟩)], .agg (encF x), undef, undef, undef, undef, undef], defers := [] })
    (fun x a' _ X Y row hs hg hr => by obtain ⟨Bx, h1, h2, h3⟩ := hs; exact ⟨Bx, h1, boxK_own Bx 49 (fun (_ : Unit) => encF x) () X Y row h2 hg (fun r e => (hr r e).2), h3⟩)
    ?assign ?body ?done ?stop
  case assign =>
    rintro l pre x W K ⟨⟨v, bv, hr, -⟩, hB⟩ hK
    have hlt := bv.lt
    have HK := Lib.hid (hK _ (W.alloc (.cells (encF x) 49)) ((KeepsOthers.alloc _ _).from _) (KeepsWalks.alloc _ _) ⟨⟨v, bv.alloc _, hr.alloc _, trivial⟩, hB.alloc hB.size _⟩ ⟨W.heap.size, hlt, hp_alloc_new, rfl⟩)
    clear hK bv hr hB HS hi hz0 hz1 hz2 hFX
    gi_wp2
    exact HK.out
  case body =>
    rintro l pre x a' W hl ⟨r, hr⟩ ⟨⟨v, bv, hrow, -⟩, hB⟩ ⟨Bx, hBx, bX, rfl⟩ hlt
    have hbv := bv.cell
    have hbf := bv.frozen
    have x0 := cell_of (o := 0) bX rfl
    have x1 := cell_of (o := 1) bX rfl
    have x2 := cell_of (o := 2) bX rfl
    have x3 := cell_of (o := 3) bX rfl
    have x4 := cell_of (o := 4) bX rfl
    have x5 := cell_of (o := 5) bX rfl
    have x6 := cell_of (o := 6) bX rfl
    have x7 := cell_of (o := 7) bX rfl
    have HBV := Lib.hid bv
    have HROW := Lib.hid hrow
    have HB := Lib.hid hB
    have HI := Lib.hid hi
    have hsz1 : w.heap.size ≤ W.heap.size := hB.size
    have hbl : w.heap.size < W.heap.size := bv.lt
    clear bv hrow hB bX hFX HS hr
    gi_wp2_with (gi_at_builtin; refine wpListIn_append_own _ rfl _ _ 75 rfl w.heap.size 49 i0 _ 8 56 Tryz.underlying75 HI.out hz0 hz1 hz2 rfl (by decide) _ _ _ rfl (HROW.out.alloc _) ⟨W.heap.size, 0, none⟩ 1 1 (encF x).toList rfl rfl (fun j u hu => by rw [add_at, Nat.zero_add]; exact cell_of hp_alloc_new (by rw [← hu, Array.getElem?_toList])) (fun u hu => by simp at hu; rcases hu with rfl | rfl | rfl | rfl | rfl | rfl | rfl | rfl <;> rfl) (by unfold maxLen; omega) (by omega) (by simp; omega) ?_; intro v' w1 hown' hgrow _; obtain ⟨g', cap', rfl⟩ := ownsRow_succ hown'; obtain ⟨hv1, hv2, hr2, hk2, hb2⟩ := HBV.out.appended (by decide) HROW.out HB.out.size (Nat.le_refl _) hown' hgrow; have hc1 := hv1.cell; have hf1 := hv1.frozen)
    have hr3 : (w1.setCell ⟨w.heap.size, 0, none⟩ (.slice (some ⟨g', 0, none⟩) (pre.length + 1) cap')).ownsRow w.heap.size 49 8 (.slice (some ⟨g', 0, none⟩) (pre.length + 1) cap') (pre ++ [x]).length (flatF (pre ++ [x])) := by
      rw [← flatF_snoc, show (pre ++ [x]).length = pre.length + 1 by simp]; exact hr2
    exact ⟨hk2.from _, ⟨hk2.size, fun k o ho hw => hk2.same k o ho (Obj.not_cells_of_walk hw)⟩, ⟨_, hv2, hr3, trivial⟩, HB.out.trans hb2⟩
  case done =>
    rintro D xs W hD hp ⟨⟨v, bv, hrow, -⟩, hB⟩ hK
    have hbv := bv.cell
    have HF : Hid (w.heap.size ≤ D ∧ xs.Perm L ∧ W.ownsRow w.heap.size 49 8 v xs.length (flatF xs) ∧ Below w.heap.size w W ∧ W.heap[D]? = some (.deferred (some []))) := Lib.hid ⟨by omega, hp, hrow, hB, hK⟩
    clear hD hp hrow hB hK bv hFX HS hi hz0 hz1 hz2
    gi_wp2
    obtain ⟨hD, hp, hrow, hB, hK⟩ := HF.out
    refine ⟨by simp, .inl ⟨_, _, rfl, run_takeDeferred hK, ?_⟩⟩
    exact ⟨_, results_tmp rfl _ _ _, v, xs, rfl, hp, ownsRow_putObj hrow _ hK rfl, hB.trans (belowK_b (w := w) (Nat.le_refl _) W D _ _ hD hK rfl rfl)⟩
  case stop =>
    rintro D c pre W _ _ h _
    exact h.elim
def ColPost (L : List Fl) (w : World) (e : Ending) (w' : World) : Prop := ∃ v xs, e = .returned v ∧ xs.Perm L ∧ w'.ownsRow w.heap.size 49 8 v xs.length (flatF xs) ∧ Below w.heap.size w w'
theorem collect_call (Bm bm : Nat) (L : List Fl) (w : World) (hL : L.length ≤ 1000000) (hBm : Bm < w.heap.size) (hm : w.cell? ⟨Bm, 0, none⟩ = some (.map (some bm))) (hM : MapR Tryz.prog 24 w bm (tabR vT vF L) L.length) (hk : (L.map vT).Nodup) :
    Calls Tryz.prog 93 #[.func (.func 95) #[] #[.pointer (some ⟨Bm, 0, none⟩)]] w (ColPost L w) := by
  have hA := (callsIn_wide (n := 5)).1 (appseq_in Fence.wide 5 trivial trivial rfl (by omega) Bm L w hL (fun w' hb => values_stops Fence.wide 4 trivial rfl (by omega) Bm bm L w' (by have := hb.size; omega) ((hb.cell (p := ⟨Bm, 0, none⟩) hBm).trans hm) (hM.keep (hb.block _ hM.lt)) hk))
  have HA := Lib.hid hA
  clear hA hM hm hk
  go_enter Tryz.func93, Tryz.ntmps93
  go_wp2_with fail
  refine HA.out.mono ?_
  rintro e w' ⟨v, xs, rfl, hp⟩
  have HP := Lib.hid hp
  clear hp
  go_wp2_with fail
  go_ret
  exact ⟨v, xs, rfl, HP.out⟩
section
variable {α : Type} [Inhabited α] {enc : α → List Value} {k : Nat}
theorem flatten_get {k : Nat} (hk : 0 < k) : ∀ {L : List (List Value)} (h : ∀ x ∈ L, x.length = k) (t : Nat), L.flatten[t]? = (L[t / k]?).bind (fun x => x[t % k]?)
  | [], _, t => by simp
  | x :: r, h, t => by
    have hx := h x (by simp)
    have ih := flatten_get hk (L := r) (fun y hy => h y (List.mem_cons_of_mem _ hy))
    rw [List.flatten_cons]
    by_cases ht : t < k
    · rw [List.getElem?_append_left (by omega), Nat.div_eq_of_lt ht, Nat.mod_eq_of_lt ht]; simp
    · rw [List.getElem?_append_right (by omega), hx, ih]
      have e1 : t / k = (t - k) / k + 1 := by
        have := Nat.sub_add_cancel (show k ≤ t by omega)
        rw [← this, Nat.add_div_right _ hk, Nat.add_sub_cancel]
      have e2 : t % k = (t - k) % k := by
        have := Nat.sub_add_cancel (show k ≤ t by omega)
        rw [← this, Nat.add_mod_right, Nat.add_sub_cancel]
      rw [e1, e2]; simp
theorem flatK_list (hk : ∀ x, (enc x).length = k) (h0 : 0 < k) (d : Array α) : (flatK enc k d).toList = (d.toList.map enc).flatten := by
  apply List.ext_getElem?
  intro t
  rw [flatten_get h0 (fun x hx => by obtain ⟨y, _, rfl⟩ := List.mem_map.1 hx; exact hk y)]
  by_cases ht : t < d.size * k
  · have hq : t / k < d.size := by rw [Nat.div_lt_iff_lt_mul h0]; exact ht
    have hm : t % k < k := Nat.mod_lt _ h0
    have hE : (enc d[t / k]).length = k := hk _
    have h1 : (flatK enc k d)[t]! = (enc d[t / k]!)[t % k]! := get_flatK enc k d t ht
    have h2 : t < (flatK enc k d).size := by rw [size_flatK]; exact ht
    rw [getElem!_pos (flatK enc k d) t h2, getElem!_pos d (t / k) hq] at h1
    rw [getElem!_pos _ _ (by rw [hE]; exact hm)] at h1
    rw [Array.getElem?_toList, Array.getElem?_eq_getElem h2, h1]
    rw [List.getElem?_map, Array.getElem?_toList, Array.getElem?_eq_getElem hq]
    simp only [Option.map_some, Option.bind_some]
    rw [List.getElem?_eq_getElem (by rw [hE]; exact hm)]
  · have hq : d.size ≤ t / k := by
      rcases Nat.lt_or_ge (t / k) d.size with h | h
      · rw [Nat.div_lt_iff_lt_mul h0] at h; exact absurd h ht
      · exact h
    rw [List.getElem?_eq_none (by simp; omega), List.getElem?_eq_none (by simpa using hq)]; rfl
theorem heap_sortK {w : World} {g n : Nat} {os : Array Obj} {cur : Array Value} {e : TypeId} {fr : Nat × Nat} (d : Array α) (hb : w.heap[g]? = some (.cells cur e fr)) :
    (sortWorldK enc k w g 0 n d os).heap[g]? = some (.cells (putCells id 0 (flatK enc k d) cur) e fr) := by
  have hg : g < w.heap.size := (Array.getElem?_eq_some_iff.1 hb).1
  unfold sortWorldK
  rw [heap_grow_old _ _ (by simpa [putRowK] using hg)]
  simp [putRowK, putRow, mapBlock, Sort.ahead, Array.getElem?_modify, hb, onCells]
theorem grownBy_sortK {w : World} {g n : Nat} {os : Array Obj} (d : Array α) : w.grownBy (sortWorldK enc k w g 0 n d os) (some g) := by
  unfold sortWorldK
  refine ⟨rfl, rfl, rfl, by simp [putRowK], fun j hj hne => ?_⟩
  rw [heap_grow_old _ _ (by simpa [putRowK] using hj)]
  have : g ≠ j := fun e => hne (by rw [e])
  simp [putRowK, putRow, mapBlock, Sort.ahead, Array.getElem?_modify, this]
theorem take_putCellsK (cur F : Array Value) (h : F.size ≤ cur.size) : (putCells id 0 F cur).toList.take F.size = F.toList := by
  apply List.ext_getElem?
  intro j
  by_cases hj : j < F.size
  · rw [List.getElem?_take_of_lt hj, Array.getElem?_toList]
    simp [putCells, hj, show j < cur.size by omega]
  · rw [List.getElem?_take_eq_none (by omega), List.getElem?_eq_none (by simp; omega)]
theorem holdsK_row {w : World} {g : Nat} {cur : Array Value} {e : TypeId} {d : Array α} (hk : ∀ x, (enc x).length = k) (h0 : 0 < k) (hb : w.heap[g]? = some (.cells cur e (0, 0))) (ht : cur.toList.take (d.size * k) = (d.toList.map enc).flatten) : HoldsK enc k w g 0 d := by
  intro j hj
  have hj' : j < d.size * k := by simpa using hj
  refine ⟨?_, by simp [World.frozen?, hb]⟩
  have h1 : (cur.toList.take (d.size * k))[j]? = (flatK enc k d).toList[j]? := by rw [ht, flatK_list hk h0]
  rw [List.getElem?_take_of_lt hj', Array.getElem?_toList, Array.getElem?_toList] at h1
  simp only [World.cell?, hb, Nat.zero_add]
  simp only [Option.isSome_none, Bool.false_eq_true, if_false]
  rw [h1, getElem!_pos (flatK enc k d) j hj, Array.getElem?_eq_getElem hj]
  rfl
theorem ownsRow_sortK {w : World} {base g cap n m : Nat} {e : TypeId} {os : Array Obj} {cur : Array Value} {d : Array α} (hk : ∀ x, (enc x).length = k) (h0 : 0 < k) (hl : d.size = m) (hbase : base ≤ g) (hb : w.heap[g]? = some (.cells cur e (0, 0)))
    (h1 : m ≤ cap) (h2 : cap ≤ maxLen) (h3 : cur.size = cap * k) : (sortWorldK enc k w g 0 n d os).ownsRow base e k (.slice (some ⟨g, 0, none⟩) m cap) m ((d.toList.map enc).flatten) := by
  have hsz : (flatK enc k d).size = m * k := by rw [size_flatK, hl]
  have hle : m * k ≤ cap * k := Nat.mul_le_mul_right _ h1
  refine ⟨?_, .inr ⟨g, cap, _, rfl, hbase, heap_sortK d hb, h1, h2, by simp [putCells, h3], ?_⟩⟩
  · rw [← flatK_list hk h0, Array.length_toList, hsz]
  · rw [← hsz, take_putCellsK _ _ (by rw [hsz, h3]; exact hle), flatK_list hk h0]
end
def cmpI (a b : Int) : Int := if a < b then -1 else if b < a then 1 else 0
theorem cmp_cases (a b : Int) : (a < b ∧ cmpI a b = -1) ∨ (decide (a < b) = false ∧ b < a ∧ cmpI a b = 1) ∨ (decide (a < b) = false ∧ decide (b < a) = false ∧ cmpI a b = 0) := by
  unfold cmpI
  by_cases h : a < b
  · left; simp [h]
  · right
    by_cases h2 : b < a
    · left; simp [h, h2]
    · right; simp [h, h2]
theorem cmp_u32 (a b : Int) (w : World) : Calls Tryz.prog 97 #[.int .u32 a, .int .u32 b] w fun e w' => e = .returned (.int .i64 (cmpI a b)) ∧ w' = w := by
  rcases cmp_cases a b with ⟨h, e⟩ | ⟨h, h2, e⟩ | ⟨h, h2, e⟩
  all_goals
    rw [e]
    clear e
    go_enter Tryz.func97, Tryz.ntmps97
    go_wp2
    go_ret
    exact ⟨rfl, rfl⟩
theorem cmp_int (a b : Int) (w : World) : Calls Tryz.prog 98 #[.int .i64 a, .int .i64 b] w fun e w' => e = .returned (.int .i64 (cmpI a b)) ∧ w' = w := by
  rcases cmp_cases a b with ⟨h, e⟩ | ⟨h, h2, e⟩ | ⟨h, h2, e⟩
  all_goals
    rw [e]
    clear e
    go_enter Tryz.func98, Tryz.ntmps98
    go_wp2
    go_ret
    exact ⟨rfl, rfl⟩
def orI (l : List Int) : Int := (l.find? (fun x => x != 0)).getD 0
def OrRel (l : List Int) (v k : Value) : Prop := ∃ j : Nat, k = .int .i64 j ∧ j ≤ l.length ∧ ∀ i x, i < j → l[i]? = some x → x = 0
theorem or_here {l : List Int} {j : Nat} {x : Int} (hz : ∀ i y, i < j → l[i]? = some y → y = 0) (hx : l[j]? = some x) (h : x ≠ 0) : orI l = x := by
  induction l generalizing j with
  | nil => simp at hx
  | cons y r ih =>
    cases j with
    | zero => simp at hx; subst hx; simp [orI, h]
    | succ j =>
      have : y = 0 := hz 0 y (by omega) rfl
      subst this
      have := ih (j := j) (fun i y hi hy => hz (i + 1) y (by omega) (by simpa using hy)) (by simpa using hx)
      simpa [orI] using this
theorem or_none {l : List Int} (hz : ∀ i y, i < l.length → l[i]? = some y → y = 0) : orI l = 0 := by
  induction l with
  | nil => rfl
  | cons y r ih =>
    have : y = 0 := hz 0 y (by simp) rfl
    subst this
    have := ih (fun i y hi hy => hz (i + 1) y (by simpa using hi) (by simpa using hy))
    simpa [orI] using this
theorem cmp_or (g : Nat) (l : List Int) (hl : l.length ≤ 1000) (w : World) (hc : ∀ j x, l[j]? = some x → w.cell? ⟨g, j, none⟩ = some (.int .i64 x)) (cap : Nat) (hcap : l.length ≤ cap) (hm : cap ≤ maxLen) :
    Calls Tryz.prog 96 #[.slice (some ⟨g, 0, none⟩) l.length cap] w fun e w' => e = .returned (.int .i64 (orI l)) ∧ w' = w := by
  have HC := Lib.hid hc
  clear hc
  go_enter Tryz.func96, Tryz.ntmps96
  go_wp2
  go_loop [5, 8] (OrRel l) (fun _ k => l.length - (intOf k).toNat)
  case atStart => exact ⟨0, rfl, Nat.zero_le _, fun i x hi => by omega⟩
  case round =>
    obtain ⟨j, rfl, hj, hz⟩ := hrel
    have HZ := Lib.hid hz
    clear hz
    by_cases hlt : j < l.length
    · obtain ⟨x, hx⟩ : ∃ x, l[j]? = some x := ⟨l[j], List.getElem?_eq_getElem hlt⟩
      have c0 := HC.out j x hx
      have hlt' : (j : Int) < (l.length : Int) := by omega
      have HX := Lib.hid hx
      clear hx
      by_cases h0 : x = 0
      · subst h0
        go_wp2
        go_round
        case rel => exact ⟨j + 1, by congr 1, by omega, fun i y hi hy => by
          by_cases e : i = j
          · subst e; rw [HX.out] at hy; cases hy; rfl
          · exact HZ.out i y (by omega) hy⟩
        case measure => simp [intOf]; omega
      · have HO : Hid (orI l = x) := Lib.hid (or_here HZ.out HX.out h0)
        have hne : (x != 0) = true := by simpa using h0
        go_wp2
        go_ret
        refine ⟨?_, rfl⟩
        rw [HO.out]; rfl
    · have hge : (l.length : Int) ≤ (j : Int) := by omega
      have HO : Hid (orI l = 0) := Lib.hid (or_none (fun i y hi hy => HZ.out i y (by omega) hy))
      go_wp2
      go_ret
      refine ⟨?_, rfl⟩
      rw [HO.out]; rfl
theorem or_lt (a b : Tup) : decide (orI [cmpI a.src b.src, cmpI a.dst b.dst, cmpI a.proto b.proto, cmpI a.sport b.sport, cmpI a.dport b.dport] < 0) = ltT a b := by
  rw [Bool.eq_iff_iff]
  simp only [ltT, Bool.or_eq_true, Bool.and_eq_true, decide_eq_true_eq]
  have key : ∀ (x y : Int) (r : List Int), orI (cmpI x y :: r) < 0 ↔ (x < y ∨ (x = y ∧ orI r < 0)) := by
    intro x y r
    rcases cmp_cases x y with ⟨h, e⟩ | ⟨h, h2, e⟩ | ⟨h, h2, e⟩
    · rw [e]; simp [orI, h]
    · rw [e]; simp [orI]; simp at h; omega
    · rw [e]
      simp at h h2
      have : x = y := by omega
      subst this
      simp [orI]
  rw [key, key, key, key, key]
  simp [orI]
def LessPost (b : Bool) (w : World) (e : Ending) (w' : World) : Prop := e = .returned (.bool b) ∧ ∃ q os, w' = Sort.grow (w.drewN q) os
theorem grow3 (w : World) (x y z : Obj) : (((w.alloc x).alloc y).alloc z).drew = Sort.grow (w.drewN 1) (#[x] ++ #[y] ++ #[z]) := by
  rw [Sort.alloc_eq_grow, Sort.alloc_eq_grow, Sort.alloc_eq_grow, Sort.grow_grow, Sort.grow_grow]; rfl
theorem cmp_or5 (x1 x2 x3 x4 x5 : Int) (W : World) : Calls Tryz.prog 96 #[.slice (some ⟨W.heap.size, 0, none⟩) 5 5] (W.alloc (.cells #[.int .i64 x1, .int .i64 x2, .int .i64 x3, .int .i64 x4, .int .i64 x5] 3)).drew
    fun e w' => e = .returned (.int .i64 (orI [x1, x2, x3, x4, x5])) ∧ w' = (W.alloc (.cells #[.int .i64 x1, .int .i64 x2, .int .i64 x3, .int .i64 x4, .int .i64 x5] 3)).drew :=
  cmp_or W.heap.size [x1, x2, x3, x4, x5] (by simp) _ (fun j x hx => cell_of (C := #[.int .i64 x1, .int .i64 x2, .int .i64 x3, .int .i64 x4, .int .i64 x5]) (T := 3) (fz := (0, 0)) (w := (W.alloc (.cells #[.int .i64 x1, .int .i64 x2, .int .i64 x3, .int .i64 x4, .int .i64 x5] 3)).drew) (hp_alloc_new (w := W)) (by
    match j, hx with
    | 0, hx => simp at hx; subst hx; rfl
    | 1, hx => simp at hx; subst hx; rfl
    | 2, hx => simp at hx; subst hx; rfl
    | 3, hx => simp at hx; subst hx; rfl
    | 4, hx => simp at hx; subst hx; rfl
    | j + 5, hx => simp at hx)) 5 (by simp) (by unfold maxLen; omega)
theorem tup_less (a b : Tup) (w : World) : Calls Tryz.prog 63 #[.agg (encT a), .agg (encT b)] w (LessPost (ltT a b) w) := by
  have HL := Lib.hid (or_lt a b)
  have HP := grow3 w (.cells (encT a) 24) (.cells (encT b) 24)
  have HP' := Lib.hid HP
  clear HP
  go_enter Tryz.func63, Tryz.ntmps63
  go_wp2_with fail
  have hA : ((w.alloc (.cells (encT a) 24)).alloc (.cells (encT b) 24)).heap[w.heap.size]? = some (.cells (encT a) 24 (0, 0)) := (hp_alloc_old (by simp)).trans hp_alloc_new
  have hB : ((w.alloc (.cells (encT a) 24)).alloc (.cells (encT b) 24)).heap[w.heap.size + 1]? = some (.cells (encT b) 24 (0, 0)) := hp_alloc_at (by simp)
  generalize (w.alloc (.cells (encT a) 24)).alloc (.cells (encT b) 24) = W at *
  generalize w.heap.size + 1 = g2 at *
  generalize w.heap.size = g1 at *
  have a0 := cell_of (o := 0) hA rfl
  have a1 := cell_of (o := 1) hA rfl
  have a2 := cell_of (o := 2) hA rfl
  have a3 := cell_of (o := 3) hA rfl
  have a4 := cell_of (o := 4) hA rfl
  have b0 := cell_of (o := 0) hB rfl
  have b1 := cell_of (o := 1) hB rfl
  have b2 := cell_of (o := 2) hB rfl
  have b3 := cell_of (o := 3) hB rfl
  have b4 := cell_of (o := 4) hB rfl
  clear hA hB
  refine wp_region_still_tail 25 (by kernel_rfl) (by kernel_rfl) ?_
  simp only [List.take_succ_cons, List.take_zero, List.drop_succ_cons, List.drop_zero]
  change wpStill _ _ W.drew _ _ _
  repeat still_step
  still_call (cmp_u32 _ _ _)
  repeat still_step
  still_call (cmp_u32 _ _ _)
  repeat still_step
  still_call (cmp_int _ _ _)
  repeat still_step
  still_call (cmp_int _ _ _)
  repeat still_step
  still_call (cmp_int _ _ _)
  refine wpStill_nil ?_
  change wpList _ _ _ _ _ W.drew
  clear a0 a1 a2 a3 a4 b0 b1 b2 b3 b4
  have HO := Lib.hid (fun W' : World => cmp_or5 (cmpI a.src b.src) (cmpI a.dst b.dst) (cmpI a.proto b.proto) (cmpI a.sport b.sport) (cmpI a.dport b.dport) W')
  generalize orI [cmpI a.src b.src, cmpI a.dst b.dst, cmpI a.proto b.proto, cmpI a.sport b.sport, cmpI a.dport b.dport] = r at *
  generalize cmpI a.src b.src = x1 at *
  generalize cmpI a.dst b.dst = x2 at *
  generalize cmpI a.proto b.proto = x3 at *
  generalize cmpI a.sport b.sport = x4 at *
  generalize cmpI a.dport b.dport = x5 at *
  go_wp2_with fail
  refine (HO.out _).mono ?_
  rintro e w2 ⟨rfl, rfl⟩
  go_wp2_with fail
  go_ret
  exact ⟨by rw [← HL.out]; rfl, 1, _, HP'.out _⟩
def cfF (x y : Fl) : Int := if ltT x.t y.t = true then -1 else 1
theorem cfF_lt (x y : Fl) : ltOf cfF x y = ltT x.t y.t := by
  unfold ltOf cfF
  by_cases h : ltT x.t y.t = true <;> simp [h]
theorem swoF : SWO (ltOf cfF) where
  irrefl x := by rw [cfF_lt]; exact ltT_irrefl _
  trans x y z h1 h2 := by rw [cfF_lt] at *; exact ltT_trans h1 h2
  ntrans x y z h1 h2 := by
    rw [cfF_lt] at *
    cases h : ltT x.t z.t with
    | false => rfl
    | true =>
      cases hyx : ltT y.t x.t with
      | true => rw [ltT_trans hyx h] at h2; cases h2
      | false =>
        have e := ltT_total h1 hyx
        rw [e] at h; rw [h] at h2; cases h2
abbrev encL (f : Fl) : List Value := (encF f).toList
def leF (x y : Fl) : Bool := !ltT y.t x.t
def sortF (L : List Fl) : List Fl := L.mergeSort leF
theorem sortF_perm (L : List Fl) : (sortF L).Perm L := List.mergeSort_perm _ _
theorem sortF_row (L : List Fl) : (sortF L).Pairwise (fun x y => ltT y.t x.t = false) := by
  have := List.pairwise_mergeSort (le := leF) (fun a b c h1 h2 => by
    simp only [leF, Bool.not_eq_true'] at *
    have := swoF.ntrans c b a (by rw [cfF_lt]; exact h2) (by rw [cfF_lt]; exact h1)
    rwa [cfF_lt] at this) (fun a b => by
    simp only [leF, Bool.or_eq_true, Bool.not_eq_true']
    cases h : ltT b.t a.t with
    | false => left; rfl
    | true =>
      right
      cases h2 : ltT a.t b.t with
      | false => rfl
      | true => have := ltT_trans h h2; rw [ltT_irrefl] at this; cases this) L
  exact this.imp (fun h => by simpa [leF] using h)
theorem sortF_length (L : List Fl) : (sortF L).length = L.length := (sortF_perm L).length_eq
theorem sort_eq {L M : List Fl} (hp : M.Perm L) (hk : (L.map (·.t)).Nodup) (hs : M.Pairwise (fun x y => ltT y.t x.t = false)) : M = sortF L := by
  have hp2 : M.Perm (sortF L) := hp.trans (sortF_perm L).symm
  refine List.Perm.eq_of_pairwise (le := fun a b : Fl => ltT b.t a.t = false) (fun a b ha hb h1 h2 => ?_) hs (sortF_row L) hp2
  have ht : a.t = b.t := ltT_total h2 h1
  have ha' : a ∈ L := hp.mem_iff.1 ha
  have hb' : b ∈ L := (sortF_perm L).mem_iff.1 hb
  obtain ⟨i, hi, rfl⟩ := List.mem_iff_getElem.1 ha'
  obtain ⟨j, hj, rfl⟩ := List.mem_iff_getElem.1 hb'
  have : (L.map (·.t))[i]? = (L.map (·.t))[j]? := by simp [hi, hj, ht]
  have := (List.getElem?_inj (by simpa using hi) hk).1 this
  subst this; rfl
theorem sorted_list {d : Array Fl} (h : SortedIn (ltOf cfF) 0 d.size d) : d.toList.Pairwise (fun x y => ltT y.t x.t = false) := by
  rw [List.pairwise_iff_getElem]
  intro i j hi hj hij
  have := h i j (Nat.zero_le _) hij (by simpa using hj)
  rw [cfF_lt, getElem!_pos d i (by simpa using hi), getElem!_pos d j (by simpa using hj)] at this
  simpa using this
theorem flatF_enc (L : List Fl) : flatF L = (L.map encL).flatten := rfl
theorem all_cmp (x y : Fl) (W : World) : Calls Tryz.prog 62 #[.agg (encF x), .agg (encF y)] W fun e w' => e = .returned (.int .i64 (cfF x y)) ∧ ∃ q os', w' = grow (W.drewN q) os' := by
  have HP : Hid (∀ q os, ∃ q' os', grow (((W.alloc (.cells (encF x) 49)).alloc (.cells (encF y) 49)).drewN q) os = grow (W.drewN q') os') := Lib.hid fun q os => ⟨q, _, by rw [Sort.alloc_eq_grow, Sort.alloc_eq_grow, Sort.grow_grow]; show grow (grow (W.drewN q) _) os = _; rw [Sort.grow_grow]⟩
  have C1 := Lib.hid (fun w => tup_less x.t y.t w)
  have HC : Hid (cfF x y = if ltT x.t y.t = true then -1 else 1) := Lib.hid rfl
  generalize cfF x y = r at *
  generalize ltT x.t y.t = b at *
  go_enter Tryz.func62, Tryz.ntmps62
  cases b
  · obtain rfl : r = 1 := by simpa using HC.out
    go_wp2_with fail
    refine (C1.out _).mono ?_
    rintro e w1 ⟨rfl, q, os, hw⟩
    have HW := Lib.hid hw
    clear hw
    go_wp2_with fail
    go_ret
    exact ⟨rfl, by rw [HW.out]; exact HP.out q os⟩
  · obtain rfl : r = -1 := by simpa using HC.out
    go_wp2_with fail
    refine (C1.out _).mono ?_
    rintro e w1 ⟨rfl, q, os, hw⟩
    have HW := Lib.hid hw
    clear hw
    go_wp2_with fail
    go_ret
    exact ⟨rfl, by rw [HW.out]; exact HP.out q os⟩
theorem all_lays (blk off size : Nat) (w : World) : CmpLays Tryz.prog 62 #[] encL 8 cfF blk off size w :=
  fun _ _ _ _ x y => all_cmp x y _
theorem isAggF (w : World) : (isAgg 49).run Tryz.prog w = .ok true w := by kernel_rfl
theorem sizeOfF (w : World) : (Go.sizeOf 49).run Tryz.prog w = .ok 8 w := by kernel_rfl
theorem sort_call {w : World} {base g cap : Nat} {xs L : List Fl} (hrow : w.ownsRow base 49 8 (.slice (some ⟨g, 0, none⟩) xs.length cap) xs.length (flatF xs)) (hp : xs.Perm L) (hL : L.length ≤ 1000000) (hk : (L.map (·.t)).Nodup) :
    Calls Tryz.prog 94 #[.slice (some ⟨g, 0, none⟩) xs.length cap, .func (.func 62) #[] #[]] w fun e w' => e = .returned (.tuple #[]) ∧ w'.ownsRow base 49 8 (.slice (some ⟨g, 0, none⟩) xs.length cap) xs.length (flatF (sortF L)) ∧ w.grownBy w' (some g) := by
  rcases hrow.2 with ⟨e, _⟩ | ⟨g', cap', cur, e, hbase, hgb, r1, r2, r3, r4⟩
  · cases e
  cases e
  have hH : HoldsK encL 8 w g 0 xs.toArray := holdsK_row (fun _ => rfl) (by omega) hgb (by simpa [flatF] using r4)
  have hsz : xs.length < 4611686018427387904 := by have := hp.length_eq; omega
  have hcon := AnyQ.slices_SortFunc Tryz.sortF 8 isAggF sizeOfF encL (fun _ => rfl) (fun x v hv => by simp [encL] at hv; rcases hv with rfl | rfl | rfl | rfl | rfl | rfl | rfl | rfl <;> rfl) cfF swoF 62 #[] g 0 cap xs.toArray w
    (enters_of Tryz.func62 (by kernel_rfl) rfl) (all_lays g 0 xs.toArray.size w) hH (hp_lt hgb) (by simpa using hsz)
  refine (show Calls Tryz.prog 94 #[.slice (some ⟨g, 0, none⟩) xs.length cap, .func (.func 62) #[] #[]] w _ from hcon).mono fun e w' ⟨he, d', n, os, hpm, hsd, hw⟩ => ⟨he, ?_, ?_⟩
  · have hds : d'.size = xs.length := by have := hpm.1; simpa using this
    have hd : d'.toList = sortF L := by
      refine sort_eq ?_ hk (sorted_list (by rw [hds]; simpa using hsd))
      have h3 := hpm.2.2
      simp only [List.size_toArray, ← hds, Array.extract_size] at h3
      have : (xs.toArray.extract 0 d'.size).toList = xs := by rw [hds]; simp
      rw [this] at h3
      exact h3.trans hp
    rw [hw, flatF_enc, ← hd]
    exact ownsRow_sortK (fun _ => rfl) (by omega) hds hbase hgb r1 r2 r3
  · rw [hw]; exact grownBy_sortK d'
theorem sorted_callF (Bm bm : Nat) (L : List Fl) (w : World) (hL : L.length ≤ 1000000) (hBm : Bm < w.heap.size) (hm : w.cell? ⟨Bm, 0, none⟩ = some (.map (some bm))) (hM : MapR Tryz.prog 24 w bm (tabR vT vF L) L.length) (hk : (L.map (·.t)).Nodup) :
    Calls Tryz.prog 60 #[.func (.func 95) #[] #[.pointer (some ⟨Bm, 0, none⟩)], .func (.func 62) #[] #[]] w fun e w' => ∃ v, e = .returned v ∧ w'.ownsRow w.heap.size 49 8 v L.length (flatF (sortF L)) ∧ Below w.heap.size w w' := by
  have HC := Lib.hid (collect_call Bm bm L w hL hBm hm hM (nodup_vT hk))
  have HK := Lib.hid hk
  have HL := Lib.hid hL
  clear hM hm hk hBm hL
  go_enter Tryz.func60, Tryz.ntmps60
  go_wp2_with fail
  refine HC.out.mono ?_
  rintro e w1 ⟨v, xs, rfl, hp, hrow, hb⟩
  have hlen : xs.length = L.length := hp.length_eq
  have HB := Lib.hid hb
  rcases hrow.2 with ⟨rfl, hz⟩ | ⟨g, cap, cur, rfl, hbase, hgb, r1, r2, r3, r4⟩
  · have hL0 : L = [] := List.length_eq_zero_iff.1 (by omega)
    subst hL0
    have HR : Hid (w1.ownsRow w.heap.size 49 8 (.slice none 0 0) ([] : List Fl).length (flatF (sortF []))) := Lib.hid (by
      have e : flatF xs = flatF (sortF []) := by
        rw [List.length_eq_zero_iff.1 hz]; simp [sortF]
      rw [← e]
      have e2 : ([] : List Fl).length = xs.length := by simp [hz]
      rw [e2]; exact hrow)
    have cN := AnyF.slices_SortFunc_none (P := Tryz.prog) Tryz.sortF none 0 (.func (.func 62) #[] #[]) w1
    have CN : Hid (Calls Tryz.prog 94 #[.slice none 0 0, .func (.func 62) #[] #[]] w1 fun e w' => e = .returned (.tuple #[]) ∧ w' = w1) := Lib.hid cN
    clear hrow hp hb hlen hz cN
    go_wp2_with fail
    refine CN.out.mono ?_
    rintro e w2 ⟨rfl, rfl⟩
    go_wp2_with fail
    go_ret
    exact ⟨_, rfl, HR.out, HB.out⟩
  · have CS := Lib.hid (sort_call hrow hp HL.out HK.out)
    have HG := Lib.hid hbase
    have HLEN := Lib.hid hlen
    clear hrow hp hb hlen hgb r1 r2 r3 r4 hbase
    go_wp2_with fail
    refine CS.out.mono ?_
    rintro e w2 ⟨rfl, hr, hg⟩
    have HR := Lib.hid hr
    have HG2 := Lib.hid hg
    clear hr hg CS
    go_wp2_with fail
    go_ret
    exact ⟨_, rfl, by rw [← HLEN.out]; exact HR.out, HB.out.grown HG2.out HB.out.size (fun j e => by cases e; exact HG.out)⟩
theorem fall {w : World} {bt : Nat} {most idle : Int} {L : List Fl} {F : List Nat} (h : FA bt most idle L w F) :
    Calls Tryz.prog 27 #[.pointer (some ⟨bt, 0, none⟩)] w (Gives w F (fun v => Star [FA bt most idle L, RowA 49 8 v (sortF L).length (flatF (sortF L))])) := by
  obtain ⟨bm, bk, bq, hok, h⟩ := h
  have HB := Lib.hid (In.start FR.framed h)
  have hc0 : w.cell? ⟨bt, 2, none⟩ = some (.map (some bm)) := cell_of (HB.out.block 0 rfl) rfl
  have hlenL : L.length ≤ 1000000 := by have := hok.room; have := hok.most; omega
  have HSort : Hid (Calls Tryz.prog 60 #[.func (.func 95) #[] #[.pointer (some ⟨w.heap.size, 0, none⟩)], .func (.func 62) #[] #[]] (w.alloc (.cells #[.map (some bm)] 88)) (Gives w F (fun v => Star [FA bt most idle L, RowA 49 8 v (sortF L).length (flatF (sortF L))]))) := by
    have HB2 := HB.out.alloc (.cells #[.map (some bm)] 88)
    obtain ⟨Fm, hbm⟩ := HB2.get 1 rfl
    refine Lib.hid ((sorted_callF w.heap.size bm L _ hlenL (by simp) (cell_of hp_alloc_new rfl) hbm.2 hok.keys).mono fun e w' ⟨v, he, hrow, hbel⟩ => ?_)
    rw [← sortF_length L] at hrow
    obtain ⟨hr1, hr2⟩ := row_new hrow
    have h1 := In.below HB2 hbel (RowA.framed _ _ _ _ _) hr1 hr2
    have h2 := (h1.perm (List.perm_append_comm (l₁ := [_]) (l₂ := [_, _, _, _])))
    have h3 := In.join (A1 := FR bt most idle bm bk bq L) (R := [_]) h2
    have h4 := h3.imp (A' := FA bt most idle L) 0 rfl (FA.framed _ _ _ _) (fun F hF => ⟨bm, bk, bq, hok, hF⟩)
    rw [he]
    exact h4.gives v _ (fun F hs => hs)
  clear h hok hlenL
  go_enter Tryz.func27, Tryz.ntmps27
  go_wp2_with fail
  refine (values_call _ _).mono ?_
  rintro e w1 ⟨rfl, rfl⟩
  go_wp2_with fail
  refine HSort.out.mono ?_
  rintro e w1 ⟨v, rfl, hg⟩
  have HG := Lib.hid hg
  clear hg HSort hc0
  go_wp2_with fail
  go_ret
  exact ⟨v, rfl, HG.out⟩
section
variable {F0 : List Nat} {w0 w : World} {R : List Asrt} {bt : Nat} {most idle : Int} {L : List Fl}
theorem o_fall (h : In F0 w0 w R) (i : Nat) (hA : R[i]? = some (FA bt most idle L)) :
    Calls Tryz.prog 27 #[.pointer (some ⟨bt, 0, none⟩)] w fun e w' => ∃ v, e = .returned v ∧ In F0 w0 w' (RowA 49 8 v (sortF L).length (flatF (sortF L)) :: R.set i (FA bt most idle L)) :=
  own_two h i hA (FA.framed _ _ _ _) (fun v => RowA.framed _ _ _ _ _) fun F hF => fall hF
end
end Go.Proofs.YtgapbecddgfkmaaGreat
