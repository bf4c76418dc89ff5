/- The flows of a table's map, one behind the other: maps.Values, slices.Collect. -/
import Derived.Test.YtcakgponofbhkaaTabIter
import Derived.Test.YtcakgponofbhkaaFlowTab
import Derived.RangeFuncNested
import Derived.RangeFuncBound
import Derived.RangeFuncCalls
import Derived.RangeFuncLeaves
import Derived.Shelf.Abstract
import Derived.Shelf.RegionOpen
import Derived.OwnWalkIn
import Derived.TacticsInMore
import Derived.LoopNIn
import Derived.LoopIn
import Derived.Maps.AppendAt
namespace Go.Proofs.Ytcakgponofbhkaa
open Go.RowKit Go.Shelf
open Go.Maps (Keyed)
set_option linter.unusedVariables false
set_option maxRecDepth 100000
attribute [local go_sem] Oper.semAt_some

theorem values_call (mb : Option Nat) (w : World) : Calls Try.prog 65 #[.map mb] w fun e w' => e = .returned (.func (.func 85) #[] #[.pointer (some ⟨w.heap.size, 0, none⟩)]) ∧ w' = w.alloc (.cells #[.map mb] 102) := by
  go_enter Try.func65, Try.ntmps65
  go_wp2_with fail
  go_ret
  exact ⟨rfl, rfl⟩

set_option maxHeartbeats 2000000 in
theorem values_stops (F : Fence) (n : Nat) (hf : F.fn 85) (hro : F.round = none) (hn : 1 ≤ n) (Bm bm : Nat) (L : List Fl) (w : World) (hBm : Bm < w.heap.size) (hm : w.cell? ⟨Bm, 0, none⟩ = some (.map (some bm)))
    (hM : MapR Try.prog 57 w bm (tabR vT vF L) L.length) (hk : (L.map vT).Nodup) :
    SeqStopsK F n Try.prog 85 #[.pointer (some ⟨Bm, 0, none⟩)] (fun f : Fl => #[.agg (encF f)]) KeepsWalks (fun xs => xs.Perm L) (fun _ => True) L.length w := fun l J Jx W hW hJ hJx hY h0 => by
  have hm' : W.cell? ⟨Bm, 0, none⟩ = some (.map (some bm)) := (hW.cell (p := ⟨Bm, 0, none⟩) hBm).trans hm
  have hM' : MapR Try.prog 57 W bm (tabR vT vF L) L.length := hM.keep (hW.block _ hM.lt)
  obtain ⟨o, hrun, hit⟩ := iter_range hM' hk Try.underlying102
  have HJ0 : Hid (J [] (W.alloc o)) := Lib.hid (hJ [] W _ none h0 (World.grownBy_alloc W o none) (fun r e => by cases e))
  have HI0 := Lib.hid hit
  have HY := Lib.hid hY
  have HJ := Lib.hid hJ
  clear hY hJ hJx h0 hM hM' hm hit hW hk
  refine callsIn_of_wp Try.func85 rfl hf ?_ hro
  simp only [Try.ntmps85, List.size_toArray, List.length_cons, List.length_nil, Nat.reduceAdd, Nat.reduceSub, Array.replicate_succ, Array.replicate_zero, List.push_toArray, List.append_toArray, List.nil_append, List.cons_append]
  gi_wp2
  clear hrun hm'
  gi_loopw [4] (fun _ wr => ∃ done, IterW Try.prog 57 vT vF bm W.heap.size L done wr ∧ J done wr) (fun _ wr => wr.rangeLeft bm W.heap.size)
  case atStart => exact ⟨[], HI0.out, HJ0.out⟩
  case round =>
    obtain ⟨done, hi, hj⟩ := hrel
    clear HI0 HJ0
    have HLI := Lib.hid hi
    rcases iter_next hi 0 with ⟨hp, hrun⟩ | ⟨y, hy, hyd, w', hrun, hi2, hg, hsz, hlt, hen⟩
    · have HR : Hid (∃ xs : List Fl, xs.Perm L ∧ J xs wr) := Lib.hid ⟨done, hp, hj⟩
      clear hi hj hp
      gi_wp2
      go_end0
      exact ⟨⟨_, rfl⟩, .inl HR.out⟩
    · have hlen : done.length < L.length := by
        have := (List.Nodup.length_le_of_subset hi2.once hi2.sub)
        simp at this; omega
      have hj2 : J done w' := HJ.out done wr w' (some W.heap.size) hj hg (fun r e => by cases e; exact ⟨Nat.le_refl _, hi.walk⟩)
      have hj3 : J done (w'.alloc (.cells (encF y) 59)) := HJ.out done w' _ none hj2 (World.grownBy_alloc _ _ none) (fun r e => by cases e)
      obtain ⟨fn, tmps, assign, body, hyd2, hR⟩ := HY.out done y _ hj3 hlen
      have HI2 := Lib.hid ((hi2.of_walks (KeepsWalks.alloc w' (.cells (encF y) 59))))
      have HLT := Lib.hid hlt
      have HR := Lib.hid hR
      clear hi hj hj2 hj3 hi2 hg hsz hlt hR hyd hy hlen
      gi_wp2
      refine HR.out.mono ?_
      rintro e W3 (⟨rfl, hJ3, hk3⟩ | ⟨rfl, hJx3⟩)
      · have HN := Lib.hid (HI2.out.1.of_walks hk3)
        have HJ3 := Lib.hid hJ3
        clear hJ3 hk3
        gi_wp2
        go_roundw
        case rel => exact ⟨_, HN.out.1, HJ3.out⟩
        case measure => rw [HN.out.2, HI2.out.2]; exact HLT.out
      · have HX := Lib.hid hJx3
        clear hJx3
        gi_wp2
        refine bodyPost_ret (results_none rfl _ _ _) rfl ?_
        exact ⟨⟨_, rfl⟩, .inr ⟨_, trivial, HX.out⟩⟩
end Go.Proofs.Ytcakgponofbhkaa
