/- Rows.PathMovesSaid -/
import Derived.Test.YtgapbecddgfkmaaGreatMV8
import Derived.Test.YtgapbecddgfkmaaGreatMV12
import Derived.Test.YtgapbecddgfkmaaGreatMV13
import Derived.Test.YtgapbecddgfkmaaGreatMV16
import Derived.Test.YtgapbecddgfkmaaGreatMV17
namespace Go.Proofs.YtgapbecddgfkmaaGreat
open Go.RowKit
set_option linter.unusedVariables false
set_option maxHeartbeats 64000000
set_option maxRecDepth 100000
theorem zT0_wf : WfT zT0 := ⟨by decide, by decide, by decide, by decide, by decide, by decide, by decide, by decide, by decide, by decide⟩
theorem within_wf (b : List UInt8) : WfT (withinD b).1 := by
  have hz : ∀ c, WfT (withinOf (zH, [], c)).1 := fun c => by
    unfold withinOf
    dsimp only
    split
    · exact zT0_wf
    · split
      · exact zT0_wf
      · split
        · rename_i h; exact absurd h (by decide)
        · split
          · rename_i h; exact absurd h (by decide)
          · exact zT0_wf
  have h1 := p32_lt b 12
  have h2 := p32_lt b 16
  unfold withinD parseD
  split
  · exact hz _
  split
  · exact hz _
  split
  · exact hz _
  split
  · exact hz _
  split
  · exact hz _
  split
  · exact hz _
  split
  · exact hz _
  generalize (b.take (p16 b 2)).drop (4 * (byN b 0 % 16)) = rest
  have h3 := p16_lt rest 0
  have h4 := p16_lt rest 2
  unfold withinOf
  dsimp only
  split
  · exact zT0_wf
  split
  · exact zT0_wf
  have hs : (readH b).src = (p32 b 12 : Nat) := rfl
  have hd : (readH b).dst = (p32 b 16 : Nat) := rfl
  split
  · rename_i hp
    split
    · rw [hs, hd, hp]
      constructor <;> dsimp only <;> omega
    · exact zT0_wf
  split
  · rename_i hp
    split
    · rw [hs, hd, hp]
      constructor <;> dsimp only <;> omega
    · exact zT0_wf
  · exact zT0_wf
theorem find_mem {l : List Bk} {id : Int} {b : Bk} (h : findBk l id = some b) : b ∈ l := List.mem_of_find?_eq_some h
theorem pick_mem {c : ChD} {k : Tup} {b : Bk} (h : pickCh c k = some b) : b ∈ c.l := by
  unfold pickCh at h
  split at h
  · exact find_mem h
  · cases h
theorem choice_eq (L : List Fl) (ch : ChD) (k : Tup) : choiceD L ch k = if (atF L k).isSome = true ∧ (findBk ch.l ((atF L k).getD zF).bk).isSome = true then findBk ch.l ((atF L k).getD zF).bk else pickCh ch k := by
  unfold choiceD
  cases atF L k with
  | none => simp
  | some f =>
    simp only [Option.getD_some, Option.isSome_some, true_and]
    cases findBk ch.l f.bk with
    | none => simp
    | some b => simp
theorem choice_mem {L : List Fl} {ch : ChD} {k : Tup} {b : Bk} (h : choiceD L ch k = some b) : b ∈ ch.l := by
  rw [choice_eq] at h
  split at h
  · exact find_mem h
  · exact pick_mem h
def pktOf (most : Int) (L : List Fl) (k : Tup) (why : Int) (co : Option Bk) (wf : Bk → List UInt8 × Int) (gen now : Int) (kn : Bool) (was : Int) (en : Bool) : PlanD × List Fl :=
  if why ≠ 0 then (dropP why, L)
  else match co with
    | none => (dropP 10, L)
    | some be =>
      if (wf be).2 ≠ 0 then (dropP (wf be).2, L)
      else (⟨2, 0, be.id, (wf be).1, (keepD most L ⟨k, be.id, gen, now⟩ kn was en).1⟩, (keepD most L ⟨k, be.id, gen, now⟩ kn was en).2)
theorem pkt_of {self mtu most : Int} {L : List Fl} {c : ChD} {gen now : Int} {b : List UInt8} (h : 0 ≤ now ∧ now ≤ 1099511627776) :
    pktD self mtu most L c gen now b = pktOf most L (withinD b).1 (withinD b).2.2.2 (choiceD L c (withinD b).1) (fun be => wrapD b self be.addr mtu) gen now (atF L (withinD b).1).isSome (wasD L (withinD b).1) (endsD (withinD b).1 b) := by
  unfold pktD pktOf
  rw [if_pos h]
  cases choiceD L c (withinD b).1 <;> rfl
abbrev plC (v r bk : Int) (vp vr : Value) : Array Value := #[.int .i64 v, .int .i64 r, .int .i64 bk, vp, vr]
abbrev planV (p : PlanD) (vp vr : Value) : Value := .agg (plC p.verdict p.reason p.bk vp vr)
theorem plC_all (v r bk : Int) (a1 a2 : Option Addr) (n1 n2 c1 c2 : Nat) : (plC v r bk (.slice a1 n1 c1) (.slice a2 n2 c2)).all (·.oneCell') = true := by simp [Value.oneCell']
section
variable {F0 : List Nat} {w0 w : World} {R : List Asrt}
theorem Bytes.moreL {A : Option Addr} {n : Nat} {b : List UInt8} (hb : Bytes F0 w0 R A n b) : ∀ X : List Asrt, Bytes F0 w0 (X ++ R) A n b
  | [] => hb
  | Y :: X => (Bytes.moreL hb X).more Y
theorem pa_drop (why : Int) (w : World) : Calls Tryz.prog 40 #[.int .i64 why] w fun e w' => e = .returned (planV (dropP why) (.slice none 0 0) (.slice none 0 0)) ∧ w' = w.alloc (.cells (plC 1 why 0 (.slice none 0 0) (.slice none 0 0)) 43) := by
  go_enter Tryz.func40, Tryz.ntmps40
  go_wp2_with fail
  exact bodyPost_ret (results_cell_row Tryz.results40 _ _ w.heap.size 43 _ (0, 0) _ rfl (heap_alloc_new _ _) Tryz.underlying43 rfl (by kernel_rfl)) rfl ⟨rfl, rfl⟩
end
end Go.Proofs.YtgapbecddgfkmaaGreat
