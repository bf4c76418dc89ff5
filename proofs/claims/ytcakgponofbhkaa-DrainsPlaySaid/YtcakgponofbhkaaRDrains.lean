/- The document's row of backends that drain: the calls. -/
import Derived.Test.YtcakgponofbhkaaRDrainsPlain
import Derived.Test.YtcakgponofbhkaaSel
import Derived.Laws.StructEq
import Derived.Deep.RegionHeld3
namespace Go.Proofs.Ytcakgponofbhkaa
open Go.RowKit
set_option linter.unusedVariables false
set_option maxRecDepth 100000

def RDr (br : Nat) (v : Value) (L : List BT) : List Asrt := [Cells br #[v] 43, RowA 28 2 v L.length (flat L)]
theorem RDr.framed {br : Nat} {v : Value} {L : List BT} : ∀ A ∈ RDr br v L, Framed A := by
  intro A hA
  simp only [RDr, List.mem_cons, List.not_mem_nil, or_false] at hA
  rcases hA with rfl | rfl
  · exact Cells.framed _ _ _
  · exact RowA.framed _ _ _ _ _
def RDA (br : Nat) (L : List BT) : Asrt := fun w F => ∃ v, Star (RDr br v L) w F
theorem RDA.framed (br : Nat) (L : List BT) : Framed (RDA br L) := by
  refine ⟨?_, ?_⟩
  · rintro w w' F ⟨v, h⟩ hk; exact ⟨v, (Framed.star RDr.framed).keep h hk⟩
  · rintro w F ⟨v, h⟩; exact (Framed.star RDr.framed).lt h

/-! ### Until -/
def RUntilRel (br : Nat) (L : List BT) (b : Int) (v : Value) (w : World) (F : List Nat) (k : Value) (wr : World) : Prop :=
  ∃ j : Nat, k = .int .i64 j ∧ j ≤ L.length ∧ atD (L.take j) b = none ∧ In F w wr (RDr br v L)
theorem at_take {L : List BT} {j : Nat} {x : BT} {b : Int} (hx : L[j]? = some x) (hno : atD (L.take j) b = none) : (x.1 = b → atD L b = some x.2) ∧ (x.1 ≠ b → atD (L.take (j + 1)) b = none) := by
  have hn := atD_none.1 hno
  constructor
  · intro e
    have hL : L.take j ++ x :: L.drop (j + 1) = L := by
      obtain ⟨hj, rfl⟩ := List.getElem?_eq_some_iff.1 hx
      rw [← List.drop_eq_getElem_cons hj, List.take_append_drop]
    rw [show atD L b = atD (L.take j ++ x :: L.drop (j + 1)) b by rw [hL]]
    unfold atD
    rw [List.find?_append]
    have : (L.take j).find? (fun x => decide (x.1 = b)) = none := by
      rw [List.find?_eq_none]; intro y hy; simpa using hn y hy
    rw [this, List.find?_cons]
    simp [e]
  · intro e
    rw [atD_none]
    intro y hy
    rw [List.take_add_one, hx] at hy
    rcases List.mem_append.1 hy with hy | hy
    · exact hn y hy
    · simp at hy; subst hy; exact e

set_option maxHeartbeats 2000000 in
theorem rduntil {w : World} {br : Nat} {L : List BT} {F : List Nat} (h : RDA br L w F) (hL : L.length ≤ 4096) (b : Int) :
    Calls Try.prog 25 #[.pointer (some ⟨br, 0, none⟩), .int .i64 b] w (GV (.tuple #[.int .i64 ((atD L b).getD 0), .bool (atD L b).isSome]) (RDA br L) w F) := by
  obtain ⟨v, h⟩ := h
  have HB := Lib.hid (In.start RDr.framed h)
  obtain ⟨Fr, hr⟩ := HB.out.get 1 rfl
  obtain ⟨a, cap, rfl, -, -, -⟩ := hr.shape
  have c0 : w.cell? ⟨br, 0, none⟩ = some (.slice a L.length cap) := cell_of (HB.out.block 0 rfl) rfl
  have HS : Hid (RUntilRel br L b (.slice a L.length cap) w F (.int .i64 0) w) := Lib.hid ⟨0, rfl, Nat.zero_le _, rfl, HB.out⟩
  clear h hr
  go_enter Try.func25, Try.ntmps25
  go_wp2_with fail
  go_loopw [13] (RUntilRel br L b (.slice a L.length cap) w F) (fun k _ => L.length - (intOf k).toNat)
  case atStart => exact HS.out
  case round =>
    obtain ⟨j, rfl, hj, hno, ho⟩ := hrel
    clear HS
    by_cases hlt : j < L.length
    · obtain ⟨x, hx⟩ : ∃ x, L[j]? = some x := ⟨L[j], List.getElem?_eq_getElem hlt⟩
      obtain ⟨Fr, hr⟩ := ho.get 1 rfl
      obtain ⟨ba, rfl, r0⟩ := hr.at.2 (j * 2) _ (flat_at hx).1
      obtain ⟨ba', e2, r1⟩ := hr.at.2 (j * 2 + 1) _ (flat_at hx).2
      cases e2
      have hlt' : (j : Int) < (L.length : Int) := by omega
      obtain ⟨h1, h2⟩ := at_take (b := b) hx hno
      by_cases hb : x.1 = b
      · have hb' : (x.1 == b) = true := by simpa using hb
        have HG : Hid (GV (.tuple #[.int .i64 ((atD L b).getD 0), .bool (atD L b).isSome]) (RDA br L) w F (.returned (.tuple #[.int .i64 x.2, .bool true])) (wr.alloc (.cells #[.int .i64 x.1, .int .i64 x.2] 28))) :=
          Lib.hid (by rw [h1 hb]; exact GV.mk (ho.alloc _) (fun F' hs => ⟨_, hs⟩))
        clear h1 h2 ho hr hno hx hb hlt c0
        go_wp2_with fail
        go_ret2
        exact HG.out
      · have hb' : (x.1 == b) = false := by simpa using hb
        have HR : Hid (RUntilRel br L b (.slice (some ⟨ba, 0, none⟩) L.length cap) w F (.int .i64 (j + 1)) (wr.alloc (.cells #[.int .i64 x.1, .int .i64 x.2] 28))) :=
          Lib.hid ⟨j + 1, by congr 1, by omega, h2 hb, ho.alloc _⟩
        clear h1 h2 ho hr hno hx hb hlt c0
        go_wp2_with fail
        go_roundw
        case rel => exact HR.out
        case measure => simp [intOf]; omega
    · have hge : (L.length : Int) ≤ (j : Int) := by omega
      have HG : Hid (GV (.tuple #[.int .i64 ((atD L b).getD 0), .bool (atD L b).isSome]) (RDA br L) w F (.returned (.tuple #[.int .i64 0, .bool false])) wr) :=
        Lib.hid (by rw [List.take_of_length_le (by omega)] at hno; rw [hno]; exact GV.mk ho (fun F' hs => ⟨_, hs⟩))
      clear ho hno hlt c0
      go_wp2_with fail
      go_ret2
      exact HG.out

/-! ### Clear -/
def RClearRel (br : Nat) (L : List BT) (b : Int) (v : Value) (w : World) (F : List Nat) (u k : Value) (wr : World) : Prop :=
  ∃ j : Nat, k = .int .i64 j ∧ j ≤ L.length ∧ In F w wr (RowA 28 2 u (delD b (L.take j)).length (flat (delD b (L.take j))) :: RDr br v L)
theorem del_take {L : List BT} {j : Nat} {x : BT} (b : Int) (hx : L[j]? = some x) : delD b (L.take (j + 1)) = if x.1 = b then delD b (L.take j) else delD b (L.take j) ++ [x] := by
  rw [List.take_add_one, hx]
  unfold delD
  rw [List.filter_append]
  split <;> rename_i e <;> simp [e]

set_option maxHeartbeats 4000000 in
theorem rdclear {w : World} {br : Nat} {L : List BT} {F : List Nat} (h : RDA br L w F) (hL : L.length ≤ 4096) (hk : KeysD L) (b : Int) :
    Calls Try.prog 22 #[.pointer (some ⟨br, 0, none⟩), .int .i64 b] w (GV (.bool (atD L b).isSome) (RDA br (delD b L)) w F) := by
  obtain ⟨v, h⟩ := h
  have HB := Lib.hid (In.start RDr.framed h)
  obtain ⟨Fr, hr⟩ := HB.out.get 1 rfl
  obtain ⟨a, cap, rfl, -, -, -⟩ := hr.shape
  have c0 : w.cell? ⟨br, 0, none⟩ = some (.slice a L.length cap) := cell_of (HB.out.block 0 rfl) rfl
  have Hlt := Lib.hid (delD_lt hk b)
  have HS : Hid (RClearRel br L b (.slice a L.length cap) w F (.slice none 0 0) (.int .i64 0) w) := Lib.hid ⟨0, rfl, Nat.zero_le _, HB.out.rownil _ _⟩
  clear h hr hk
  go_enter Try.func22, Try.ntmps22
  go_wp2_with fail
  go_loopw [5, 14] (RClearRel br L b (.slice a L.length cap) w F) (fun _ k _ => L.length - (intOf k).toNat)
  case atStart => exact HS.out
  case round =>
    obtain ⟨j, rfl, hj, ho⟩ := hrel
    clear HS
    by_cases hlt : j < L.length
    · obtain ⟨x, hx⟩ : ∃ x, L[j]? = some x := ⟨L[j], List.getElem?_eq_getElem hlt⟩
      obtain ⟨Fr, hr⟩ := ho.get 2 rfl
      obtain ⟨ba, rfl, r0⟩ := hr.at.2 (j * 2) _ (flat_at hx).1
      obtain ⟨ba', e2, r1⟩ := hr.at.2 (j * 2 + 1) _ (flat_at hx).2
      cases e2
      have hlt' : (j : Int) < (L.length : Int) := by omega
      have hdt := del_take b hx
      by_cases hb : x.1 = b
      · have hb' : (x.1 != b) = false := by simpa using hb
        rw [if_pos hb] at hdt
        have HR : Hid (RClearRel br L b (.slice (some ⟨ba, 0, none⟩) L.length cap) w F u5 (.int .i64 (j + 1)) (wr.alloc (.cells #[.int .i64 x.1, .int .i64 x.2] 28))) :=
          Lib.hid ⟨j + 1, by congr 1, by omega, by rw [hdt]; exact ho.alloc _⟩
        clear ho hr hx hb hlt c0 hdt
        go_wp2_with fail
        go_roundw
        case rel => exact HR.out
        case measure => simp [intOf]; omega
      · have hb' : (x.1 != b) = true := by simpa using hb
        rw [if_neg hb] at hdt
        have hdl : (delD b (L.take j)).length ≤ 4096 := by
          have : (delD b (L.take j)).length ≤ (L.take j).length := List.filter_sublist.length_le
          rw [List.length_take] at this; omega
        have Hfl : Hid (flat (delD b (L.take j)) ++ [.int .i64 x.1, .int .i64 x.2] = flat (delD b (L.take (j + 1))) ∧ (delD b (L.take j)).length + 1 = (delD b (L.take (j + 1))).length) := Lib.hid (by rw [hdt, flat_snoc]; simp)
        have HO := Lib.hid ho
        clear ho hr hx hb hlt c0 hdt
        go_wp2_with (at_builtin; refine append_elem' ((HO.out.alloc _).alloc _) 0 rfl rfl (.tmp 22) (.tmp 24) 22 rfl Try.underlying22 infoDrain (by decide) (by decide) rfl _ #[.int .i64 x.1, .int .i64 x.2] rfl (hp_alloc_at (by simp)) rfl (fun u hu => by simp at hu; rcases hu with rfl | rfl <;> rfl) (by omega) ?_)
        intro v' w3 ho
        have HR : Hid (RClearRel br L b (.slice (some ⟨ba, 0, none⟩) L.length cap) w F v' (.int .i64 (j + 1)) w3) := by
          refine Lib.hid ⟨j + 1, by congr 1, by omega, ?_⟩
          rw [← Hfl.out.1, ← Hfl.out.2]
          exact ho
        clear ho HO
        go_wp2_with fail
        go_roundw
        case rel => exact HR.out
        case measure => simp [intOf]; omega
    · have hge : (L.length : Int) ≤ (j : Int) := by omega
      have hjl : j = L.length := by omega
      subst hjl
      rw [List.take_length] at ho
      obtain ⟨Fr, hr⟩ := ho.get 0 rfl
      obtain ⟨a2, cap2, rfl, -, -, -⟩ := hr.shape
      have c1 : wr.cell? ⟨br, 0, none⟩ = some (.slice a L.length cap) := cell_of (ho.block 1 rfl) rfl
      have f1 : wr.frozen? ⟨br, 0, none⟩ = false := free_of (ho.block 1 rfl)
      have HG : Hid (GV (.bool (atD L b).isSome) (RDA br (delD b L)) w F (.returned (.bool (decide ((delD b L).length < L.length)))) (wr.setCell ⟨br, 0, none⟩ (.slice a2 (delD b L).length cap2))) := by
        rw [Hlt.out]
        have h2 := ho.put 1 rfl 0 (.slice a2 (delD b L).length cap2)
        have h3 := (h2.perm (List.Perm.trans (List.reverse_perm _).symm (List.Perm.refl _))).drop
        exact Lib.hid (GV.mk h3 (fun F' hs => ⟨_, hs⟩))
      clear ho hr hlt c0 Hlt
      go_wp2_with fail
      go_ret
      exact HG.out

section
variable {F0 : List Nat} {w0 w : World} {R : List Asrt} {br : Nat} {L : List BT}
theorem o_rduntil (h : In F0 w0 w R) (i : Nat) (hA : R[i]? = some (RDA br L)) (hL : L.length ≤ 4096) (b : Int) :
    Calls Try.prog 25 #[.pointer (some ⟨br, 0, none⟩), .int .i64 b] w fun e w' => e = .returned (.tuple #[.int .i64 ((atD L b).getD 0), .bool (atD L b).isSome]) ∧ In F0 w0 w' (R.set i (RDA br L)) :=
  own_val h i hA (RDA.framed _ _) fun F hF => rduntil hF hL b
theorem o_rdclear (h : In F0 w0 w R) (i : Nat) (hA : R[i]? = some (RDA br L)) (hL : L.length ≤ 4096) (hk : KeysD L) (b : Int) :
    Calls Try.prog 22 #[.pointer (some ⟨br, 0, none⟩), .int .i64 b] w fun e w' => e = .returned (.bool (atD L b).isSome) ∧ In F0 w0 w' (R.set i (RDA br (delD b L))) :=
  own_val h i hA (RDA.framed _ _) fun F hF => rdclear hF hL hk b
end

end Go.Proofs.Ytcakgponofbhkaa
