/- The document's queue: a row of keys and times. -/
import Derived.Test.YtijkfcapooldiaaView
import Derived.Test.YtijkfcapooldiaaDueSep
import Derived.Test.YtijkfcapooldiaaDuePlain2
import Derived.Deep.RegionHeld3
import Derived.Deep.RegionLaw
import Derived.Deep.DeepCutAuto
import Derived.Deep.CutBlock
namespace Go.Proofs.Ytijkfcapooldiaa
open Go.RowKit
set_option linter.unusedVariables false
set_option maxRecDepth 100000

theorem infoEntry : (Try.prog.info? 54).map (fun i => (i.zero.map (fun z => z.cells.size), i.size, i.bytes)) = some (some 2, 2, 24) := by kernel_rfl
/-- The cells of such a row. -/
def flatQ (L : List KT) : List Value := L.flatMap (fun x => [.string x.1, .int .i64 x.2])
theorem flatQ_length (L : List KT) : (flatQ L).length = L.length * 2 := by
  induction L with
  | nil => rfl
  | cons x r ih => simp [flatQ] at *; omega
theorem flatQ_snoc (L : List KT) (x : KT) : flatQ L ++ [.string x.1, .int .i64 x.2] = flatQ (L ++ [x]) := by simp [flatQ]
theorem flatQ_at {L : List KT} {j : Nat} {x : KT} (h : L[j]? = some x) : (flatQ L)[j * 2]? = some (.string x.1) ∧ (flatQ L)[j * 2 + 1]? = some (.int .i64 x.2) := by
  induction L generalizing j with
  | nil => simp at h
  | cons y r ih =>
    have e : flatQ (y :: r) = .string y.1 :: .int .i64 y.2 :: flatQ r := rfl
    cases j with
    | zero =>
      simp at h; subst h
      rw [e]; exact ⟨rfl, rfl⟩
    | succ j =>
      simp at h
      have := ih h
      rw [e, show (j + 1) * 2 = j * 2 + 1 + 1 by omega, List.getElem?_cons_succ, List.getElem?_cons_succ, show j * 2 + 1 + 1 + 1 = (j * 2 + 1) + 1 + 1 by omega, List.getElem?_cons_succ, List.getElem?_cons_succ]
      exact this
theorem flatQ_take (L : List KT) (j : Nat) : (flatQ L).take (j * 2) = flatQ (L.take j) := by
  induction L generalizing j with
  | nil => simp [flatQ]
  | cons x r ih =>
    cases j with
    | zero => simp [flatQ]
    | succ j =>
      have e : flatQ (x :: r) = .string x.1 :: .int .i64 x.2 :: flatQ r := rfl
      rw [e, show (j + 1) * 2 = j * 2 + 1 + 1 by omega, List.take_succ_cons, List.take_succ_cons, ih, List.take_succ_cons]; rfl
theorem flatQ_drop (L : List KT) (j : Nat) : (flatQ L).drop (j * 2) = flatQ (L.drop j) := by
  induction L generalizing j with
  | nil => simp [flatQ]
  | cons x r ih =>
    cases j with
    | zero => simp [flatQ]
    | succ j =>
      have e : flatQ (x :: r) = .string x.1 :: .int .i64 x.2 :: flatQ r := rfl
      rw [e, show (j + 1) * 2 = j * 2 + 1 + 1 by omega, List.drop_succ_cons, List.drop_succ_cons, ih, List.drop_succ_cons]
theorem flatQ_one (L : List KT) : ∀ u ∈ flatQ L, u.oneCell' = true := by
  intro u hu
  simp only [flatQ, List.mem_flatMap] at hu
  obtain ⟨x, _, hx⟩ := hu
  simp at hx
  rcases hx with rfl | rfl <;> rfl
theorem flatQ_app3 (L : List KT) (x : KT) (j : Nat) (hj : j ≤ L.length) : [] ++ flatQ (L.take j) ++ #[Value.string x.1, .int .i64 x.2].toList ++ flatQ (L.drop j) = flatQ (L.take j ++ x :: L.drop j) ∧ 0 + j + 1 + (L.length - j) = (L.take j ++ x :: L.drop j).length := by
  constructor
  · simp [flatQ]
  · simp [List.length_take, List.length_drop]; omega

def RQr (br : Nat) (v : Value) (L : List KT) : List Asrt := [Cells br #[v] 50, ViewA 2 v L.length (flatQ L)]
theorem RQr.framed {br : Nat} {v : Value} {L : List KT} : ∀ A ∈ RQr br v L, Framed A := by
  intro A hA
  simp only [RQr, List.mem_cons, List.not_mem_nil, or_false] at hA
  rcases hA with rfl | rfl
  · exact Cells.framed _ _ _
  · exact ViewA.framed _ _ _ _
def RQA (br : Nat) (L : List KT) : Asrt := fun w F => ∃ v, Star (RQr br v L) w F
theorem RQA.framed (br : Nat) (L : List KT) : Framed (RQA br L) := by
  refine ⟨?_, ?_⟩
  · rintro w w' F ⟨v, h⟩ hk; exact ⟨v, (Framed.star RQr.framed).keep h hk⟩
  · rintro w F ⟨v, h⟩; exact (Framed.star RQr.framed).lt h

theorem str_ne {a b : ByteArray} (h : a ≠ b) : (a.toList == b.toList) = false := by
  rw [beq_eq_false_iff_ne]
  intro e
  rw [toList_data, toList_data] at e
  exact h (ba_ext e)
theorem delS_lt {L : List KT} (hk : Keys1 L) (b : ByteArray) : decide ((delS b L).length < L.length) = (atS L b).isSome := by
  cases e : atS L b with
  | none => rw [delS_none (atS_none.1 e)]; simp
  | some t =>
    have := del_length hk ((atS_some hk).1 e)
    simp; omega

/-! ### At -/
def RQAtRel (br : Nat) (L : List KT) (b : ByteArray) (v : Value) (w : World) (F : List Nat) (k : Value) (wr : World) : Prop :=
  ∃ j : Nat, k = .int .i64 j ∧ j ≤ L.length ∧ atS (L.take j) b = none ∧ In F w wr (RQr br v L)
theorem at_take {L : List KT} {j : Nat} {x : KT} {b : ByteArray} (hx : L[j]? = some x) (hno : atS (L.take j) b = none) : (x.1 = b → atS L b = some x.2) ∧ (x.1 ≠ b → atS (L.take (j + 1)) b = none) := by
  have hn := atS_none.1 hno
  constructor
  · intro e
    have hL : L.take j ++ x :: L.drop (j + 1) = L := by
      obtain ⟨hj, rfl⟩ := List.getElem?_eq_some_iff.1 hx
      rw [← List.drop_eq_getElem_cons hj, List.take_append_drop]
    rw [show atS L b = atS (L.take j ++ x :: L.drop (j + 1)) b by rw [hL]]
    unfold atS
    rw [List.find?_append]
    have : (L.take j).find? (fun x => decide (x.1 = b)) = none := by
      rw [List.find?_eq_none]; intro y hy; simpa using hn y hy
    rw [this, List.find?_cons]
    simp [e]
  · intro e
    rw [atS_none]
    intro y hy
    rw [List.take_add_one, hx] at hy
    rcases List.mem_append.1 hy with hy | hy
    · exact hn y hy
    · simp at hy; subst hy; exact e

set_option maxHeartbeats 2000000 in
theorem rqat {w : World} {br : Nat} {L : List KT} {F : List Nat} (h : RQA br L w F) (hL : L.length ≤ 4096) (b : ByteArray) :
    Calls Try.prog 22 #[.pointer (some ⟨br, 0, none⟩), .string b] w (GV (.tuple #[.int .i64 ((atS L b).getD 0), .bool (atS L b).isSome]) (RQA br L) w F) := by
  obtain ⟨v, h⟩ := h
  have HB := Lib.hid (In.start RQr.framed h)
  obtain ⟨Fr, hr⟩ := HB.out.get 1 rfl
  obtain ⟨a, cap, rfl, -, -⟩ := hr.shape
  have c0 : w.cell? ⟨br, 0, none⟩ = some (.slice a L.length cap) := cell_of (HB.out.block 0 rfl) rfl
  have HS : Hid (RQAtRel br L b (.slice a L.length cap) w F (.int .i64 0) w) := Lib.hid ⟨0, rfl, Nat.zero_le _, rfl, HB.out⟩
  clear h hr
  go_enter Try.func22, Try.ntmps22
  go_wp2_with fail
  go_loopw [13] (RQAtRel br L b (.slice a L.length cap) w F) (fun k _ => L.length - (intOf k).toNat)
  case atStart => exact HS.out
  case round =>
    obtain ⟨j, rfl, hj, hno, ho⟩ := hrel
    clear HS
    by_cases hlt : j < L.length
    · obtain ⟨x, hx⟩ : ∃ x, L[j]? = some x := ⟨L[j], List.getElem?_eq_getElem hlt⟩
      obtain ⟨Fr, hr⟩ := ho.get 1 rfl
      obtain ⟨ba, oo, rfl, hq⟩ := hr.at (by omega) (by omega)
      have r0 := hq _ _ (flatQ_at hx).1
      have r1 : wr.cell? ⟨ba, oo + j * 2 + 1, none⟩ = some (.int .i64 x.2) := hq _ _ (flatQ_at hx).2
      clear hq
      have hlt' : (j : Int) < (L.length : Int) := by omega
      obtain ⟨h1, h2⟩ := at_take (b := b) hx hno
      by_cases hb : x.1 = b
      · have hb' : (x.1.toList == b.toList) = true := by rw [hb]; simp
        have HG : Hid (GV (.tuple #[.int .i64 ((atS L b).getD 0), .bool (atS L b).isSome]) (RQA br L) w F (.returned (.tuple #[.int .i64 x.2, .bool true])) (wr.alloc (.cells #[.string x.1, .int .i64 x.2] 54))) :=
          Lib.hid (by rw [h1 hb]; exact GV.mk (ho.alloc _) (fun F' hs => ⟨_, hs⟩))
        clear h1 h2 ho hr hno hx hb hlt c0
        go_wp2_with fail
        go_ret2
        exact HG.out
      · have hb' : (x.1.toList == b.toList) = false := str_ne hb
        have HR : Hid (RQAtRel br L b (.slice (some ⟨ba, oo, none⟩) L.length cap) w F (.int .i64 (j + 1)) (wr.alloc (.cells #[.string x.1, .int .i64 x.2] 54))) :=
          Lib.hid ⟨j + 1, by congr 1, by omega, h2 hb, ho.alloc _⟩
        clear h1 h2 ho hr hno hx hb hlt c0
        go_wp2_with fail
        go_roundw
        case rel => exact HR.out
        case measure => simp [intOf]; omega
    · have hge : (L.length : Int) ≤ (j : Int) := by omega
      have HG : Hid (GV (.tuple #[.int .i64 ((atS L b).getD 0), .bool (atS L b).isSome]) (RQA br L) w F (.returned (.tuple #[.int .i64 0, .bool false])) wr) :=
        Lib.hid (by rw [List.take_of_length_le (by omega)] at hno; rw [hno]; exact GV.mk ho (fun F' hs => ⟨_, hs⟩))
      clear ho hno hlt c0
      go_wp2_with fail
      go_ret2
      exact HG.out

/-! ### Drop -/
def RQDropRel (br : Nat) (L : List KT) (b : ByteArray) (v : Value) (w : World) (F : List Nat) (u k : Value) (wr : World) : Prop :=
  ∃ j : Nat, k = .int .i64 j ∧ j ≤ L.length ∧ In F w wr (RowA 54 2 u (delS b (L.take j)).length (flatQ (delS b (L.take j))) :: RQr br v L)
theorem del_take {L : List KT} {j : Nat} {x : KT} (b : ByteArray) (hx : L[j]? = some x) : delS b (L.take (j + 1)) = if x.1 = b then delS b (L.take j) else delS b (L.take j) ++ [x] := by
  rw [List.take_add_one, hx]
  unfold delS
  rw [List.filter_append]
  split <;> rename_i e <;> simp [e]

set_option maxHeartbeats 4000000 in
theorem rqdrop {w : World} {br : Nat} {L : List KT} {F : List Nat} (h : RQA br L w F) (hL : L.length ≤ 4096) (hk : Keys1 L) (b : ByteArray) :
    Calls Try.prog 19 #[.pointer (some ⟨br, 0, none⟩), .string b] w (GV (.bool (atS L b).isSome) (RQA br (delS b L)) w F) := by
  obtain ⟨v, h⟩ := h
  have HB := Lib.hid (In.start RQr.framed h)
  obtain ⟨Fr, hr⟩ := HB.out.get 1 rfl
  obtain ⟨a, cap, rfl, -, -⟩ := hr.shape
  have c0 : w.cell? ⟨br, 0, none⟩ = some (.slice a L.length cap) := cell_of (HB.out.block 0 rfl) rfl
  have Hlt := Lib.hid (delS_lt hk b)
  have HS : Hid (RQDropRel br L b (.slice a L.length cap) w F (.slice none 0 0) (.int .i64 0) w) := Lib.hid ⟨0, rfl, Nat.zero_le _, HB.out.rownil _ _⟩
  clear h hr hk
  go_enter Try.func19, Try.ntmps19
  go_wp2_with fail
  go_loopw [5, 14] (RQDropRel br L b (.slice a L.length cap) w F) (fun _ k _ => L.length - (intOf k).toNat)
  case atStart => exact HS.out
  case round =>
    obtain ⟨j, rfl, hj, ho⟩ := hrel
    clear HS
    by_cases hlt : j < L.length
    · obtain ⟨x, hx⟩ : ∃ x, L[j]? = some x := ⟨L[j], List.getElem?_eq_getElem hlt⟩
      obtain ⟨Fr, hr⟩ := ho.get 2 rfl
      obtain ⟨ba, oo, rfl, hq⟩ := hr.at (by omega) (by omega)
      have r0 := hq _ _ (flatQ_at hx).1
      have r1 : wr.cell? ⟨ba, oo + j * 2 + 1, none⟩ = some (.int .i64 x.2) := hq _ _ (flatQ_at hx).2
      clear hq
      have hlt' : (j : Int) < (L.length : Int) := by omega
      have hdt := del_take b hx
      by_cases hb : x.1 = b
      · have hb' : (x.1.toList == b.toList) = true := by rw [hb]; simp
        have hb2 : (x.1.toList != b.toList) = false := by rw [hb]; simp
        rw [if_pos hb] at hdt
        have HR : Hid (RQDropRel br L b (.slice (some ⟨ba, oo, none⟩) L.length cap) w F u5 (.int .i64 (j + 1)) (wr.alloc (.cells #[.string x.1, .int .i64 x.2] 54))) :=
          Lib.hid ⟨j + 1, by congr 1, by omega, by rw [hdt]; exact ho.alloc _⟩
        clear ho hr hx hb hlt c0 hdt
        go_wp2_with fail
        go_roundw
        case rel => exact HR.out
        case measure => simp [intOf]; omega
      · have hb' : (x.1.toList == b.toList) = false := str_ne hb
        have hb2 : (x.1.toList != b.toList) = true := by simp only [bne, hb']; rfl
        rw [if_neg hb] at hdt
        have hdl : (delS b (L.take j)).length ≤ 4096 := by
          have : (delS b (L.take j)).length ≤ (L.take j).length := List.filter_sublist.length_le
          rw [List.length_take] at this; omega
        have Hfl : Hid (flatQ (delS b (L.take j)) ++ [.string x.1, .int .i64 x.2] = flatQ (delS b (L.take (j + 1))) ∧ (delS b (L.take j)).length + 1 = (delS b (L.take (j + 1))).length) := Lib.hid (by rw [hdt, flatQ_snoc]; simp)
        have HO := Lib.hid ho
        clear ho hr hx hb hlt c0 hdt
        go_wp2_with (at_builtin; refine append_elem' ((HO.out.alloc _).alloc _) 0 rfl rfl (.tmp 22) (.tmp 24) 48 rfl Try.underlying48 infoEntry (by decide) (by decide) rfl _ #[.string x.1, .int .i64 x.2] rfl (hp_alloc_at (by simp)) rfl (fun u hu => by simp at hu; rcases hu with rfl | rfl <;> rfl) (by omega) ?_)
        intro v' w3 ho
        have HR : Hid (RQDropRel br L b (.slice (some ⟨ba, oo, none⟩) L.length cap) w F v' (.int .i64 (j + 1)) w3) := by
          refine Lib.hid ⟨j + 1, by congr 1, by omega, ?_⟩
          rw [← Hfl.out.1, ← Hfl.out.2]
          exact ho
        clear ho HO
        go_wp2_with fail
        go_roundw
        case rel => exact HR.out
        case measure => simp [intOf]; omega
    · have hge : (L.length : Int) ≤ (j : Int) := by omega
      have hjl : j = L.length := by omega
      subst hjl
      rw [List.take_length] at ho
      obtain ⟨Fr, hr⟩ := ho.get 0 rfl
      obtain ⟨a2, cap2, rfl, -, -, -⟩ := hr.shape
      have c1 : wr.cell? ⟨br, 0, none⟩ = some (.slice a L.length cap) := cell_of (ho.block 1 rfl) rfl
      have f1 : wr.frozen? ⟨br, 0, none⟩ = false := free_of (ho.block 1 rfl)
      have HG : Hid (GV (.bool (atS L b).isSome) (RQA br (delS b L)) w F (.returned (.bool (decide ((delS b L).length < L.length)))) (wr.setCell ⟨br, 0, none⟩ (.slice a2 (delS b L).length cap2))) := by
        rw [Hlt.out]
        have h2 := ho.put 1 rfl 0 (.slice a2 (delS b L).length cap2)
        have h3 := (h2.sel [1, 0] (by decide) rfl).imp (A' := ViewA 2 (.slice a2 (delS b L).length cap2) (delS b L).length (flatQ (delS b L))) 1 rfl (ViewA.framed _ _ _ _) (fun F hF => hF.view)
        exact Lib.hid (GV.mk h3 (fun F' hs => ⟨_, hs⟩))
      clear ho hr hlt c0 Hlt
      go_wp2_with fail
      go_ret
      exact HG.out


section
variable {F0 : List Nat} {w0 w : World} {R : List Asrt} {br : Nat} {L : List KT}
theorem o_rqat (h : In F0 w0 w R) (i : Nat) (hA : R[i]? = some (RQA br L)) (hL : L.length ≤ 4096) (b : ByteArray) :
    Calls Try.prog 22 #[.pointer (some ⟨br, 0, none⟩), .string b] w fun e w' => e = .returned (.tuple #[.int .i64 ((atS L b).getD 0), .bool (atS L b).isSome]) ∧ In F0 w0 w' (R.set i (RQA br L)) :=
  own_val h i hA (RQA.framed _ _) fun F hF => rqat hF hL b
theorem o_rqdrop (h : In F0 w0 w R) (i : Nat) (hA : R[i]? = some (RQA br L)) (hL : L.length ≤ 4096) (hk : Keys1 L) (b : ByteArray) :
    Calls Try.prog 19 #[.pointer (some ⟨br, 0, none⟩), .string b] w fun e w' => e = .returned (.bool (atS L b).isSome) ∧ In F0 w0 w' (R.set i (RQA br (delS b L))) :=
  own_val h i hA (RQA.framed _ _) fun F hF => rqdrop hF hL hk b
end
theorem time_true {t : Int} (ht : 0 ≤ t ∧ t ≤ 1099511627776) (w : World) : Calls Try.prog 27 #[.int .i64 t] w fun e w' => e = .returned (.bool true) ∧ w = w' := by
  obtain ⟨h0, h1⟩ := ht
  go_enter Try.func27, Try.ntmps27
  go_wp2_with fail
  go_ret
  exact ⟨rfl, rfl⟩
theorem time_false {t : Int} (ht : ¬ (0 ≤ t ∧ t ≤ 1099511627776)) (w : World) : Calls Try.prog 27 #[.int .i64 t] w fun e w' => e = .returned (.bool false) ∧ w = w' := by
  by_cases h0 : 0 ≤ t
  · have h1 : decide (t ≤ 1099511627776) = false := by simp; omega
    clear ht
    go_enter Try.func27, Try.ntmps27
    go_wp2_with fail
    go_ret
    exact ⟨rfl, rfl⟩
  · have h1 : decide (0 ≤ t) = false := by simp; omega
    clear ht h0
    go_enter Try.func27, Try.ntmps27
    go_wp2_with fail
    go_ret
    exact ⟨rfl, rfl⟩

end Go.Proofs.Ytijkfcapooldiaa
