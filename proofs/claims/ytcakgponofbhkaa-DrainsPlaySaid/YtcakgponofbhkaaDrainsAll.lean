/- Backends that drain: all of them, by number. -/
import Derived.Test.YtcakgponofbhkaaDrainsKeys
namespace Go.Proofs.Ytcakgponofbhkaa
open Go.RowKit Go.Shelf
open Go.Maps (Keyed)
set_option linter.unusedVariables false
set_option maxRecDepth 100000

def leB : BT → BT → Bool := fun x y => decide (x.1 ≤ y.1)
def sortD (M : List BT) : List BT := M.mergeSort leB
theorem sortD_perm (M : List BT) : (sortD M).Perm M := List.mergeSort_perm _ _
theorem sortD_row (M : List BT) : (sortD M).Pairwise (fun x y => x.1 ≤ y.1) := by
  have := List.pairwise_mergeSort (le := leB) (fun a b c h1 h2 => by simp [leB] at *; omega) (fun a b => by simp [leB]; omega) M
  exact this.imp (fun h => by simpa [leB] using h)
theorem sortD_length (M : List BT) : (sortD M).length = M.length := (sortD_perm M).length_eq
theorem sortD_keys {M : List BT} {ss : List Int} (h : ss.Perm (M.map (·.1))) : ss.mergeSort (fun x y => decide (x ≤ y)) = (sortD M).map (·.1) := by
  refine List.Perm.eq_of_pairwise (le := fun a b : Int => a ≤ b) (fun a b _ _ h1 h2 => Int.le_antisymm h1 h2) ?_ ?_ ?_
  · have := List.pairwise_mergeSort (le := fun x y : Int => decide (x ≤ y)) (fun a b c h1 h2 => by simp at *; omega) (fun a b => by simp; omega) ss
    exact this.imp (fun h => by simpa using h)
  · exact List.pairwise_map.2 (sortD_row M)
  · exact (List.mergeSort_perm _ _).trans (h.trans ((sortD_perm M).map _).symm)
/-- The cells of such a row. -/
def flat (L : List BT) : List Value := L.flatMap (fun x => [.int .i64 x.1, .int .i64 x.2])
theorem flat_length (L : List BT) : (flat L).length = L.length * 2 := by
  induction L with
  | nil => rfl
  | cons x r ih => simp [flat] at *; omega
theorem flat_snoc (L : List BT) (x : BT) : flat L ++ [.int .i64 x.1, .int .i64 x.2] = flat (L ++ [x]) := by simp [flat]
theorem flat_at {L : List BT} {j : Nat} {x : BT} (h : L[j]? = some x) : (flat L)[j * 2]? = some (.int .i64 x.1) ∧ (flat L)[j * 2 + 1]? = some (.int .i64 x.2) := by
  induction L generalizing j with
  | nil => simp at h
  | cons y r ih =>
    have e : flat (y :: r) = .int .i64 y.1 :: .int .i64 y.2 :: flat r := rfl
    cases j with
    | zero =>
      simp at h; subst h
      rw [e]; exact ⟨rfl, rfl⟩
    | succ j =>
      simp at h
      have := ih h
      rw [e, show (j + 1) * 2 = j * 2 + 1 + 1 by omega, List.getElem?_cons_succ, List.getElem?_cons_succ, show j * 2 + 1 + 1 + 1 = (j * 2 + 1) + 1 + 1 by omega, List.getElem?_cons_succ, List.getElem?_cons_succ]
      exact this
theorem infoDrain : (Try.prog.info? 28).map (fun i => (i.zero.map (fun z => z.cells.size), i.size, i.bytes)) = some (some 2, 2, 16) := by kernel_rfl

def AllR (M L : List BT) (bs bq bm : Nat) (vs : Value) (j : Nat) (v : Value) : List Asrt :=
  [RowA 28 2 v j (flat (L.take j)), RowA 3 1 vs L.length ((L.map (·.1)).map encZ), Cells bs #[.pointer (some ⟨bq, 0, none⟩), .map (some bm)] 90, BMap bm M, QA bq (M.map encB)]
def DAllRel (M L : List BT) (bs bq bm : Nat) (vs : Value) (w : World) (F : List Nat) (v k : Value) (wr : World) : Prop :=
  ∃ j : Nat, k = .int .i64 j ∧ j ≤ L.length ∧ In F w wr (AllR M L bs bq bm vs j v)
theorem all_end {F : List Nat} {w wr : World} {M L : List BT} {bs bq bm : Nat} {vs v : Value} (h : In F w wr (AllR M L bs bq bm vs L.length v)) (hM : ∀ x ∈ M, MayB x.1) :
    Gives w F (fun v => Star [DrA bs M, RowA 28 2 v L.length (flat L)]) (.returned v) wr := by
  unfold AllR at h
  rw [List.take_length] at h
  have h2 := (h.perm (List.perm_append_comm (l₁ := [_]) (l₂ := [_, _, _, _]))).drop
  have h3 := In.join (A1 := [_, _, _]) (R := [_]) h2
  have h4 := h3.imp (A' := DrA bs M) 0 rfl (DrA.framed _ _) (fun F hF => ⟨bq, bm, hM, hF⟩)
  exact h4.gives v _ (fun F hs => hs)

set_option maxHeartbeats 4000000 in
theorem dall {w : World} {bs : Nat} {M : List BT} {F : List Nat} (h : DrA bs M w F) :
    Calls Try.prog 17 #[.pointer (some ⟨bs, 0, none⟩)] w (Gives w F (fun v => Star [DrA bs M, RowA 28 2 v (sortD M).length (flat (sortD M))])) := by
  obtain ⟨bq, bm, hM, h⟩ := h
  have HB := Lib.hid (In.start DrR.framed h)
  have hc0 : w.cell? ⟨bs, 1, none⟩ = some (.map (some bm)) := (cell_bs HB.out).2
  have hk := keysD_of (set_keys HB.out)
  have hML : M.length ≤ 1024 := by obtain ⟨_, hq⟩ := HB.out.get 2 rfl; have := IsQ.len hq; simpa using this
  have Hat : Hid (∀ x ∈ sortD M, MayB x.1 ∧ atD M x.1 = some x.2) := Lib.hid fun x hx => by
    have := (sortD_perm M).mem_iff.1 hx
    exact ⟨hM x this, (atD_some hk).2 this⟩
  have Hk := Lib.hid hk
  have HM := Lib.hid hM
  have HSort : Hid (Calls Try.prog 56 #[.func (.func 79) #[] #[.pointer (some ⟨w.heap.size, 0, none⟩)]] (w.alloc (.cells #[.map (some bm)] 26)) fun e w' => ∃ a cap, e = .returned (.slice a (sortD M).length cap) ∧ In F w w' (AllR M (sortD M) bs bq bm (.slice a (sortD M).length cap) 0 (.slice none 0 0))) := by
    obtain ⟨Fm, hbm⟩ := HB.out.get 1 rfl
    refine Lib.hid ((sorted_call hbm hk hML).mono fun e w' ⟨v, ss, he, hp, hrow, hbel⟩ => ?_)
    have hss : ss.length = (sortD M).length := by rw [hp.length_eq, List.length_map, sortD_length]
    rw [sortD_keys hp, hss] at hrow
    obtain ⟨hr1, hr2⟩ := row_new hrow
    obtain ⟨a, cap, rfl, -, -, -⟩ := hr1.shape
    have h1 := In.below ((HB.out.alloc (.cells #[.map (some bm)] 26))) hbel (RowA.framed _ _ _ _ _) hr1 hr2
    exact ⟨a, cap, he, h1.rownil 28 2⟩
  clear h hM hk
  have hDL : (sortD M).length ≤ 1024 := by rw [sortD_length]; exact hML
  clear hML
  generalize sortD M = L at *
  go_enter Try.func17, Try.ntmps17
  go_wp2_with fail
  refine (keys_call _ _).mono ?_
  rintro e w1 ⟨rfl, rfl⟩
  go_wp2_with fail
  refine HSort.out.mono ?_
  rintro e w1 ⟨a, cap, rfl, ho⟩
  have HS : Hid (DAllRel M L bs bq bm (.slice a L.length cap) w F (.slice none 0 0) (.int .i64 0) w1) := Lib.hid ⟨0, rfl, Nat.zero_le _, ho⟩
  clear ho HSort
  go_wp2_with fail
  go_loopw [3, 15] (DAllRel M L bs bq bm (.slice a L.length cap) w F) (fun _ k _ => L.length - (intOf k).toNat)
  case atStart => exact HS.out
  case round =>
    obtain ⟨j, rfl, hj, ho⟩ := hrel
    clear HS
    by_cases hlt : j < L.length
    · obtain ⟨x, hx⟩ : ∃ x, L[j]? = some x := ⟨L[j], List.getElem?_eq_getElem hlt⟩
      obtain ⟨Fs, hs⟩ := ho.get 1 rfl
      obtain ⟨ba, rfl, c0⟩ := hs.at.2 j (.int .i64 x.1) (by simp [hx, encZ])
      obtain ⟨hmay, hat⟩ := Hat.out x (List.mem_of_getElem? hx)
      have hlk : (Instr.lookup 26 (.map (some bm)) (.int .i64 x.1) false).run Try.prog wr = .ok (.int .i64 x.2) wr := by
        have := o_blook ho 3 rfl Hk.out Try.underlying26 (by kernel_rfl) (may_lit hmay) false
        rw [hat] at this; exact this
      have hlt' : (j : Int) < (L.length : Int) := by omega
      have c1 : wr.cell? ⟨bs, 1, none⟩ = some (.map (some bm)) := cell_of (ho.block 2 rfl) rfl
      have Ht : Hid (flat (L.take j) ++ [.int .i64 x.1, .int .i64 x.2] = flat (L.take (j + 1))) := Lib.hid (by
        rw [flat_snoc, List.take_add_one, hx]; rfl)
      have HO := Lib.hid ho
      clear ho hs hx hmay hat hlt
      go_wp2_with (at_builtin; refine append_elem' (HO.out.alloc _) 0 rfl rfl (.tmp 19) (.tmp 28) 22 rfl Try.underlying22 infoDrain (by decide) (by decide) rfl _ #[.int .i64 x.1, .int .i64 x.2] rfl hp_alloc_new rfl (fun u hu => by simp at hu; rcases hu with rfl | rfl <;> rfl) (by omega) ?_)
      intro v' w3 ho
      have HR : Hid (DAllRel M L bs bq bm (.slice (some ⟨ba, 0, none⟩) L.length cap) w F v' (.int .i64 (j + 1)) w3) := by
        refine Lib.hid ⟨j + 1, by congr 1, by omega, ?_⟩
        unfold AllR
        rw [← Ht.out]
        exact ho
      clear ho HO
      go_wp2_with fail
      go_roundw
      case rel => exact HR.out
      case measure => simp [intOf]; omega
    · have hge : (L.length : Int) ≤ (j : Int) := by omega
      have hjl : j = L.length := by omega
      subst hjl
      have HG : Hid (Gives w F (fun v => Star [DrA bs M, RowA 28 2 v L.length (flat L)]) (.returned u3) wr) := Lib.hid (all_end ho HM.out)
      clear ho
      go_wp2_with fail
      go_ret
      exact HG.out
end Go.Proofs.Ytcakgponofbhkaa
