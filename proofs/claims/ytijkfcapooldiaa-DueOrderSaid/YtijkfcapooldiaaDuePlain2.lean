/- Plain law: a key set and struck in a row; small remainders. -/
import Derived.Test.YtijkfcapooldiaaDuePlain
import Derived.IntWalk
namespace Go.Proofs.Ytijkfcapooldiaa
open Go.RowKit
set_option linter.unusedVariables false

theorem mod64 (x m : Int) (hm : 0 < m) (hm2 : m ≤ 4611686018427387904) : 0 ≤ wrap64 ((IntKind.u64.wrap x).tmod m) ∧ wrap64 ((IntKind.u64.wrap x).tmod m) < m := by
  have h0 : 0 ≤ IntKind.u64.wrap x := by simp only [IntKind.wrap, IntKind.signed, IntKind.bits, Bool.false_and, Bool.false_eq_true, if_false]; omega
  have h1 := Int.tmod_nonneg m h0
  have h2 := Int.tmod_lt_of_pos (IntKind.u64.wrap x) hm
  have : wrap64 ((IntKind.u64.wrap x).tmod m) = (IntKind.u64.wrap x).tmod m := IntWalk.wrap64_in _ ⟨by omega, by omega⟩
  rw [this]; exact ⟨h1, h2⟩

theorem setS_mem {S : List KT} {k : ByteArray} {t : Int} : ∀ y ∈ (setS S k t).1, y ∈ S ∨ y.1 = k := by
  intro y hy
  unfold setS at hy
  split at hy
  · exact Or.inl hy
  · split at hy
    · exact Or.inl hy
    · rcases ins_mem.1 hy with rfl | h
      · exact Or.inr rfl
      · exact Or.inl (delS_mem.1 h).1
theorem delS_length (k : ByteArray) (S : List KT) : (delS k S).length ≤ S.length := List.filter_sublist.length_le
theorem setS_length {S : List KT} {k : ByteArray} {t : Int} : (setS S k t).1.length ≤ S.length + 1 := by
  unfold setS
  split
  · simp
  · split
    · simp
    · simp only [ins_length]; have := delS_length k S; omega
theorem del_ins {S : List KT} {k : ByteArray} {t : Int} (h : ∀ y ∈ S, y.1 ≠ k) : delS k (ins (k, t) S) = S := by
  induction S with
  | nil => simp [ins, delS]
  | cons y r ih =>
    have hy := h y (by simp)
    have ih := ih (fun z hz => h z (List.mem_cons_of_mem _ hz))
    unfold ins
    split
    · unfold delS at *
      rw [List.filter_cons]
      simp only [hy, ne_eq, not_false_eq_true, decide_true, if_true]
      rw [ih]
    · have := delS_none (S := y :: r) h
      unfold delS at *
      rw [List.filter_cons]
      simpa using this
theorem at_ins {S : List KT} {k : ByteArray} {t : Int} (hk : Keys1 S) (h : ∀ y ∈ S, y.1 ≠ k) : atS (ins (k, t) S) k = some t := by
  rw [atS_some (ins_keys hk h)]
  exact ins_mem.2 (Or.inl rfl)
theorem setS_new {S : List KT} {k : ByteArray} {t : Int} (h0 : 0 ≤ t) (h1 : t ≤ 1099511627776) (hl : S.length < 1024) (h : ∀ y ∈ S, y.1 ≠ k) : setS S k t = (ins (k, t) S, 0) := by
  rw [setS, if_neg (by omega), if_neg (by omega), delS_none h]
end Go.Proofs.Ytijkfcapooldiaa
