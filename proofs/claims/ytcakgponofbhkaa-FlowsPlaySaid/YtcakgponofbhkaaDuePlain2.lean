/- Plain law: a key set and struck in a row; small remainders. -/
import Derived.Test.YtcakgponofbhkaaDueQ
import Derived.IntWalk
namespace Go.Proofs.Ytcakgponofbhkaa
open Go.RowKit
set_option linter.unusedVariables false
set_option maxRecDepth 100000

theorem mod64 (x m : Int) (hm : 0 < m) (hm2 : m ≤ 4611686018427387904) : 0 ≤ wrap64 ((IntKind.u64.wrap x).tmod m) ∧ wrap64 ((IntKind.u64.wrap x).tmod m) < m := by
  have h0 : 0 ≤ IntKind.u64.wrap x := by simp only [IntKind.wrap, IntKind.signed, IntKind.bits, Bool.false_and, Bool.false_eq_true, if_false]; omega
  have h1 := Int.tmod_nonneg m h0
  have h2 := Int.tmod_lt_of_pos (IntKind.u64.wrap x) hm
  have : wrap64 ((IntKind.u64.wrap x).tmod m) = (IntKind.u64.wrap x).tmod m := IntWalk.wrap64_in _ ⟨by omega, by omega⟩
  rw [this]; exact ⟨h1, h2⟩

theorem setS_mem {S : List KT} {k : ByteArray} {t : Int} : ∀ y ∈ (setS S k t).1, y ∈ S ∨ y.1 = k := by
  intro y hy
  unfold setS at hy
  split at hy
  · exact Or.inl hy
  · split at hy
    · exact Or.inl hy
    · rcases ins_mem.1 hy with rfl | h
      · exact Or.inr rfl
      · exact Or.inl (delS_mem.1 h).1
theorem delS_length (k : ByteArray) (S : List KT) : (delS k S).length ≤ S.length := List.filter_sublist.length_le
theorem setS_length {S : List KT} {k : ByteArray} {t : Int} : (setS S k t).1.length ≤ S.length + 1 := by
  unfold setS
  split
  · simp
  · split
    · simp
    · simp only [ins_length]; have := delS_length k S; omega
theorem del_ins {S : List KT} {k : ByteArray} {t : Int} (h : ∀ y ∈ S, y.1 ≠ k) : delS k (ins (k, t) S) = S := by
  induction S with
  | nil => simp [ins, delS]
  | cons y r ih =>
    have hy := h y (by simp)
    have ih := ih (fun z hz => h z (List.mem_cons_of_mem _ hz))
    unfold ins
    split
    · unfold delS at *
      rw [List.filter_cons]
      simp only [hy, ne_eq, not_false_eq_true, decide_true, if_true]
      rw [ih]
    · have := delS_none (S := y :: r) h
      unfold delS at *
      rw [List.filter_cons]
      simpa using this
theorem at_ins {S : List KT} {k : ByteArray} {t : Int} (hk : Keys1 S) (h : ∀ y ∈ S, y.1 ≠ k) : atS (ins (k, t) S) k = some t := by
  rw [atS_some (ins_keys hk h)]
  exact ins_mem.2 (Or.inl rfl)
theorem setS_new {S : List KT} {k : ByteArray} {t : Int} (h0 : 0 ≤ t) (h1 : t ≤ 1099511627776) (hl : S.length < 1024) (h : ∀ y ∈ S, y.1 ≠ k) : setS S k t = (ins (k, t) S, 0) := by
  rw [setS, if_neg (by omega), if_neg (by omega), delS_none h]
theorem klt_le {a b : KT} (h : klt a b = true) : a.2 ≤ b.2 := by
  rcases Int.lt_or_le b.2 a.2 with h1 | h1
  · rw [klt_of_gt h1] at h; cases h
  · exact h1
theorem due_filter {now : Int} : ∀ {S : List KT}, Row S → dueK S now = (S.filter (fun x => decide (x.2 ≤ now))).map (·.1)
  | [], _ => rfl
  | x :: S, h => by
    obtain ⟨h1, h2⟩ := List.pairwise_cons.1 h
    have ih := due_filter (now := now) h2
    unfold dueK at *
    rw [List.takeWhile_cons, List.filter_cons]
    by_cases hx : x.2 ≤ now
    · simp only [hx, decide_true, if_true, List.map_cons, ih]
    · simp only [hx, decide_false, Bool.false_eq_true, if_false, List.map_nil]
      have : S.filter (fun x => decide (x.2 ≤ now)) = [] := by
        rw [List.filter_eq_nil_iff]
        intro y hy
        have := klt_le (h1 y hy)
        simp; omega
      rw [this]; rfl
theorem del_length {S : List KT} (hk : Keys1 S) {k : ByteArray} {t : Int} (h : (k, t) ∈ S) : (delS k S).length + 1 = S.length := by
  have h1 : ((k, t) :: delS k S).Perm S := by
    rw [List.perm_ext_iff_of_nodup]
    · intro y
      simp only [List.mem_cons, delS_mem]
      constructor
      · rintro (rfl | ⟨hy, _⟩)
        · exact h
        · exact hy
      · intro hy
        by_cases e : y.1 = k
        · exact Or.inl (keys_one hk hy h e)
        · exact Or.inr ⟨hy, e⟩
    · refine List.nodup_cons.2 ⟨fun hm => (delS_mem.1 hm).2 rfl, ?_⟩
      exact List.Nodup.sublist List.filter_sublist (List.Pairwise.imp (fun hab e => hab (by rw [e])) (List.pairwise_map.1 hk))
    · exact List.Pairwise.imp (fun hab e => hab (by rw [e])) (List.pairwise_map.1 hk)
  simpa using h1.length_eq

end Go.Proofs.Ytcakgponofbhkaa
