/- Rows.PathPlaysSaid -/
import Derived.Test.YtgapbecddgfkmaaGreatPY37
import Derived.Test.YtgapbecddgfkmaaGreatPY38
import Derived.Test.YtgapbecddgfkmaaGreatPY30
namespace Go.Proofs.YtgapbecddgfkmaaGreat
open Go.RowKit
set_option linter.unusedVariables false
set_option maxHeartbeats 64000000
set_option maxRecDepth 100000
theorem ltT_asym {a b : Tup} (h : ltT a b = true) : ltT b a = false := by
  cases e : ltT b a with
  | false => rfl
  | true => have := ltT_trans h e; rw [ltT_irrefl] at this; cases this
theorem ltT_ne {a b : Tup} (h : ltT a b = true) : a ≠ b := by
  rintro rfl; rw [ltT_irrefl] at h; cases h
theorem sortF_keys {M : List Fl} (hk : (M.map (·.t)).Nodup) : ((sortF M).map (·.t)).Nodup := ((sortF_perm M).map _).nodup_iff.2 hk
theorem sortF_lt {M : List Fl} (hk : (M.map (·.t)).Nodup) : (sortF M).Pairwise (fun x y => ltT x.t y.t = true) := by
  have h1 := sortF_row M
  have h2 := List.pairwise_map.1 (sortF_keys hk)
  refine (h1.and h2).imp ?_
  rintro a b ⟨p, q⟩
  cases e : ltT a.t b.t with
  | true => rfl
  | false => exact absurd (ltT_total e p) q
theorem atF_sort {M : List Fl} (hk : (M.map (·.t)).Nodup) (t : Tup) : atF (sortF M) t = atF M t := by
  cases e : atF M t with
  | none => exact atF_none.2 fun x hx => atF_none.1 e x ((sortF_perm M).mem_iff.1 hx)
  | some f =>
    obtain ⟨h1, h2⟩ := (atF_some hk).1 e
    exact (atF_some (sortF_keys hk)).2 ⟨(sortF_perm M).mem_iff.2 h1, h2⟩
theorem drop_eq {L : List Fl} (hk : (L.map (·.t)).Nodup) (t : Tup) : dropRF L t = delF t L := by
  unfold dropRF delF
  induction L with
  | nil => rfl
  | cons x r ih =>
    obtain ⟨h1, h2⟩ := List.nodup_cons.1 hk
    by_cases e : x.t = t
    · rw [List.eraseP_cons_of_pos (by simpa using e), List.filter_cons, if_neg (by simp [notT, e])]
      symm
      refine List.filter_eq_self.2 fun y hy => ?_
      have : y.t ≠ t := fun h => h1 (by show x.t ∈ _; rw [e, ← h]; exact List.mem_map.2 ⟨y, hy, rfl⟩)
      simp [notT, this]
    · rw [List.eraseP_cons_of_neg (by simpa using e), List.filter_cons, if_pos (by simp [notT, e]), ih h2]
theorem delF_keys {M : List Fl} (hk : (M.map (·.t)).Nodup) (t : Tup) : ((delF t M).map (·.t)).Nodup := (List.filter_sublist.map _).nodup hk
theorem drop_sort {M : List Fl} (hk : (M.map (·.t)).Nodup) (t : Tup) : dropRF (sortF M) t = sortF (delF t M) := by
  rw [drop_eq (sortF_keys hk)]
  exact sort_eq ((sortF_perm M).filter _) (delF_keys hk t) ((sortF_row M).sublist List.filter_sublist)
theorem pf_perm {L : List Fl} (hs : L.Pairwise (fun x y => ltT x.t y.t = true)) (f : Fl) : (pfF L f).Perm (f :: delF f.t L) ∧ (pfF L f).Pairwise (fun x y => ltT x.t y.t = true) := by
  have hL : preF L f ++ L.dropWhile (fun x => ltT x.t f.t) = L := List.takeWhile_append_dropWhile
  have hpre : ∀ y ∈ preF L f, ltT y.t f.t = true := fun y hy => by
    have := List.all_takeWhile (p := fun x : Fl => ltT x.t f.t) (l := L)
    exact List.all_eq_true.1 this y hy
  have hdp : delF f.t (preF L f) = preF L f := List.filter_eq_self.2 fun y hy => by simp [notT, ltT_ne (hpre y hy)]
  have hsuf : sufF L f = delF f.t (L.dropWhile (fun x => ltT x.t f.t)) ∧ (∀ y ∈ sufF L f, ltT f.t y.t = true) ∧ (sufF L f).Sublist (L.dropWhile (fun x => ltT x.t f.t)) := by
    have hsd : (L.dropWhile (fun x => ltT x.t f.t)).Pairwise (fun x y => ltT x.t y.t = true) := hs.sublist (List.dropWhile_sublist _)
    have hh := List.head?_dropWhile_not (fun x : Fl => ltT x.t f.t) L
    unfold sufF
    cases e : L.dropWhile (fun x => ltT x.t f.t) with
    | nil => simp [delF]
    | cons y r =>
      rw [e] at hsd hh
      simp only [List.head?_cons] at hh
      obtain ⟨p1, p2⟩ := List.pairwise_cons.1 hsd
      simp only
      by_cases he : y.t = f.t
      · rw [if_pos he]
        refine ⟨?_, fun z hz => by rw [← he]; exact p1 z hz, List.sublist_cons_self _ _⟩
        unfold delF
        rw [List.filter_cons, if_neg (by simp [notT, he])]
        symm
        refine List.filter_eq_self.2 fun z hz => ?_
        have := ltT_ne (p1 z hz)
        rw [he] at this
        simp [notT, Ne.symm this]
      · rw [if_neg he]
        have hlt : ltT f.t y.t = true := by
          cases e2 : ltT f.t y.t with
          | true => rfl
          | false => exact absurd (ltT_total (by simpa using hh) e2) he
        have hall : ∀ z ∈ y :: r, ltT f.t z.t = true := fun z hz => by
          rcases List.mem_cons.1 hz with rfl | hz
          · exact hlt
          · exact ltT_trans hlt (p1 z hz)
        refine ⟨?_, hall, List.Sublist.refl _⟩
        symm
        exact List.filter_eq_self.2 fun z hz => by simp [notT, Ne.symm (ltT_ne (hall z hz))]
  obtain ⟨s1, s2, s3⟩ := hsuf
  constructor
  · have : delF f.t L = preF L f ++ sufF L f := by
      conv => lhs; rw [← hL]
      unfold delF at hdp s1 ⊢
      rw [List.filter_append, hdp, s1]
    rw [this]
    exact List.perm_middle
  · unfold pfF
    rw [List.pairwise_append]
    refine ⟨hs.sublist (List.takeWhile_sublist _), List.pairwise_cons.2 ⟨s2, (hs.sublist (List.dropWhile_sublist _)).sublist s3⟩, fun y hy z hz => ?_⟩
    rcases List.mem_cons.1 hz with rfl | hz
    · exact hpre y hy
    · exact ltT_trans (hpre y hy) (s2 z hz)
theorem pf_sort {M : List Fl} (hk : (M.map (·.t)).Nodup) (f : Fl) : pfF (sortF M) f = sortF (insF f (delF f.t M)) := by
  obtain ⟨p1, p2⟩ := pf_perm (sortF_lt hk) f
  have hp : (pfF (sortF M) f).Perm (insF f (delF f.t M)) := p1.trans ((((sortF_perm M).filter _).cons f).trans (insF_perm f _).symm)
  refine sort_eq hp ?_ (p2.imp fun h => ltT_asym h)
  refine (((insF_perm f (delF f.t M)).map _).nodup_iff).2 ?_
  rw [List.map_cons, List.nodup_cons]
  refine ⟨fun h => ?_, delF_keys hk _⟩
  obtain ⟨y, hy, e⟩ := List.mem_map.1 h
  have := (List.mem_filter.1 hy).2
  simp [notT, e] at this
theorem put_sort {M : List Fl} (hk : (M.map (·.t)).Nodup) (most : Int) (f : Fl) : (putRF most (sortF M) f).2 = (putF most M f).2 ∧ (putRF most (sortF M) f).1 = sortF (putF most M f).1 := by
  unfold putRF putF
  rw [atF_sort hk, sortF_length, pf_sort hk]
  by_cases h : MayF f
  · rw [if_neg (Decidable.not_not.2 h), if_neg (Decidable.not_not.2 h)]
    by_cases h2 : atF M f.t = none ∧ most ≤ (M.length : Int)
    · rw [if_pos h2, if_pos h2]; exact ⟨rfl, rfl⟩
    · rw [if_neg h2, if_neg h2]; exact ⟨rfl, rfl⟩
  · rw [if_pos h, if_pos h]; exact ⟨rfl, rfl⟩
theorem touch_sort {M : List Fl} (hk : (M.map (·.t)).Nodup) (t : Tup) (now : Int) : (touchRF (sortF M) t now).2 = (touchF M t now).2 ∧ (touchRF (sortF M) t now).1 = sortF (touchF M t now).1 := by
  unfold touchRF touchF
  rw [atF_sort hk]
  cases e : atF M t with
  | none => exact ⟨rfl, rfl⟩
  | some f =>
    have ht : f.t = t := ((atF_some hk).1 e).2
    simp only
    by_cases h : (0 ≤ now ∧ now ≤ 1099511627776) ∧ f.seen ≤ now
    · rw [if_pos h, if_pos h]
      refine ⟨rfl, ?_⟩
      have := pf_sort hk { f with seen := now }
      simp only [ht] at this ⊢
      exact this
    · rw [if_neg h, if_neg h]; exact ⟨rfl, rfl⟩
theorem sortF_nil : sortF [] = [] := by simp [sortF]
theorem get_sort {M : List Fl} (hk : (M.map (·.t)).Nodup) (t : Tup) : getRF (sortF M) t = ((atF M t).getD zF, (atF M t).isSome) := by
  unfold getRF
  rw [atF_sort hk]
  cases atF M t <;> rfl
section
variable {F0 : List Nat} {w0 w : World} {R : List Asrt} {bt : Nat} {most wait : Int} {M : List Fl}
theorem o_rfputM (h : In F0 w0 w R) (i : Nat) (hA : R[i]? = some (RFA bt most wait (sortF M))) (hok : OkF most M) {f : Fl} (wf : WfT f.t) :
    Calls Tryz.prog 59 #[.pointer (some ⟨bt, 0, none⟩), .agg (encF f)] w fun e w' => e = .returned (.tuple #[.bool (putF most M f).2.1, .int .i64 (putF most M f).2.2]) ∧ In F0 w0 w' (R.set i (RFA bt most wait (sortF (putF most M f).1))) := by
  have hr := hok.room
  have hmo := hok.most
  have c := o_rfput h i hA (by rw [sortF_length]; omega) wf
  obtain ⟨q1, q2⟩ := put_sort hok.keys most f
  rw [q1, q2] at c
  exact c
theorem o_rftouchM (h : In F0 w0 w R) (i : Nat) (hA : R[i]? = some (RFA bt most wait (sortF M))) (hok : OkF most M) (t : Tup) (now : Int) :
    Calls Tryz.prog 58 #[.pointer (some ⟨bt, 0, none⟩), .agg (encT t), .int .i64 now] w fun e w' => e = .returned (.bool (touchF M t now).2) ∧ In F0 w0 w' (R.set i (RFA bt most wait (sortF (touchF M t now).1))) := by
  have hr := hok.room
  have hmo := hok.most
  have c := o_rftouch h i hA (by rw [sortF_length]; omega) t now
  obtain ⟨q1, q2⟩ := touch_sort hok.keys t now
  rw [q1, q2] at c
  exact c
theorem o_rfdropM (h : In F0 w0 w R) (i : Nat) (hA : R[i]? = some (RFA bt most wait (sortF M))) (hok : OkF most M) (t : Tup) :
    Calls Tryz.prog 57 #[.pointer (some ⟨bt, 0, none⟩), .agg (encT t)] w fun e w' => e = .returned (.bool (atF M t).isSome) ∧ In F0 w0 w' (R.set i (RFA bt most wait (sortF (delF t M)))) := by
  have hr := hok.room
  have hmo := hok.most
  have c := o_rfdrop h i hA (by rw [sortF_length]; omega) t
  rw [atF_sort hok.keys, drop_sort hok.keys] at c
  exact c
theorem o_rfgetM (h : In F0 w0 w R) (i : Nat) (hA : R[i]? = some (RFA bt most wait (sortF M))) (hok : OkF most M) (t : Tup) :
    Calls Tryz.prog 52 #[.pointer (some ⟨bt, 0, none⟩), .agg (encT t)] w fun e w' => e = .returned (.tuple #[.agg (encF ((atF M t).getD zF)), .bool (atF M t).isSome]) ∧ In F0 w0 w' R := by
  have hr := hok.room
  have hmo := hok.most
  have c := o_rfget h i hA (by rw [sortF_length]; omega) t
  rw [get_sort hok.keys] at c
  exact c
end
end Go.Proofs.YtgapbecddgfkmaaGreat
