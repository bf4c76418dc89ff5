/- The document's row of backends that drain, by number: what each call makes of it, held against the set's row by time. -/
import Derived.Test.YtcakgponofbhkaaDrainsAsk
namespace Go.Proofs.Ytcakgponofbhkaa
set_option linter.unusedVariables false
set_option maxRecDepth 100000

def SortedB (L : List BT) : Prop := L.Pairwise (fun x y => x.1 < y.1)
theorem sortedB_nodup {L : List BT} (h : SortedB L) : KeysD L := List.pairwise_map.2 (h.imp (fun h e => by omega))
theorem sortedB_unique {L L' : List BT} (h : SortedB L) (h' : SortedB L') (hp : L.Perm L') : L = L' :=
  List.Perm.eq_of_pairwise (le := fun x y : BT => x.1 < y.1) (fun a b _ _ h1 h2 => by omega) h h' hp
theorem sortD_sorted {M : List BT} (hk : KeysD M) : SortedB (sortD M) := by
  have h1 := sortD_row M
  have h2 : (sortD M).Pairwise (fun x y => x.1 ≠ y.1) := by
    have : KeysD (sortD M) := ((sortD_perm M).map _).nodup_iff.2 hk
    exact List.pairwise_map.1 this
  exact (h1.and h2).imp (fun h => by omega)
theorem eq_sortD {L M : List BT} (h : SortedB L) (hp : L.Perm M) : L = sortD M :=
  sortedB_unique h (sortD_sorted ((hp.map _).nodup_iff.1 (sortedB_nodup h))) (hp.trans (sortD_perm M).symm)
theorem atD_perm {L M : List BT} (hk : KeysD M) (hp : L.Perm M) (b : Int) : atD L b = atD M b := by
  have hk' : KeysD L := (hp.map _).nodup_iff.2 hk
  apply Option.ext
  intro t
  rw [show (atD L b = some t) ↔ _ from atD_some hk', show (atD M b = some t) ↔ _ from atD_some hk, hp.mem_iff]
theorem atD_sortD {M : List BT} (hk : KeysD M) (b : Int) : atD (sortD M) b = atD M b := atD_perm hk (sortD_perm M) b
theorem delD_sorted {L : List BT} (h : SortedB L) (b : Int) : SortedB (delD b L) := h.sublist List.filter_sublist
theorem delD_perm {L M : List BT} (hp : L.Perm M) (b : Int) : (delD b L).Perm (delD b M) := hp.filter _
theorem delD_sortD {M : List BT} (hk : KeysD M) (b : Int) : delD b (sortD M) = sortD (delD b M) := eq_sortD (delD_sorted (sortD_sorted hk) b) (delD_perm (sortD_perm M) b)
theorem delD_lt {L : List BT} (hk : KeysD L) (b : Int) : decide ((delD b L).length < L.length) = (atD L b).isSome := by
  rw [delD_length' hk b]
  cases e : atD L b with
  | none => simp
  | some t =>
    have := (atD_some hk).1 e
    have := List.length_pos_of_mem this
    simp; omega

def ltB (b : Int) (x : BT) : Bool := decide (x.1 < b)
def insB (x : BT) (L : List BT) : List BT := L.takeWhile (ltB x.1) ++ x :: L.dropWhile (ltB x.1)
theorem insB_perm (x : BT) (L : List BT) : (insB x L).Perm (x :: L) := by
  unfold insB
  refine List.perm_middle.trans (List.Perm.cons _ ?_)
  rw [List.takeWhile_append_dropWhile]
theorem drop_ge {b : Int} : ∀ {L : List BT}, SortedB L → ∀ y ∈ L.dropWhile (ltB b), b ≤ y.1
  | [], _, y, hy => by simp at hy
  | z :: r, h, y, hy => by
    rw [List.dropWhile_cons] at hy
    split at hy
    · exact drop_ge (List.pairwise_cons.1 h).2 y hy
    · rename_i hz
      have hz' : b ≤ z.1 := by simpa [ltB] using hz
      rcases List.mem_cons.1 hy with rfl | hy
      · exact hz'
      · have := (List.pairwise_cons.1 h).1 y hy; omega
theorem take_lt {b : Int} {L : List BT} : ∀ y ∈ L.takeWhile (ltB b), y.1 < b := fun y hy => by
  have := List.all_eq_true.1 (List.all_takeWhile (l := L) (p := ltB b)) y hy
  simpa [ltB] using this
theorem insB_sorted {x : BT} {L : List BT} (h : SortedB L) (hx : ∀ y ∈ L, y.1 ≠ x.1) : SortedB (insB x L) := by
  unfold insB SortedB
  rw [List.pairwise_append]
  refine ⟨h.sublist (List.takeWhile_sublist _), List.pairwise_cons.2 ⟨fun y hy => ?_, h.sublist (List.dropWhile_sublist _)⟩, fun y hy z hz => ?_⟩
  · have h1 := drop_ge h y hy
    have h2 := hx y ((List.dropWhile_sublist _).subset hy)
    omega
  · have h1 := take_lt y hy
    rcases List.mem_cons.1 hz with rfl | hz
    · exact h1
    · have := drop_ge h z hz; omega
/-- 'Put'. -/
def rputD (L : List BT) (b t : Int) : List BT × Int :=
  if b < 0 ∨ 65535 < b ∨ t < 0 ∨ 1099511627776 < t then (L, 1) else if atD L b = none ∧ 1024 ≤ L.length then (L, 9) else (insB (b, t) (delD b L), 0)
theorem rput_sortD {M : List BT} (hk : KeysD M) (b t : Int) : rputD (sortD M) b t = (sortD (putB M b t).1, (putB M b t).2) := by
  unfold rputD putB putD
  rw [atD_sortD hk, sortD_length]
  by_cases hb : 0 ≤ b ∧ b ≤ 65535
  · rw [if_pos hb]
    by_cases ht : t < 0 ∨ 1099511627776 < t
    · rw [if_pos ht, if_pos (by omega)]
    · rw [if_neg ht, if_neg (by omega)]
      split
      · rfl
      · congr 1
        refine eq_sortD (insB_sorted (delD_sorted (sortD_sorted hk) b) (fun y hy => (delD_mem.1 hy).2)) ?_
        exact (insB_perm _ _).trans (((delD_perm (sortD_perm M) b).cons _).trans (put_perm b t M).symm)
  · rw [if_neg hb, if_pos (by omega)]
theorem putB_keys {M : List BT} (hk : KeysD M) (b t : Int) : KeysD (putB M b t).1 := by
  unfold putB putD
  split
  · split
    · exact hk
    · split
      · exact hk
      · refine ((put_perm b t M).map _).nodup_iff.2 (List.nodup_cons.2 ⟨fun hm => ?_, hk.del b⟩)
        obtain ⟨y, hy, e⟩ := List.mem_map.1 hm
        exact (delD_mem.1 hy).2 e
  · exact hk
/-- Where the loop ends, the row parts. -/
theorem parts_at {b : Int} {L : List BT} {j : Nat} (hj : j ≤ L.length) (h1 : ∀ y ∈ L.take j, y.1 < b) (h2 : ∀ y, L[j]? = some y → b ≤ y.1) : L.take j = L.takeWhile (ltB b) ∧ L.drop j = L.dropWhile (ltB b) := by
  induction L generalizing j with
  | nil => simp
  | cons z r ih =>
    cases j with
    | zero =>
      have : ltB b z = false := by have := h2 z rfl; simp [ltB]; omega
      simp [List.takeWhile_cons, List.dropWhile_cons, this]
    | succ j =>
      have hz : ltB b z = true := by have := h1 z (by simp); simp [ltB]; omega
      obtain ⟨e1, e2⟩ := ih (j := j) (by simpa using hj) (fun y hy => h1 y (by simp [hy])) (fun y hy => h2 y (by simpa using hy))
      simp [List.takeWhile_cons, List.dropWhile_cons, hz, e1, e2]

/-! ### what is due -/
def LtTB (x y : BT) : Prop := x.2 < y.2 ∨ x.2 = y.2 ∧ x.1 < y.1
theorem key2_lt {a b c d : Int} (ha : 0 ≤ a ∧ a < 256) (hb : 0 ≤ b ∧ b < 256) (hc : 0 ≤ c ∧ c < 256) (hd : 0 ≤ d ∧ d < 256) (h : Op.bytesLess (key2 a b).toList (key2 c d).toList = true) : a < c ∨ a = c ∧ b < d := by
  have e1 : (key2 a b).toList = [UInt8.ofNat a.toNat, UInt8.ofNat b.toNat] := by rw [ByteArray.toList_eq]; rfl
  have e2 : (key2 c d).toList = [UInt8.ofNat c.toNat, UInt8.ofNat d.toNat] := by rw [ByteArray.toList_eq]; rfl
  rw [e1, e2] at h
  have n1 : (UInt8.ofNat a.toNat).toNat = a.toNat := by simp; omega
  have n2 : (UInt8.ofNat b.toNat).toNat = b.toNat := by simp; omega
  have n3 : (UInt8.ofNat c.toNat).toNat = c.toNat := by simp; omega
  have n4 : (UInt8.ofNat d.toNat).toNat = d.toNat := by simp; omega
  simp only [Op.bytesLess, UInt8.lt_iff_toNat_lt, n1, n2, n3, n4] at h
  by_cases h1 : a.toNat < c.toNat
  · left; omega
  · by_cases h2 : c.toNat < a.toNat
    · simp [h1, h2] at h
      have := congrArg UInt8.toNat h.1; rw [n1, n3] at this; omega
    · right
      have : a = c := by omega
      refine ⟨this, ?_⟩
      simp [h1, h2] at h
      omega
theorem row_lt {M : List BT} (hM : ∀ x ∈ M, MayB x.1) (h : Row (M.map encB)) : M.Pairwise LtTB := by
  have h1 := List.pairwise_map.1 h
  refine h1.imp_of_mem (fun {x y} hx hy hk => ?_)
  have mx := hM x hx
  have my := hM y hy
  unfold MayB at mx my
  unfold LtTB
  have hle := klt_le hk
  simp only [klt, encB] at hk hle
  by_cases e : x.2 < y.2
  · exact Or.inl e
  · have e2 : x.2 = y.2 := by omega
    right
    refine ⟨e2, ?_⟩
    have hb : Op.bytesLess (keyB x.1).toList (keyB y.1).toList = true := by
      simp only [e2, decide_true, Bool.true_and, Bool.or_eq_true, decide_eq_true_eq, beq_self_eq_true] at hk
      rcases hk with hk | hk
      · omega
      · rw [← ByteArray.toList_eq, ← ByteArray.toList_eq] at hk; exact hk
    unfold keyB at hb
    have := key2_lt (by omega) (by omega) (by omega) (by omega) hb
    omega
theorem ltTB_unique {L L' : List BT} (h : L.Pairwise LtTB) (h' : L'.Pairwise LtTB) (hp : L.Perm L') : L = L' :=
  List.Perm.eq_of_pairwise (le := LtTB) (fun a b _ _ h1 h2 => by unfold LtTB at h1 h2; omega) h h' hp
/-- One more is laid among those that are due. -/
theorem due_ins {out : List BT} {d : BT} {k : Nat} (ho : out.Pairwise LtTB) (hd : ∀ y ∈ out, y.1 < d.1) (hk : k ≤ out.length) (h1 : ∀ y ∈ out.drop k, d.2 < y.2) (h2 : k = 0 ∨ ∃ y, out[k - 1]? = some y ∧ y.2 ≤ d.2) :
    (out.take k ++ d :: out.drop k).Pairwise LtTB ∧ (out.take k ++ d :: out.drop k).Perm (d :: out) := by
  refine ⟨?_, ?_⟩
  · rw [List.pairwise_append]
    have hle : ∀ y ∈ out.take k, y.2 ≤ d.2 := by
      rcases h2 with rfl | ⟨z, hz, hzd⟩
      · simp
      · intro y hy
        obtain ⟨i, hi, rfl⟩ := List.mem_iff_getElem.1 hy
        rw [List.length_take] at hi
        rw [List.getElem_take]
        obtain ⟨hk1, rfl⟩ := List.getElem?_eq_some_iff.1 hz
        by_cases e : i = k - 1
        · subst e; exact hzd
        · have := List.pairwise_iff_getElem.1 ho i (k - 1) (by omega) hk1 (by omega)
          unfold LtTB at this; omega
    refine ⟨ho.sublist (List.take_sublist _ _), List.pairwise_cons.2 ⟨fun y hy => Or.inl (h1 y hy), ho.sublist (List.drop_sublist _ _)⟩, fun y hy z hz => ?_⟩
    have hyd := hle y hy
    have hy1 := hd y (List.mem_of_mem_take hy)
    rcases List.mem_cons.1 hz with rfl | hz
    · unfold LtTB; omega
    · have := h1 z hz; left; omega
  · refine List.perm_middle.trans (List.Perm.cons _ ?_)
    rw [List.take_append_drop]
/-- What is due of the row by number is what is due of the row by time. -/
theorem due_same {M out : List BT} (hk : KeysD M) (hM : M.Pairwise LtTB) {now : Int} (ho : out.Pairwise LtTB) (hp : out.Perm ((sortD M).filter (fun x => decide (x.2 ≤ now)))) : out = dueD M now := by
  have hd : dueD M now = M.filter (fun x => decide (x.2 ≤ now)) := by
    unfold dueD
    clear hp ho hk
    induction M with
    | nil => rfl
    | cons z r ih =>
      rw [List.takeWhile_cons, List.filter_cons]
      by_cases e : z.2 ≤ now
      · rw [if_pos (by simpa [isDue] using e), if_pos (by simpa using e), ih (List.pairwise_cons.1 hM).2]
      · rw [if_neg (by simpa [isDue] using e), if_neg (by simpa using e)]
        refine (List.filter_eq_nil_iff.2 (fun y hy => ?_)).symm
        have := (List.pairwise_cons.1 hM).1 y hy
        unfold LtTB at this
        simp; omega
  refine ltTB_unique ho (hM.sublist (List.takeWhile_sublist _)) ?_
  rw [hd]
  exact hp.trans ((sortD_perm M).filter _)
end Go.Proofs.Ytcakgponofbhkaa
