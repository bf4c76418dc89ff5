/- As many keys as may be, and more. -/
import Derived.Test.YtijkfcapooldiaaDueArgs
import Derived.Test.YtijkfcapooldiaaDuePlain2
import Derived.Test.YtijkfcapooldiaaBytes2
namespace Go.Proofs.Ytijkfcapooldiaa
open Go.RowKit
set_option linter.unusedVariables false

def keyI (j : Nat) : ByteArray := key2 (j / 256) (j % 256)
theorem keyI_inj {i j : Nat} (hi : i < 65536) (hj : j < 65536) (h : keyI i = keyI j) : i = j := by
  have := key2_inj (a := (i : Int) / 256) (b := (i : Int) % 256) (c := (j : Int) / 256) (d := (j : Int) % 256) (by omega) (by omega) (by omega) (by omega) h
  omega
theorem klt_le {a b : KT} (h : klt a b = true) : a.2 ≤ b.2 := by
  rcases Int.lt_or_le b.2 a.2 with h1 | h1
  · rw [klt_of_gt h1] at h; cases h
  · exact h1
theorem due_filter {now : Int} : ∀ {S : List KT}, Row S → dueK S now = (S.filter (fun x => decide (x.2 ≤ now))).map (·.1)
  | [], _ => rfl
  | x :: S, h => by
    obtain ⟨h1, h2⟩ := List.pairwise_cons.1 h
    have ih := due_filter (now := now) h2
    unfold dueK at *
    rw [List.takeWhile_cons, List.filter_cons]
    by_cases hx : x.2 ≤ now
    · simp only [hx, decide_true, if_true, List.map_cons, ih]
    · simp only [hx, decide_false, Bool.false_eq_true, if_false, List.map_nil]
      have : S.filter (fun x => decide (x.2 ≤ now)) = [] := by
        rw [List.filter_eq_nil_iff]
        intro y hy
        have := klt_le (h1 y hy)
        simp; omega
      rw [this]; rfl
theorem del_length {S : List KT} (hk : Keys1 S) {k : ByteArray} {t : Int} (h : (k, t) ∈ S) : (delS k S).length + 1 = S.length := by
  have h1 : ((k, t) :: delS k S).Perm S := by
    rw [List.perm_ext_iff_of_nodup]
    · intro y
      simp only [List.mem_cons, delS_mem]
      constructor
      · rintro (rfl | ⟨hy, _⟩)
        · exact h
        · exact hy
      · intro hy
        by_cases e : y.1 = k
        · exact Or.inl (keys_one hk hy h e)
        · exact Or.inr ⟨hy, e⟩
    · refine List.nodup_cons.2 ⟨fun hm => (delS_mem.1 hm).2 rfl, ?_⟩
      exact List.Nodup.sublist List.filter_sublist (List.Pairwise.imp (fun hab e => hab (by rw [e])) (List.pairwise_map.1 hk))
    · exact List.Pairwise.imp (fun hab e => hab (by rw [e])) (List.pairwise_map.1 hk)
  simpa using h1.length_eq

/-- The row behind k of these calls. -/
structure Many (n : Int) (k : Nat) (S : List KT) : Prop where
  len : S.length = min k 1024
  only : ∀ y ∈ S, ∃ j : Nat, j < k ∧ y = (keyI j, n - j)
  all : ∀ j : Nat, j < k → j < 1024 → (keyI j, n - j) ∈ S

theorem Many.zero (n : Int) : Many n 0 [] := ⟨rfl, by simp, by omega⟩
theorem Many.no {n : Int} {k : Nat} {S : List KT} (h : Many n k S) (hk : k ≤ 1026) : ∀ y ∈ S, y.1 ≠ keyI k := by
  intro y hy e
  obtain ⟨j, hj, rfl⟩ := h.only y hy
  have := keyI_inj (by omega) (by omega) e
  omega
theorem Many.room {n : Int} {k : Nat} {S : List KT} (h : Many n k S) (hk : k < 1024) (hn : (k : Int) < n) (hn2 : n ≤ 2000) : setS S (keyI k) (n - k) = (ins (keyI k, n - k) S, 0) ∧ Many n (k + 1) (ins (keyI k, n - k) S) := by
  have hl := h.len
  refine ⟨setS_new (by omega) (by omega) (by omega) (h.no (by omega)), by rw [ins_length, hl]; omega, ?_, ?_⟩
  · intro y hy
    rcases ins_mem.1 hy with rfl | hy
    · exact ⟨k, by omega, rfl⟩
    · obtain ⟨j, hj, e⟩ := h.only y hy
      exact ⟨j, by omega, e⟩
  · intro j hj hj2
    by_cases e : j = k
    · subst e; exact ins_mem.2 (Or.inl rfl)
    · exact ins_mem.2 (Or.inr (h.all j (by omega) hj2))
theorem Many.full {n : Int} {k : Nat} {S : List KT} (h : Many n k S) (hk : 1024 ≤ k) (hk2 : k ≤ 1026) (hn : (k : Int) < n) (hn2 : n ≤ 2000) : setS S (keyI k) (n - k) = (S, 9) ∧ Many n (k + 1) S := by
  have hl := h.len
  refine ⟨?_, by rw [hl]; omega, ?_, ?_⟩
  · rw [setS, if_neg (by omega), if_pos ⟨atS_none.2 (h.no hk2), by omega⟩]
  · intro y hy
    obtain ⟨j, hj, e⟩ := h.only y hy
    exact ⟨j, by omega, e⟩
  · intro j hj hj2; exact h.all j (by omega) hj2
theorem Many.last {n : Int} {k : Nat} {S : List KT} (h : Many n k S) (hk : Keys1 S) (hr : Row S) (hk1 : 1 ≤ k) (hkn : (k : Int) = n) :
    (setS S (keyI 0) 0).2 = 0 ∧ (setS S (keyI 0) 0).1.length = min k 1024 ∧ (dueK (setS S (keyI 0) 0).1 0).length = 1 := by
  have h0 := h.all 0 (by omega) (by omega)
  have hat : atS S (keyI 0) = some n := by rw [atS_some hk]; simpa using h0
  have e : setS S (keyI 0) 0 = (ins (keyI 0, 0) (delS (keyI 0) S), 0) := by rw [setS, if_neg (by omega), if_neg (by rw [hat]; simp)]
  rw [e]
  refine ⟨rfl, ?_, ?_⟩
  · rw [ins_length, del_length hk h0]; exact h.len
  · rw [due_filter (ins_row (delS_row hr _) (fun y hy => (delS_mem.1 hy).2)), List.length_map]
    have hp := (ins_perm (keyI 0, 0) (delS (keyI 0) S)).filter (fun x : KT => decide (x.2 ≤ 0))
    rw [hp.length_eq, List.filter_cons]
    have : (delS (keyI 0) S).filter (fun x : KT => decide (x.2 ≤ 0)) = [] := by
      rw [List.filter_eq_nil_iff]
      intro y hy
      obtain ⟨j, hj, rfl⟩ := h.only y (delS_mem.1 hy).1
      simp; omega
    simp [this]

def ManyRel (n : Int) (w : World) (q : Nat) (v : Value) (wr : World) : Prop := ∃ (k : Nat) (S : List KT), v = .int .i64 k ∧ (k : Int) ≤ n ∧ Many n k S ∧ Own w wr [QA q S]

set_option maxRecDepth 100000 in
set_option maxHeartbeats 4000000 in
theorem walk_DueMany (w : World) (x : Int) (wx : (Lit.int .i64 x).wf = true) : Calls Try.prog 3 #[.int .i64 x] w (TruePost w) := by
  have hx := mod64 x 6 (by omega) (by omega)
  clear wx
  go_enter Try.func3, Try.ntmps3
  go_wp2_with fail
  refine (o_new (Own.nil w)).mono ?_
  rintro e w1 ⟨q, rfl, ho⟩
  have HS : Hid (∀ n, 0 ≤ n → ManyRel n w q (.int .i64 0) w1) := Lib.hid fun n hn => ⟨0, [], rfl, by omega, Many.zero n, ho⟩
  clear ho
  go_wp2_with fail
  generalize wrap64 ((IntKind.u64.wrap x).tmod 6) = x0 at *
  go_loopw [13] (ManyRel (1021 + x0) w q) (fun v _ => (1021 + x0 - intOf v).toNat)
  case atStart => exact HS.out _ (by omega)
  case round =>
    obtain ⟨k, S, rfl, hk, hM, ho⟩ := hrel
    clear HS
    by_cases hlt : (k : Int) < 1021 + x0
    · have hk6 : (k : Int) ≤ 1026 := by omega
      have hc := conv2 (w := wr.alloc (.cells #[.int .u8 ((k : Int) / 256), .int .u8 ((k : Int) % 256)] 5)) (b := wr.heap.size) hp_alloc_new
      have HO := Lib.hid (ho.alloc (.cells #[.int .u8 ((k : Int) / 256), .int .u8 ((k : Int) % 256)] 5))
      clear ho
      by_cases h1024 : k < 1024
      · have h1024' : (k : Int) < 1024 := by omega
        have HM := Lib.hid (hM.room h1024 hlt (by omega))
        clear hM
        go_wp2_with fail
        refine (o_set HO.out 0 rfl (key2_size _ _) _).mono ?_
        rintro e w3 ⟨he, h3⟩
        have hm := HM.out.1
        unfold keyI at hm
        rw [hm] at he h3
        subst he
        have HR : Hid (ManyRel (1021 + x0) w q (.int .i64 (k + 1)) w3) := Lib.hid ⟨k + 1, _, by congr 1, by omega, HM.out.2, h3⟩
        clear h3 hm
        go_wp2_with fail
        go_roundw
        case rel => exact HR.out
        case measure => simp [intOf]; omega
      · have h1024' : (1024 : Int) ≤ (k : Int) := by omega
        have HM := Lib.hid (hM.full (by omega) (by omega) hlt (by omega))
        clear hM
        go_wp2_with fail
        refine (o_set HO.out 0 rfl (key2_size _ _) _).mono ?_
        rintro e w3 ⟨he, h3⟩
        have hm := HM.out.1
        unfold keyI at hm
        rw [hm] at he h3
        subst he
        have HR : Hid (ManyRel (1021 + x0) w q (.int .i64 (k + 1)) w3) := Lib.hid ⟨k + 1, _, by congr 1, by omega, HM.out.2, h3⟩
        clear h3 hm
        go_wp2_with fail
        go_roundw
        case rel => exact HR.out
        case measure => simp [intOf]; omega
    · have hge : 1021 + x0 ≤ (k : Int) := by omega
      have hkn : (k : Int) = 1021 + x0 := by omega
      have hc := conv2 (w := wr.alloc (.cells #[.int .u8 0, .int .u8 0] 5)) (b := wr.heap.size) hp_alloc_new
      have hK : Keys1 S := by obtain ⟨F, hq⟩ := ho.get 0 rfl; exact IsQ.keys hq
      have hR : Row S := by obtain ⟨F, hq⟩ := ho.get 0 rfl; exact IsQ.row hq
      have HM := Lib.hid (hM.last hK hR (by omega) hkn)
      have HO := Lib.hid (ho.alloc (.cells #[.int .u8 0, .int .u8 0] 5))
      have HKN := Lib.hid hkn
      clear ho hM hK hR hkn hlt
      by_cases hA : 1021 + x0 ≤ 1024
      · have hA' : 1021 + x0 ≤ 1024 := by omega
        go_wp2_with fail
        refine (o_set HO.out 0 rfl (key2_size _ _) _).mono ?_
        rintro e w3 ⟨he, h3⟩
        have h3' : Own w w3 [QA q (setS S (keyI 0) 0).1] := h3
        have he' : e = .returned (.int .i64 0) := by rw [he]; exact congrArg (fun z => Ending.returned (.int .i64 z)) HM.out.1
        clear he h3
        subst he'
        have H3 := Lib.hid h3'
        clear h3'
        go_wp2_with fail
        refine (o_len H3.out 0 rfl).mono ?_
        rintro e w4 ⟨rfl, rfl⟩
        have hl : (((setS S (keyI 0) 0).1.length : Nat) : Int) = 1021 + x0 := by have := HM.out.2.1; have := HKN.out; omega
        rw [hl]
        clear hl
        go_wp2_with fail
        refine (o_due H3.out 0 rfl _).mono ?_
        rintro e w5 ⟨v1, rfl, h5⟩
        obtain ⟨a1, cap1, hv1, _⟩ := (h5.get 0 rfl).choose_spec.2.shape
        rw [HM.out.2.2] at hv1
        subst hv1
        have H5 := Lib.hid h5
        clear h5
        go_wp2_with fail
        refine (o_awake H5.out).mono ?_
        rintro e w6 ⟨rfl, h6⟩
        have H6 := Lib.hid h6
        clear h6
        go_wp2_with fail
        go_ret
        exact ⟨rfl, H6.out.mod⟩
      · have hA' : 1024 < 1021 + x0 := by omega
        go_wp2_with fail
        refine (o_set HO.out 0 rfl (key2_size _ _) _).mono ?_
        rintro e w3 ⟨he, h3⟩
        have h3' : Own w w3 [QA q (setS S (keyI 0) 0).1] := h3
        have he' : e = .returned (.int .i64 0) := by rw [he]; exact congrArg (fun z => Ending.returned (.int .i64 z)) HM.out.1
        clear he h3
        subst he'
        have H3 := Lib.hid h3'
        clear h3'
        go_wp2_with fail
        refine (o_len H3.out 0 rfl).mono ?_
        rintro e w4 ⟨rfl, rfl⟩
        have hl : (((setS S (keyI 0) 0).1.length : Nat) : Int) = 1024 := by have := HM.out.2.1; have := HKN.out; omega
        rw [hl]
        clear hl
        go_wp2_with fail
        refine (o_due H3.out 0 rfl _).mono ?_
        rintro e w5 ⟨v1, rfl, h5⟩
        obtain ⟨a1, cap1, hv1, _⟩ := (h5.get 0 rfl).choose_spec.2.shape
        rw [HM.out.2.2] at hv1
        subst hv1
        have H5 := Lib.hid h5
        clear h5
        go_wp2_with fail
        refine (o_awake H5.out).mono ?_
        rintro e w6 ⟨rfl, h6⟩
        have H6 := Lib.hid h6
        clear h6
        go_wp2_with fail
        go_ret
        exact ⟨rfl, H6.out.mod⟩
end Go.Proofs.Ytijkfcapooldiaa
