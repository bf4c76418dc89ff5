/- What is due up to a time, and then up to a later one. -/
import Derived.Test.YtijkfcapooldiaaDueArgs
namespace Go.Proofs.Ytijkfcapooldiaa
open Go.RowKit
set_option linter.unusedVariables false

def TwoRel (len : Nat) (w : World) (p q : Nat) (v : Value) (wr : World) : Prop := ∃ (k : Nat) (S : List KT), v = .int .i64 k ∧ k ≤ len ∧ Own w wr [QA q S, QA p S]
theorem two_len {w wr : World} {p q : Nat} {S : List KT} (h : Own w wr [QA q S, QA p S]) : S.length ≤ 1024 := by
  obtain ⟨F, hq⟩ := h.get 0 rfl
  exact IsQ.len hq

set_option maxRecDepth 100000 in
set_option maxHeartbeats 8000000 in
theorem walk_DueParts (w : World) {a : Option Addr} {len cap : Nat} {cs : List CallT} (hl : ArgCalls w a len cap cs) (x : Int) (wx : (Lit.int .i64 x).wf = true) (y : Int) (wy : (Lit.int .i64 y).wf = true) :
    Calls Try.prog 5 #[.slice a len cap, .int .i64 x, .int .i64 y] w (TruePost w) := by
  have HL := Lib.hid hl
  have hlen : len ≤ 9223372036854775807 := by have := hl.room; have := hl.most; unfold maxLen at this; omega
  clear hl wx wy
  by_cases hway : wrap64 ((IntKind.u64.wrap y).tmod 100) < wrap64 ((IntKind.u64.wrap x).tmod 100)
  · go_enter Try.func5, Try.ntmps5
    go_wp2_with fail
    generalize wrap64 ((IntKind.u64.wrap y).tmod 100) = ty at *
    generalize wrap64 ((IntKind.u64.wrap x).tmod 100) = tx at *
    have HAB : Hid (ty ≤ tx) := Lib.hid (by omega)
    refine (o_new (Own.nil w)).mono ?_
    rintro e w1 ⟨p, rfl, ho⟩
    have H1 := Lib.hid ho
    clear ho
    go_wp2_with fail
    refine (o_new H1.out).mono ?_
    rintro e w2 ⟨q, rfl, ho⟩
    have HS : Hid (TwoRel len w p q (.int .i64 0) w2) := Lib.hid ⟨0, [], rfl, Nat.zero_le _, ho⟩
    clear ho H1 hway
    go_wp2_with fail
    go_loopw [29] (TwoRel len w p q) (fun v _ => len - (intOf v).toNat)
    case atStart => exact HS.out
    case round =>
      obtain ⟨k, S, rfl, hk, ho⟩ := hrel
      clear HS
      by_cases hlt : k < len
      · obtain ⟨b, o, n, key, t, rfl, hb, _, hks, c0, c1, c2⟩ := HL.out.read hlt
        rw [← ho.old hb] at c0 c1 c2
        have hlt' : (k : Int) < (len : Int) := by omega
        have HO := Lib.hid ho
        clear ho
        by_cases hk6 : k < 60
        · have hk6' : (k : Int) < 60 := by omega
          go_wp2_with fail
          have HC := Lib.hid (HO.out.cells #[.int .i64 n, .string key, .int .i64 t] 42)
          refine (o_set HC.out 2 rfl hks _).mono ?_
          rintro e w3 ⟨rfl, h3⟩
          have d1 : w3.cell? ⟨wr.heap.size, 1, none⟩ = some (.string key) := cell_of (h3.block 0 rfl) rfl
          have d2 : w3.cell? ⟨wr.heap.size, 2, none⟩ = some (.int .i64 t) := cell_of (h3.block 0 rfl) rfl
          have H3 := Lib.hid h3
          clear h3
          go_wp2_with fail
          refine (o_set H3.out 1 rfl hks _).mono ?_
          rintro e w4 ⟨rfl, h4⟩
          have HR : Hid (TwoRel len w p q (.int .i64 (k + 1)) w4) := Lib.hid ⟨k + 1, _, by congr 1, by omega, h4.drop⟩
          clear h4 d1 d2
          go_wp2_with fail
          go_roundw
          case rel => exact HR.out
          case measure => simp [intOf]; omega
        · have hk6' : (60 : Int) ≤ k := by omega
          have HR : Hid (TwoRel len w p q (.int .i64 (k + 1)) (wr.alloc (.cells #[.int .i64 n, .string key, .int .i64 t] 42))) := Lib.hid ⟨k + 1, _, by congr 1, by omega, HO.out.alloc _⟩
          go_wp2_with fail
          go_roundw
          case rel => exact HR.out
          case measure => simp [intOf]; omega
      · have hge : (len : Int) ≤ (k : Int) := by omega
        have HO := Lib.hid ho
        have hS := two_len ho
        clear ho hlt
        go_wp2_with fail
        refine (o_due HO.out 1 rfl _).mono ?_
        rintro e w3 ⟨v1, rfl, h3⟩
        have H3 := Lib.hid h3
        clear h3
        go_wp2_with fail
        refine (o_due H3.out 2 rfl _).mono ?_
        rintro e w4 ⟨v2, rfl, h4⟩
        have s1 := (h4.get 1 rfl).choose_spec.2
        have s2 := (h4.get 0 rfl).choose_spec.2
        have H4 := Lib.hid h4
        have hb : (dueK S ty).length + (dueK (dueR S ty) tx).length ≤ 1099511627776 := by
          have := dueK_length S ty; have := dueK_length (dueR S ty) tx; have := dueR_length S ty; omega
        have S1 := Lib.hid s1
        have S2 := Lib.hid s2
        have HB := Lib.hid hb
        clear h4 s1 s2 hb
        go_wp2_with (at_builtin; refine wpList_append_strs rfl (.tmp 57) (.tmp 60) rfl _ _ _ _ rfl rfl S1.out S2.out HB.out ?_)
        intro v3 w5 s3 g3 a3
        have h5 := own_append H4.out 1 rfl s3 g3 a3
        have H5 := Lib.hid h5
        clear h5 s3 g3 a3
        go_wp2_with fail
        refine (o_due H5.out 2 rfl _).mono ?_
        rintro e w6 ⟨v4, rfl, h6⟩
        have H6 := Lib.hid h6
        clear h6
        go_wp2_with fail
        refine (o_same H6.out 2 0 rfl rfl).mono ?_
        rintro e w7 ⟨he, m, rfl⟩
        have he' : e = .returned (.bool true) := by rw [he, (due_parts HAB.out S).1]; simp
        clear he
        subst he'
        have H7 := Lib.hid (H6.out.drewN m)
        go_wp2_with fail
        refine (o_len H7.out 4 rfl).mono ?_
        rintro e w8 ⟨rfl, rfl⟩
        go_wp2_with fail
        refine (o_len H7.out 3 rfl).mono ?_
        rintro e w8 ⟨rfl, rfl⟩
        have hq : (((dueR (dueR S ty) tx).length : Int) == ((dueR S tx).length : Int)) = true := by rw [(due_parts HAB.out S).2]; simp
        go_wp2_with fail
        refine (o_awake H7.out).mono ?_
        rintro e w8 ⟨rfl, h8⟩
        have H8 := Lib.hid h8
        clear h8
        go_wp2_with fail
        go_ret
        exact ⟨rfl, H8.out.mod⟩
  · go_enter Try.func5, Try.ntmps5
    go_wp2_with fail
    generalize wrap64 ((IntKind.u64.wrap y).tmod 100) = ty at *
    generalize wrap64 ((IntKind.u64.wrap x).tmod 100) = tx at *
    have HAB : Hid (tx ≤ ty) := Lib.hid (by omega)
    refine (o_new (Own.nil w)).mono ?_
    rintro e w1 ⟨p, rfl, ho⟩
    have H1 := Lib.hid ho
    clear ho
    go_wp2_with fail
    refine (o_new H1.out).mono ?_
    rintro e w2 ⟨q, rfl, ho⟩
    have HS : Hid (TwoRel len w p q (.int .i64 0) w2) := Lib.hid ⟨0, [], rfl, Nat.zero_le _, ho⟩
    clear ho H1 hway
    go_wp2_with fail
    go_loopw [29] (TwoRel len w p q) (fun v _ => len - (intOf v).toNat)
    case atStart => exact HS.out
    case round =>
      obtain ⟨k, S, rfl, hk, ho⟩ := hrel
      clear HS
      by_cases hlt : k < len
      · obtain ⟨b, o, n, key, t, rfl, hb, _, hks, c0, c1, c2⟩ := HL.out.read hlt
        rw [← ho.old hb] at c0 c1 c2
        have hlt' : (k : Int) < (len : Int) := by omega
        have HO := Lib.hid ho
        clear ho
        by_cases hk6 : k < 60
        · have hk6' : (k : Int) < 60 := by omega
          go_wp2_with fail
          have HC := Lib.hid (HO.out.cells #[.int .i64 n, .string key, .int .i64 t] 42)
          refine (o_set HC.out 2 rfl hks _).mono ?_
          rintro e w3 ⟨rfl, h3⟩
          have d1 : w3.cell? ⟨wr.heap.size, 1, none⟩ = some (.string key) := cell_of (h3.block 0 rfl) rfl
          have d2 : w3.cell? ⟨wr.heap.size, 2, none⟩ = some (.int .i64 t) := cell_of (h3.block 0 rfl) rfl
          have H3 := Lib.hid h3
          clear h3
          go_wp2_with fail
          refine (o_set H3.out 1 rfl hks _).mono ?_
          rintro e w4 ⟨rfl, h4⟩
          have HR : Hid (TwoRel len w p q (.int .i64 (k + 1)) w4) := Lib.hid ⟨k + 1, _, by congr 1, by omega, h4.drop⟩
          clear h4 d1 d2
          go_wp2_with fail
          go_roundw
          case rel => exact HR.out
          case measure => simp [intOf]; omega
        · have hk6' : (60 : Int) ≤ k := by omega
          have HR : Hid (TwoRel len w p q (.int .i64 (k + 1)) (wr.alloc (.cells #[.int .i64 n, .string key, .int .i64 t] 42))) := Lib.hid ⟨k + 1, _, by congr 1, by omega, HO.out.alloc _⟩
          go_wp2_with fail
          go_roundw
          case rel => exact HR.out
          case measure => simp [intOf]; omega
      · have hge : (len : Int) ≤ (k : Int) := by omega
        have HO := Lib.hid ho
        have hS := two_len ho
        clear ho hlt
        go_wp2_with fail
        refine (o_due HO.out 1 rfl _).mono ?_
        rintro e w3 ⟨v1, rfl, h3⟩
        have H3 := Lib.hid h3
        clear h3
        go_wp2_with fail
        refine (o_due H3.out 2 rfl _).mono ?_
        rintro e w4 ⟨v2, rfl, h4⟩
        have s1 := (h4.get 1 rfl).choose_spec.2
        have s2 := (h4.get 0 rfl).choose_spec.2
        have H4 := Lib.hid h4
        have hb : (dueK S tx).length + (dueK (dueR S tx) ty).length ≤ 1099511627776 := by
          have := dueK_length S tx; have := dueK_length (dueR S tx) ty; have := dueR_length S tx; omega
        have S1 := Lib.hid s1
        have S2 := Lib.hid s2
        have HB := Lib.hid hb
        clear h4 s1 s2 hb
        go_wp2_with (at_builtin; refine wpList_append_strs rfl (.tmp 57) (.tmp 60) rfl _ _ _ _ rfl rfl S1.out S2.out HB.out ?_)
        intro v3 w5 s3 g3 a3
        have h5 := own_append H4.out 1 rfl s3 g3 a3
        have H5 := Lib.hid h5
        clear h5 s3 g3 a3
        go_wp2_with fail
        refine (o_due H5.out 2 rfl _).mono ?_
        rintro e w6 ⟨v4, rfl, h6⟩
        have H6 := Lib.hid h6
        clear h6
        go_wp2_with fail
        refine (o_same H6.out 2 0 rfl rfl).mono ?_
        rintro e w7 ⟨he, m, rfl⟩
        have he' : e = .returned (.bool true) := by rw [he, (due_parts HAB.out S).1]; simp
        clear he
        subst he'
        have H7 := Lib.hid (H6.out.drewN m)
        go_wp2_with fail
        refine (o_len H7.out 4 rfl).mono ?_
        rintro e w8 ⟨rfl, rfl⟩
        go_wp2_with fail
        refine (o_len H7.out 3 rfl).mono ?_
        rintro e w8 ⟨rfl, rfl⟩
        have hq : (((dueR (dueR S tx) ty).length : Int) == ((dueR S ty).length : Int)) = true := by rw [(due_parts HAB.out S).2]; simp
        go_wp2_with fail
        refine (o_awake H7.out).mono ?_
        rintro e w8 ⟨rfl, h8⟩
        have H8 := Lib.hid h8
        clear h8
        go_wp2_with fail
        go_ret
        exact ⟨rfl, H8.out.mod⟩

end Go.Proofs.Ytijkfcapooldiaa
