/- One key's time, set or dropped, makes no difference to others. -/
import Derived.Test.YtijkfcapooldiaaDueArgs
import Derived.Test.YtijkfcapooldiaaDuePlain2
namespace Go.Proofs.Ytijkfcapooldiaa
open Go.RowKit
set_option linter.unusedVariables false

def ApartRel (len : Nat) (key : ByteArray) (w : World) (p q : Nat) (v : Value) (wr : World) : Prop :=
  ∃ (k : Nat) (S : List KT), v = .int .i64 k ∧ k ≤ len ∧ k ≤ 60 ∧ S.length ≤ k ∧ (∀ y ∈ S, y.1 ≠ key) ∧ Own w wr [QA q S, QA p S]
theorem q_keys {w wr : World} {q : Nat} {S : List KT} {R : List Asrt} (h : Own w wr (QA q S :: R)) : Keys1 S := by
  obtain ⟨F, hq⟩ := h.get 0 rfl
  exact IsQ.keys hq
theorem str_ne {a b : ByteArray} (h : a ≠ b) : (a.toList == b.toList) = false := by
  rw [beq_eq_false_iff_ne, toList_data, toList_data]; exact fun e => h (ba_ext e)

set_option maxRecDepth 100000 in
set_option maxHeartbeats 8000000 in
theorem walk_DueApart (w : World) {a : Option Addr} {len cap : Nat} {cs : List CallT} (hl : ArgCalls w a len cap cs) (key : ByteArray) (hkey : key.size ≤ maxLen) (x : Int) (wx : (Lit.int .i64 x).wf = true) :
    Calls Try.prog 6 #[.slice a len cap, .string key, .int .i64 x] w (TruePost w) := by
  have HL := Lib.hid hl
  have hlen : len ≤ 9223372036854775807 := by have := hl.room; have := hl.most; unfold maxLen at this; omega
  clear hl wx
  have ht := mod64 x 1000 (by omega) (by omega)
  go_enter Try.func6, Try.ntmps6
  go_wp2_with fail
  refine (o_new (Own.nil w)).mono ?_
  rintro e w1 ⟨p, rfl, ho⟩
  have H1 := Lib.hid ho
  clear ho
  go_wp2_with fail
  refine (o_new H1.out).mono ?_
  rintro e w2 ⟨q, rfl, ho⟩
  have HS : Hid (ApartRel len key w p q (.int .i64 0) w2) := Lib.hid ⟨0, [], rfl, Nat.zero_le _, by omega, by simp, by simp, ho⟩
  clear ho H1
  go_wp2_with fail
  generalize wrap64 ((IntKind.u64.wrap x).tmod 1000) = t0 at *
  go_loopw [23] (ApartRel len key w p q) (fun v _ => len - (intOf v).toNat)
  case atStart => exact HS.out
  case round =>
    obtain ⟨k, S, rfl, hk, hk60, hSk, hSn, ho⟩ := hrel
    clear HS
    by_cases hlt : k < len
    · obtain ⟨b, o, n, ck, t, rfl, hb, _, hks, c0, c1, c2⟩ := HL.out.read hlt
      rw [← ho.old hb] at c0 c1 c2
      have hlt' : (k : Int) < (len : Int) := by omega
      by_cases hk6 : k < 60
      · have hk6' : (k : Int) < 60 := by omega
        by_cases hn : n = 0
        · subst hn
          by_cases hck : ck = key
          · subst hck
            have HR : Hid (ApartRel len ck w p q (.int .i64 (k + 1)) (wr.alloc (.cells #[.int .i64 0, .string ck, .int .i64 t] 42))) := Lib.hid ⟨k + 1, S, by congr 1, by omega, by omega, by omega, hSn, ho.alloc _⟩
            clear ho hSn
            go_wp2_with fail
            go_roundw
            case rel => exact HR.out
            case measure => simp [intOf]; omega
          · have hstr := str_ne hck
            have HO := Lib.hid ho
            have HN := Lib.hid hSn
            have HCK := Lib.hid hck
            clear ho hSn hck
            go_wp2_with fail
            have HC := Lib.hid (HO.out.cells #[.int .i64 0, .string ck, .int .i64 t] 42)
            refine (o_set HC.out 2 rfl hks _).mono ?_
            rintro e w3 ⟨rfl, h3⟩
            have d1 : w3.cell? ⟨wr.heap.size, 1, none⟩ = some (.string ck) := cell_of (h3.block 0 rfl) rfl
            have d2 : w3.cell? ⟨wr.heap.size, 2, none⟩ = some (.int .i64 t) := cell_of (h3.block 0 rfl) rfl
            have H3 := Lib.hid h3
            clear h3
            go_wp2_with fail
            refine (o_set H3.out 1 rfl hks _).mono ?_
            rintro e w4 ⟨rfl, h4⟩
            have HR : Hid (ApartRel len key w p q (.int .i64 (k + 1)) w4) := Lib.hid ⟨k + 1, _, by congr 1, by omega, by omega, by have := setS_length (S := S) (k := ck) (t := t); omega, fun y hy => by
              rcases setS_mem y hy with h | h
              · exact HN.out y h
              · rw [h]; exact HCK.out, h4.drop⟩
            clear h4 d1 d2
            go_wp2_with fail
            go_roundw
            case rel => exact HR.out
            case measure => simp [intOf]; omega
        · have hn' : ((n : Int) == 0) = false := by simpa using hn
          have HR : Hid (ApartRel len key w p q (.int .i64 (k + 1)) (wr.alloc (.cells #[.int .i64 n, .string ck, .int .i64 t] 42))) := Lib.hid ⟨k + 1, S, by congr 1, by omega, by omega, by omega, hSn, ho.alloc _⟩
          clear ho hSn hn
          go_wp2_with fail
          go_roundw
          case rel => exact HR.out
          case measure => simp [intOf]; omega
      · have hk6' : (60 : Int) ≤ k := by omega
        have HO := Lib.hid (ho.alloc (.cells #[.int .i64 n, .string ck, .int .i64 t] 42))
        have HSET := Lib.hid (setS_new (t := t0) ht.1 (by omega) (by omega) hSn)
        have HAT := Lib.hid (at_ins (t := t0) (q_keys ho) hSn)
        have HDEL := Lib.hid (del_ins (t := t0) hSn)
        have HAT2 : Hid (atS S key = none) := Lib.hid (atS_none.2 hSn)
        clear ho hSn
        go_wp2_with fail
        refine (o_set HO.out 1 rfl hkey _).mono ?_
        rintro e w3 ⟨he, h3⟩
        rw [HSET.out] at he h3
        subst he
        have H3 := Lib.hid h3
        clear h3
        go_wp2_with fail
        refine (o_at H3.out 1 rfl hkey).mono ?_
        rintro e w4 ⟨he, m, rfl⟩
        rw [HAT.out] at he
        subst he
        have H4 := Lib.hid (H3.out.drewN m)
        go_wp2_with fail
        refine (o_drop H4.out 1 rfl hkey).mono ?_
        rintro e w5 ⟨he, h5⟩
        rw [HAT.out] at he
        rw [HDEL.out] at h5
        subst he
        have H5 := Lib.hid h5
        clear h5
        go_wp2_with fail
        refine (o_drop H5.out 1 rfl hkey).mono ?_
        rintro e w6 ⟨he, h6⟩
        rw [HAT2.out] at he
        rw [delS_none (atS_none.1 HAT2.out)] at h6
        subst he
        have H6 := Lib.hid h6
        clear h6
        go_wp2_with fail
        refine (o_at H6.out 1 rfl hkey).mono ?_
        rintro e w7 ⟨he, m7, rfl⟩
        rw [HAT2.out] at he
        subst he
        have H7 := Lib.hid (H6.out.drewN m7)
        go_wp2_with fail
        refine (o_len H7.out 1 rfl).mono ?_
        rintro e w8 ⟨rfl, rfl⟩
        go_wp2_with fail
        refine (o_len H7.out 0 rfl).mono ?_
        rintro e w8 ⟨rfl, rfl⟩
        go_wp2_with fail
        refine (o_due H7.out 1 rfl _).mono ?_
        rintro e w8 ⟨v1, rfl, h8⟩
        have H8 := Lib.hid h8
        clear h8
        go_wp2_with fail
        refine (o_due H8.out 1 rfl _).mono ?_
        rintro e w9 ⟨v2, rfl, h9⟩
        have H9 := Lib.hid h9
        clear h9
        go_wp2_with fail
        refine (o_same H9.out 1 0 rfl rfl).mono ?_
        rintro e w10 ⟨he, m10, rfl⟩
        have he' : e = .returned (.bool true) := by rw [he]; simp
        clear he
        subst he'
        have H10 := Lib.hid (H9.out.drewN m10)
        go_wp2_with fail
        refine (o_awake H10.out).mono ?_
        rintro e w11 ⟨rfl, h11⟩
        have H11 := Lib.hid h11
        clear h11
        go_wp2_with fail
        go_ret
        exact ⟨rfl, H11.out.mod⟩
    · have hge : (len : Int) ≤ (k : Int) := by omega
      have HO := Lib.hid ho
      have HSET := Lib.hid (setS_new (t := t0) ht.1 (by omega) (by omega) hSn)
      have HAT := Lib.hid (at_ins (t := t0) (q_keys ho) hSn)
      have HDEL := Lib.hid (del_ins (t := t0) hSn)
      have HAT2 : Hid (atS S key = none) := Lib.hid (atS_none.2 hSn)
      clear ho hSn
      go_wp2_with fail
      refine (o_set HO.out 1 rfl hkey _).mono ?_
      rintro e w3 ⟨he, h3⟩
      rw [HSET.out] at he h3
      subst he
      have H3 := Lib.hid h3
      clear h3
      go_wp2_with fail
      refine (o_at H3.out 1 rfl hkey).mono ?_
      rintro e w4 ⟨he, m, rfl⟩
      rw [HAT.out] at he
      subst he
      have H4 := Lib.hid (H3.out.drewN m)
      go_wp2_with fail
      refine (o_drop H4.out 1 rfl hkey).mono ?_
      rintro e w5 ⟨he, h5⟩
      rw [HAT.out] at he
      rw [HDEL.out] at h5
      subst he
      have H5 := Lib.hid h5
      clear h5
      go_wp2_with fail
      refine (o_drop H5.out 1 rfl hkey).mono ?_
      rintro e w6 ⟨he, h6⟩
      rw [HAT2.out] at he
      rw [delS_none (atS_none.1 HAT2.out)] at h6
      subst he
      have H6 := Lib.hid h6
      clear h6
      go_wp2_with fail
      refine (o_at H6.out 1 rfl hkey).mono ?_
      rintro e w7 ⟨he, m7, rfl⟩
      rw [HAT2.out] at he
      subst he
      have H7 := Lib.hid (H6.out.drewN m7)
      go_wp2_with fail
      refine (o_len H7.out 1 rfl).mono ?_
      rintro e w8 ⟨rfl, rfl⟩
      go_wp2_with fail
      refine (o_len H7.out 0 rfl).mono ?_
      rintro e w8 ⟨rfl, rfl⟩
      go_wp2_with fail
      refine (o_due H7.out 1 rfl _).mono ?_
      rintro e w8 ⟨v1, rfl, h8⟩
      have H8 := Lib.hid h8
      clear h8
      go_wp2_with fail
      refine (o_due H8.out 1 rfl _).mono ?_
      rintro e w9 ⟨v2, rfl, h9⟩
      have H9 := Lib.hid h9
      clear h9
      go_wp2_with fail
      refine (o_same H9.out 1 0 rfl rfl).mono ?_
      rintro e w10 ⟨he, m10, rfl⟩
      have he' : e = .returned (.bool true) := by rw [he]; simp
      clear he
      subst he'
      have H10 := Lib.hid (H9.out.drewN m10)
      go_wp2_with fail
      refine (o_awake H10.out).mono ?_
      rintro e w11 ⟨rfl, h11⟩
      have H11 := Lib.hid h11
      clear h11
      go_wp2_with fail
      go_ret
      exact ⟨rfl, H11.out.mod⟩

end Go.Proofs.Ytijkfcapooldiaa
