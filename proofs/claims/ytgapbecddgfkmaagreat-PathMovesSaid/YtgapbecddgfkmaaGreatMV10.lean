/- Rows.PathMovesSaid -/
import Derived.Test.YtgapbecddgfkmaaGreatMV8
import Derived.Test.YtgapbecddgfkmaaGreatMV4
import Derived.BigQuiet
import Derived.Deep.QuietTactic
import Derived.Test.YtgapbecddgfkmaaGreatMV9
import Derived.Deep.RegionHeld3
import Derived.Test.YtgapbecddgfkmaaGreatMV2
import Derived.Deep.MidRow
import Derived.OrdersHeld
import Derived.StillTail
import Derived.Deep.RegionHeld
import Derived.Deep.DeepCutAuto
import Derived.Lib.SliceRun
namespace Go.Proofs.YtgapbecddgfkmaaGreat
open Go.RowKit
set_option linter.unusedVariables false
set_option maxHeartbeats 64000000
set_option maxRecDepth 100000
theorem upId_snoc : ∀ (l : List Bk) (b : Bk), upId (l ++ [b]) = (upId l && (match l.getLast? with | none => true | some a => decide (a.id < b.id)))
  | [], b => rfl
  | [a], b => by simp [upId]
  | a :: c :: r, b => by
    have ih := upId_snoc (c :: r) b
    simp only [List.cons_append] at ih ⊢
    simp only [upId, ih, List.getLast?_cons_cons, Bool.and_assoc]
theorem gn_weighed (x : Int) (w : World) : Calls Tryz.prog 73 #[.int .i64 x] w fun e w' => e = .returned (.bool (decide (1 ≤ x ∧ x ≤ 10))) ∧ w' = w := by
  by_cases h0 : 1 ≤ x
  · by_cases h1 : x ≤ 10
    · have e : decide (1 ≤ x ∧ x ≤ 10) = true := decide_eq_true ⟨h0, h1⟩
      rw [e]; clear e
      go_enter Tryz.func73, Tryz.ntmps73
      go_wp2_with fail
      go_ret
      exact ⟨rfl, rfl⟩
    · have e : decide (1 ≤ x ∧ x ≤ 10) = false := decide_eq_false (fun h => h1 h.2)
      have q : decide (x ≤ 10) = false := decide_eq_false h1
      rw [e]; clear e h1
      go_enter Tryz.func73, Tryz.ntmps73
      go_wp2_with fail
      go_ret
      exact ⟨rfl, rfl⟩
  · have e : decide (1 ≤ x ∧ x ≤ 10) = false := decide_eq_false (fun h => h0 h.1)
    have q : decide (1 ≤ x) = false := decide_eq_false h0
    rw [e]; clear e h0
    go_enter Tryz.func73, Tryz.ntmps73
    go_wp2_with fail
    go_ret
    exact ⟨rfl, rfl⟩
section
variable {F0 : List Nat} {w0 w : World} {R : List Asrt}
def GnRel (l : List Bk) (F0 : List Nat) (w0 : World) (R : List Asrt) (i : Value) (wr : World) : Prop :=
  ∃ k : Nat, k ≤ l.length ∧ i = .int .i64 k ∧ (∀ b ∈ l.take k, mayBk b = true) ∧ upId (l.take k) = true ∧ In F0 w0 wr R
def GnPost (r : Bool) (F0 : List Nat) (w0 : World) (R : List Asrt) (e : Ending) (w' : World) : Prop := e = .returned (.bool r) ∧ In F0 w0 w' R
def gnOk (l : List Bk) (k : Nat) (b : Bk) : Bool := mayBk b && (match (l.take k).getLast? with | none => true | some a => decide (a.id < b.id))
theorem gn_step {l : List Bk} {k : Nat} {b : Bk} (hb : l[k]? = some b) (ha : ∀ b ∈ l.take k, mayBk b = true) (hu : upId (l.take k) = true) (h : gnOk l k b = true) (hi : In F0 w0 w R) : GnRel l F0 w0 R (.int .i64 ((k : Int) + 1)) w := by
  simp only [gnOk, Bool.and_eq_true] at h
  have ht : l.take (k + 1) = l.take k ++ [b] := by rw [List.take_add_one, hb]; rfl
  refine ⟨k + 1, (List.getElem?_eq_some_iff.1 hb).1, by rw [Int.natCast_add]; rfl, fun x hx => ?_, ?_, hi⟩
  · rw [ht] at hx
    rcases List.mem_append.1 hx with hx | hx
    · exact ha x hx
    · simp at hx; subst hx; exact h.1
  · rw [ht, upId_snoc, hu, h.2]; rfl
theorem upId_take : ∀ (l : List Bk) (k : Nat), upId l = true → upId (l.take k) = true
  | [], k, _ => by simp [upId]
  | a :: r, 0, _ => rfl
  | [a], k + 1, _ => by simp [upId]
  | a :: c :: r, 1, _ => rfl
  | a :: c :: r, k + 2, h => by
    simp only [upId, Bool.and_eq_true] at h
    have := upId_take (c :: r) (k + 1) h.2
    simp only [List.take_succ_cons] at this ⊢
    simp only [upId, Bool.and_eq_true]
    exact ⟨h.1, this⟩
theorem gn_no {l : List Bk} {k : Nat} {b : Bk} (hb : l[k]? = some b) (h : gnOk l k b = false) : gensMay l = false := by
  cases hg : gensMay l with
  | false => rfl
  | true =>
    simp only [gensMay, Bool.and_eq_true, decide_eq_true_eq, List.all_eq_true] at hg
    have h1 := hg.2.1 b (List.mem_of_getElem? hb)
    have ht : l.take (k + 1) = l.take k ++ [b] := by rw [List.take_add_one, hb]; rfl
    have h2 := upId_take l (k + 1) hg.2.2
    rw [ht, upId_snoc] at h2
    simp only [Bool.and_eq_true] at h2
    unfold gnOk at h
    rw [h1, h2.2] at h
    cases h
theorem gn_last {l : List Bk} {k : Nat} (hk : k + 1 ≤ l.length) : ∃ a, l[k]? = some a ∧ (l.take (k + 1)).getLast? = some a := by
  obtain ⟨a, ha⟩ : ∃ a, l[k]? = some a := ⟨l[k]'(by omega), List.getElem?_eq_getElem _⟩
  exact ⟨a, ha, by rw [List.take_add_one, ha]; simp⟩
theorem o_gnmay {l : List Bk} {A : Option Addr} {c : Nat} (hs : BksAt F0 w0 R A l) (hl : l.length ≤ 1000000000) (h : In F0 w0 w R) : Calls Tryz.prog 36 #[.slice A l.length c] w (GnPost (gensMay l) F0 w0 R) := by
  by_cases h16 : 16 < l.length
  · have e : gensMay l = false := by unfold gensMay; rw [decide_eq_false (by omega)]; rfl
    have q : (16 : Int) < (l.length : Int) := by omega
    have G := Lib.hid h
    rw [e]
    clear e h h16 hs hl
    go_enter Tryz.func36, Tryz.ntmps36
    go_wp2_with fail
    go_ret
    exact ⟨rfl, G.out⟩
  have q16 : decide ((16 : Int) < (l.length : Int)) = false := decide_eq_false (by omega)
  have HL16 : Hid (l.length ≤ 16) := Lib.hid (Nat.le_of_not_lt h16)
  have HR : Hid (GnRel l F0 w0 R (.int .i64 0) w) := Lib.hid ⟨0, Nat.zero_le _, rfl, by simp, rfl, h⟩
  have HS := Lib.hid hs
  clear h hs hl h16
  go_enter Tryz.func36, Tryz.ntmps36
  go_wp2_with fail
  go_loopw [10] (GnRel l F0 w0 R) (fun k _ => l.length - (intOf k).toNat)
  case atStart => exact HR.out
  case round =>
    obtain ⟨k, hk, rfl, hall, hup, hio⟩ := hrel
    clear HR
    by_cases hlt : k < l.length
    · obtain ⟨b, hb⟩ : ∃ b, l[k]? = some b := ⟨l[k], List.getElem?_eq_getElem hlt⟩
      obtain ⟨g, o, rfl, c0, c1, c2⟩ := HS.out.cell hio hb
      have hlt' : (k : Int) < (l.length : Int) := Int.ofNat_lt.2 hlt
      have hw2 : wrap64 ((k : Int) + 1) = (k : Int) + 1 := by have := HL16.out; unfold wrap64; omega
      have HN := Lib.hid (fun (h1 : gnOk l k b = true) w' (h' : In F0 w0 w' R) => gn_step (w := w') hb hall hup h1 h')
      have HX := Lib.hid (fun (h1 : gnOk l k b = false) w' (h' : In F0 w0 w' R) => (show GnPost (gensMay l) F0 w0 R (.returned (.bool false)) w' from ⟨by rw [gn_no hb h1], h'⟩))
      have HIO : Hid (∀ o n, In F0 w0 ((wr.alloc o).drewN n) R) := Lib.hid fun o n => (hio.alloc o).drewN n
      have KW := Lib.hid (gn_weighed b.weight)
      have HK0 : Hid (∀ a, k ≠ 0 → l[k - 1]? = some a → wr.cell? ⟨g, o + (k - 1) * 3, none⟩ = some (.int .i64 a.id)) := Lib.hid fun a _ ha => by
        obtain ⟨g', o', e, d0, _⟩ := HS.out.cell hio ha
        cases e; exact d0
      obtain ⟨id, addr, wt⟩ := b
      simp only at c0 c1 c2 KW
      have hmb : mayBk ⟨id, addr, wt⟩ = (inB id 65535 && decide (1 ≤ wt ∧ wt ≤ 10)) := rfl
      by_cases hA : id < 0
      · have HX2 := Lib.hid (HX.out (by unfold gnOk; rw [hmb]; unfold inB; rw [decide_eq_false (by omega)]; rfl))
        clear HX HN HK0 hio hall hup hb hlt hk hmb
        go_wp2_with fail
        go_quiet (fail)
        go_wp2_with fail
        go_ret
        exact HX2.out _ (HIO.out _ _)
      have qA : decide (id < 0) = false := decide_eq_false hA
      by_cases hB : 65535 < id
      · have HX2 := Lib.hid (HX.out (by unfold gnOk; rw [hmb]; unfold inB; rw [decide_eq_false (by omega)]; rfl))
        clear HX HN HK0 hio hall hup hb hlt hk hmb hA
        go_wp2_with fail
        go_quiet (fail)
        go_wp2_with fail
        go_ret
        exact HX2.out _ (HIO.out _ _)
      have qB : decide (65535 < id) = false := decide_eq_false hB
      have hin : inB id 65535 = true := decide_eq_true (by omega)
      rw [hin, Bool.true_and] at hmb
      cases hC : decide (1 ≤ wt ∧ wt ≤ 10) with
      | false =>
        rw [hC] at KW
        have HX2 := Lib.hid (HX.out (by unfold gnOk; rw [hmb, hC]; rfl))
        clear HX HN HK0 hio hall hup hb hlt hk hmb hA hB hin hC
        go_wp2_with fail
        go_quiet ((go_at_call 73; exact Calls.quiet_of_same (KW.out _)))
        go_wp2_with fail
        go_ret
        exact HX2.out _ (HIO.out _ _)
      | true =>
        rw [hC] at KW
        rw [hC] at hmb
        by_cases hD : k = 0
        · have hgo : gnOk l k ⟨id, addr, wt⟩ = true := by unfold gnOk; rw [hmb, hD]; rfl
          have HN2 := Lib.hid (HN.out hgo)
          have qD : decide ((0 : Int) < (k : Int)) = false := decide_eq_false (by omega)
          have qD' : decide (0 < k) = false := decide_eq_false (by omega)
          clear HX HN HK0 hio hall hup hb hlt hk hmb hA hB hin hC hgo hD
          go_wp2_with fail
          go_quiet ((go_at_call 73; exact Calls.quiet_of_same (KW.out _)))
          go_wp2_with fail
          go_roundw
          case rel => (try rw [hw2]); exact HN2.out _ (HIO.out _ _)
          case measure => (try rw [hw2]); exact meas_lt hlt'
        · have qD : (0 : Int) < (k : Int) := by omega
          obtain ⟨k', rfl⟩ : ∃ k', k = k' + 1 := ⟨k - 1, by omega⟩
          obtain ⟨a, ha, hla⟩ := gn_last (l := l) (k := k') (by omega)
          have d0 := HK0.out a hD (by simpa using ha)
          rw [Nat.add_sub_cancel] at d0
          have hkc : (((k' + 1 : Nat) : Int)) = (k' : Int) + 1 := by omega
          have hsub : IntKind.i64.wrap (((k' + 1 : Nat) : Int) - 1) = (k' : Int) := by have := HL16.out; rw [IntWalk.i64_in _ (by omega)]; omega
          have hsub2 : (((k' + 1 : Nat) : Int) - 1) = (k' : Int) := by omega
          have hkl : (k' : Int) < (l.length : Int) := by omega
          have hsub3 : IntKind.i64.wrap ((k' : Int) + 1 - 1) = (k' : Int) := by have := HL16.out; rw [IntWalk.i64_in _ (by omega)]; omega
          have hsub4 : ((k' : Int) + 1 - 1) = (k' : Int) := by omega
          have qD2 : (0 : Int) < (k' : Int) + 1 := by omega
          have hsub5 : IntKind.i64.wrap (k' : Int) = (k' : Int) := by have := HL16.out; exact IntWalk.i64_in _ (by omega)
          have hkl2 : k' < l.length := by omega
          have hw3 : wrap64 ((k' : Int) + 1 + 1) = ((k' + 1 : Nat) : Int) + 1 := by have := HL16.out; unfold wrap64; omega
          have hb3 := hio.cells #[.int .i64 id, .int .u32 addr, .int .i64 wt] 33
          have y0 : (wr.alloc (.cells #[.int .i64 id, .int .u32 addr, .int .i64 wt] 33)).cell? ⟨wr.heap.size, 0, none⟩ = some (.int .i64 id) := cell_of (hb3.block 0 rfl) rfl
          have y2 : (wr.alloc (.cells #[.int .i64 id, .int .u32 addr, .int .i64 wt] 33)).cell? ⟨wr.heap.size, 2, none⟩ = some (.int .i64 wt) := cell_of (hb3.block 0 rfl) rfl
          have y3 : (wr.alloc (.cells #[.int .i64 id, .int .u32 addr, .int .i64 wt] 33)).cell? ⟨g, o + k' * 3, none⟩ = some (.int .i64 a.id) := by rw [World.cell?_alloc_lt _ _ _ (World.block_lt_of_cell? _ _ d0)]; exact d0
          clear hb3
          by_cases hE : id ≤ a.id
          · have HX2 := Lib.hid (HX.out (by unfold gnOk; rw [hmb, hla]; simp; omega))
            clear HX HN HK0 hio hall hup hb hlt hk hmb hA hB hin hC hD ha hla hkc
            go_wp2_with fail
            go_region_held3 (fun w' => w'.cell? ⟨wr.heap.size, 0, none⟩ = some (.int .i64 id) ∧ w'.cell? ⟨wr.heap.size, 2, none⟩ = some (.int .i64 wt) ∧ w'.cell? ⟨g, o + k' * 3, none⟩ = some (.int .i64 a.id)) (first | exact ⟨y0, y2, y3⟩ | go_keep) (first | (go_at_call 73; refine (KW.out _).mono ?_; rintro e w5 ⟨rfl, rfl⟩))
            go_wp2_with fail
            go_ret
            exact HX2.out _ (HIO.out _ 1)
          · have qE : decide (id ≤ a.id) = false := decide_eq_false hE
            have HN2 := Lib.hid (HN.out (by unfold gnOk; rw [hmb, hla]; simp; omega))
            clear HX HN HK0 hio hall hup hb hlt hk hmb hA hB hin hC hD ha hla hE hkc
            go_wp2_with fail
            go_region_held3 (fun w' => w'.cell? ⟨wr.heap.size, 0, none⟩ = some (.int .i64 id) ∧ w'.cell? ⟨wr.heap.size, 2, none⟩ = some (.int .i64 wt) ∧ w'.cell? ⟨g, o + k' * 3, none⟩ = some (.int .i64 a.id)) (first | exact ⟨y0, y2, y3⟩ | go_keep) (first | (go_at_call 73; refine (KW.out _).mono ?_; rintro e w5 ⟨rfl, rfl⟩))
            go_wp2_with fail
            go_roundw
            case rel => (try rw [hw2]); (try rw [hw3]); exact HN2.out _ (HIO.out _ 1)
            case measure => (try rw [hw2]); (try rw [hw3]); exact meas_lt hlt'
    · have hge : (l.length : Int) ≤ (k : Int) := Int.ofNat_le.2 (Nat.le_of_not_lt hlt)
      have hkl : l.take k = l := List.take_of_length_le (Nat.le_of_not_lt hlt)
      rw [hkl] at hall hup
      have e : gensMay l = true := by
        unfold gensMay
        rw [decide_eq_true HL16.out, hup, List.all_eq_true.2 hall]; rfl
      have G : Hid (GnPost (gensMay l) F0 w0 R (.returned (.bool true)) wr) := Lib.hid ⟨by rw [e], hio⟩
      clear hio hkl hall hup hk hlt e
      go_wp2_with fail
      go_ret
      exact G.out
end
section
variable {F0 : List Nat} {w0 w : World} {R : List Asrt}
theorem mayL_cons {l : List Bk} (h : l ≠ []) : mayL l = gensMay l := by unfold mayL; rw [decide_eq_true h]; rfl
theorem o_mamay {l : List Bk} {A : Option Addr} {c : Nat} (hs : BksAt F0 w0 R A l) (hl : l.length ≤ 1000000000) (h : In F0 w0 w R) : Calls Tryz.prog 67 #[.slice A l.length c] w (GnPost (mayL l) F0 w0 R) := by
  by_cases h0 : l = []
  · subst h0
    have e : mayL [] = false := rfl
    have G := Lib.hid h
    rw [e]
    clear e h hs hl
    go_enter Tryz.func67, Tryz.ntmps67
    go_wp2_with fail
    go_ret
    exact ⟨rfl, G.out⟩
  rw [mayL_cons h0]
  have hpos : 0 < l.length := List.length_pos_iff.2 h0
  have q0 : ((l.length : Int) == 0) = false := beq_eq_false_iff_ne.2 (by omega)
  by_cases h16 : 16 < l.length
  · have e : gensMay l = false := by unfold gensMay; rw [decide_eq_false (by omega)]; rfl
    have q : (16 : Int) < (l.length : Int) := by omega
    have G := Lib.hid h
    rw [e]
    clear e h h16 hs hl h0 hpos
    go_enter Tryz.func67, Tryz.ntmps67
    go_wp2_with fail
    go_ret
    exact ⟨rfl, G.out⟩
  have q16 : decide ((16 : Int) < (l.length : Int)) = false := decide_eq_false (by omega)
  have HL16 : Hid (l.length ≤ 16) := Lib.hid (Nat.le_of_not_lt h16)
  have HR : Hid (GnRel l F0 w0 R (.int .i64 0) w) := Lib.hid ⟨0, Nat.zero_le _, rfl, by simp, rfl, h⟩
  have HS := Lib.hid hs
  clear h hs hl h16 h0 hpos
  go_enter Tryz.func67, Tryz.ntmps67
  go_wp2_with fail
  go_loopw [15] (GnRel l F0 w0 R) (fun k _ => l.length - (intOf k).toNat)
  case atStart => exact HR.out
  case round =>
    obtain ⟨k, hk, rfl, hall, hup, hio⟩ := hrel
    clear HR q0
    by_cases hlt : k < l.length
    · obtain ⟨b, hb⟩ : ∃ b, l[k]? = some b := ⟨l[k], List.getElem?_eq_getElem hlt⟩
      obtain ⟨g, o, rfl, c0, c1, c2⟩ := HS.out.cell hio hb
      have hlt' : (k : Int) < (l.length : Int) := Int.ofNat_lt.2 hlt
      have hw2 : wrap64 ((k : Int) + 1) = (k : Int) + 1 := by have := HL16.out; unfold wrap64; omega
      have HN := Lib.hid (fun (h1 : gnOk l k b = true) w' (h' : In F0 w0 w' R) => gn_step (w := w') hb hall hup h1 h')
      have HX := Lib.hid (fun (h1 : gnOk l k b = false) w' (h' : In F0 w0 w' R) => (show GnPost (gensMay l) F0 w0 R (.returned (.bool false)) w' from ⟨by rw [gn_no hb h1], h'⟩))
      have HIO : Hid (∀ o n, In F0 w0 ((wr.alloc o).drewN n) R) := Lib.hid fun o n => (hio.alloc o).drewN n
      have HK0 : Hid (∀ a, k ≠ 0 → l[k - 1]? = some a → wr.cell? ⟨g, o + (k - 1) * 3, none⟩ = some (.int .i64 a.id)) := Lib.hid fun a _ ha => by
        obtain ⟨g', o', e, d0, _⟩ := HS.out.cell hio ha
        cases e; exact d0
      obtain ⟨id, addr, wt⟩ := b
      simp only at c0 c1 c2
      have hmb : mayBk ⟨id, addr, wt⟩ = (inB id 65535 && decide (1 ≤ wt ∧ wt ≤ 10)) := rfl
      by_cases hA : id < 0
      · have HX2 := Lib.hid (HX.out (by unfold gnOk; rw [hmb]; unfold inB; rw [decide_eq_false (by omega)]; rfl))
        clear HX HN HK0 hio hall hup hb hlt hk hmb
        go_wp2_with fail
        go_quiet (fail)
        go_wp2_with fail
        go_ret
        exact HX2.out _ (HIO.out _ _)
      have qA : decide (id < 0) = false := decide_eq_false hA
      by_cases hB : 65535 < id
      · have HX2 := Lib.hid (HX.out (by unfold gnOk; rw [hmb]; unfold inB; rw [decide_eq_false (by omega)]; rfl))
        clear HX HN HK0 hio hall hup hb hlt hk hmb hA
        go_wp2_with fail
        go_quiet (fail)
        go_wp2_with fail
        go_ret
        exact HX2.out _ (HIO.out _ _)
      have qB : decide (65535 < id) = false := decide_eq_false hB
      have hin : inB id 65535 = true := decide_eq_true (by omega)
      rw [hin, Bool.true_and] at hmb
      by_cases hC : wt < 1
      · have HX2 := Lib.hid (HX.out (by unfold gnOk; rw [hmb, decide_eq_false (by omega)]; rfl))
        clear HX HN HK0 hio hall hup hb hlt hk hmb hA hB hin
        go_wp2_with fail
        go_quiet (fail)
        go_wp2_with fail
        go_ret
        exact HX2.out _ (HIO.out _ _)
      have qC : decide (wt < 1) = false := decide_eq_false hC
      by_cases hC2 : 10 < wt
      · have HX2 := Lib.hid (HX.out (by unfold gnOk; rw [hmb, decide_eq_false (by omega)]; rfl))
        clear HX HN HK0 hio hall hup hb hlt hk hmb hA hB hin hC
        go_wp2_with fail
        go_quiet (fail)
        go_wp2_with fail
        go_ret
        exact HX2.out _ (HIO.out _ _)
      have qC2 : decide (10 < wt) = false := decide_eq_false hC2
      rw [decide_eq_true (by omega)] at hmb
      by_cases hD : k = 0
      · have hgo : gnOk l k ⟨id, addr, wt⟩ = true := by unfold gnOk; rw [hmb, hD]; rfl
        have HN2 := Lib.hid (HN.out hgo)
        have qD : decide ((0 : Int) < (k : Int)) = false := decide_eq_false (by omega)
        have qD' : decide (0 < k) = false := decide_eq_false (by omega)
        clear HX HN HK0 hio hall hup hb hlt hk hmb hA hB hin hC hC2 hgo hD
        go_wp2_with fail
        go_quiet (fail)
        go_wp2_with fail
        go_roundw
        case rel => (try rw [hw2]); exact HN2.out _ (HIO.out _ _)
        case measure => (try rw [hw2]); exact meas_lt hlt'
      · have qD : (0 : Int) < (k : Int) := by omega
        obtain ⟨k', rfl⟩ : ∃ k', k = k' + 1 := ⟨k - 1, by omega⟩
        obtain ⟨a, ha, hla⟩ := gn_last (l := l) (k := k') (by omega)
        have d0 := HK0.out a hD (by simpa using ha)
        rw [Nat.add_sub_cancel] at d0
        have hsub2 : (((k' + 1 : Nat) : Int) - 1) = (k' : Int) := by omega
        have hsub : IntKind.i64.wrap (((k' + 1 : Nat) : Int) - 1) = (k' : Int) := by have := HL16.out; rw [IntWalk.i64_in _ (by omega)]; omega
        have hkl : (k' : Int) < (l.length : Int) := by omega
        have hsub3 : IntKind.i64.wrap ((k' : Int) + 1 - 1) = (k' : Int) := by have := HL16.out; rw [IntWalk.i64_in _ (by omega)]; omega
        have hsub4 : ((k' : Int) + 1 - 1) = (k' : Int) := by omega
        have qD2 : (0 : Int) < (k' : Int) + 1 := by omega
        have hsub5 : IntKind.i64.wrap (k' : Int) = (k' : Int) := by have := HL16.out; exact IntWalk.i64_in _ (by omega)
        have hkl2 : k' < l.length := by omega
        have hw3 : wrap64 ((k' : Int) + 1 + 1) = ((k' + 1 : Nat) : Int) + 1 := by have := HL16.out; unfold wrap64; omega
        have hb3 := hio.cells #[.int .i64 id, .int .u32 addr, .int .i64 wt] 33
        have y0 : (wr.alloc (.cells #[.int .i64 id, .int .u32 addr, .int .i64 wt] 33)).cell? ⟨wr.heap.size, 0, none⟩ = some (.int .i64 id) := cell_of (hb3.block 0 rfl) rfl
        have y2 : (wr.alloc (.cells #[.int .i64 id, .int .u32 addr, .int .i64 wt] 33)).cell? ⟨wr.heap.size, 2, none⟩ = some (.int .i64 wt) := cell_of (hb3.block 0 rfl) rfl
        have y3 : (wr.alloc (.cells #[.int .i64 id, .int .u32 addr, .int .i64 wt] 33)).cell? ⟨g, o + k' * 3, none⟩ = some (.int .i64 a.id) := by rw [World.cell?_alloc_lt _ _ _ (World.block_lt_of_cell? _ _ d0)]; exact d0
        clear hb3
        by_cases hE : id ≤ a.id
        · have HX2 := Lib.hid (HX.out (by unfold gnOk; rw [hmb, hla]; simp; omega))
          clear HX HN HK0 hio hall hup hb hlt hk hmb hA hB hin hC hC2 hD ha hla
          go_wp2_with fail
          go_region_held3 (fun w' => w'.cell? ⟨wr.heap.size, 0, none⟩ = some (.int .i64 id) ∧ w'.cell? ⟨wr.heap.size, 2, none⟩ = some (.int .i64 wt) ∧ w'.cell? ⟨g, o + k' * 3, none⟩ = some (.int .i64 a.id)) (first | exact ⟨y0, y2, y3⟩ | go_keep) (fail)
          go_wp2_with fail
          go_ret
          exact HX2.out _ (HIO.out _ 1)
        · have qE : decide (id ≤ a.id) = false := decide_eq_false hE
          have HN2 := Lib.hid (HN.out (by unfold gnOk; rw [hmb, hla]; simp; omega))
          clear HX HN HK0 hio hall hup hb hlt hk hmb hA hB hin hC hC2 hD ha hla hE
          go_wp2_with fail
          go_region_held3 (fun w' => w'.cell? ⟨wr.heap.size, 0, none⟩ = some (.int .i64 id) ∧ w'.cell? ⟨wr.heap.size, 2, none⟩ = some (.int .i64 wt) ∧ w'.cell? ⟨g, o + k' * 3, none⟩ = some (.int .i64 a.id)) (first | exact ⟨y0, y2, y3⟩ | go_keep) (fail)
          go_wp2_with fail
          go_roundw
          case rel => (try rw [hw2]); (try rw [hw3]); exact HN2.out _ (HIO.out _ 1)
          case measure => (try rw [hw2]); (try rw [hw3]); exact meas_lt hlt'
    · have hge : (l.length : Int) ≤ (k : Int) := Int.ofNat_le.2 (Nat.le_of_not_lt hlt)
      have hkl : l.take k = l := List.take_of_length_le (Nat.le_of_not_lt hlt)
      rw [hkl] at hall hup
      have e : gensMay l = true := by
        unfold gensMay
        rw [decide_eq_true HL16.out, hup, List.all_eq_true.2 hall]; rfl
      have G : Hid (GnPost (gensMay l) F0 w0 R (.returned (.bool true)) wr) := Lib.hid ⟨by rw [e], hio⟩
      clear hio hkl hall hup hk hlt e
      go_wp2_with fail
      go_ret
      exact G.out
end
section
variable {P : Program} {ops : Array Oper} {Q : Exit → Act → World → Prop} {md : Region.Mode} {S : World → Prop}
def wpAnyE (P : Program) (md : Region.Mode) (ops : Array Oper) (Q : Exit → Act → World → Prop) (S : World → Prop) : Nat → Array Bool → Act → World → Prop
  | 0, listed, a, w => Region.ready md ops listed = [] ∧ Q .normal a w
  | fuel + 1, listed, a, w =>
    (Region.ready md ops listed = [] → Q .normal a w) ∧
    ∀ i ∈ Region.ready md ops listed, wpOp P ops Q i (fun a' w' => (i + 1 < ops.size → S w') ∧ wpAnyE P md ops Q S fuel (listed.setIfInBounds i true) a' w') a w
theorem wpAny_of_E : ∀ (fuel : Nat) (listed : Array Bool) (a : Act) (w : World), wpAnyE P md ops Q S fuel listed a w → wpAny P md ops Q fuel listed a w
  | 0, _, _, _, h => h
  | fuel + 1, _, _, _, h => ⟨h.1, fun i hi => wpOp_mono (fun a' w' h' => wpAny_of_E fuel _ a' w' h'.2) (h.2 i hi)⟩
theorem chainB_last : Region.chainB md ops (ops.size - 1) = true :=
  List.all_eq_true.2 fun t ht => by
    have := List.mem_range.1 ht
    simp only [Bool.or_eq_true, decide_eq_true_eq]; left; omega
theorem wpAnyE_first {i : Nat} {oi : Oper} {v : Value} (hi : ops[i]? = some oi) (hsel : ∀ (j : Nat) (o : Oper) cs b, ops[j]? = some o → o.op ≠ .select cs b)
    (hQ : ∀ c a w, Q (.panic c) (a.put oi.dst v) w → Q (.panic c) a w) (hs : Region.sinkB md ops (ops.size - 1) = true) (hin : i + 1 < ops.size) :
    ∀ (fuel : Nat) (listed : Array Bool) (a : Act) (w : World), HeadInv md ops (ops.size - 1) listed →
      (∀ j oj, ops[j]? = some oj → j ≠ i → listed.getD j true = false → (∀ e ∈ oj.after, Region.binds md e = true → e.on ≠ i) → oi.apart ops oj = true) →
      i ∈ Region.ready md ops listed → YieldsIf P ops S oi v a → S w →
      wpAnyE P md ops Q S fuel (listed.setIfInBounds i true) (a.put oi.dst v) w → wpAnyE P md ops Q S (fuel + 1) listed a w := by
  intro fuel
  induction fuel with
  | zero =>
    intro listed a w inv _ hr hy hS H
    refine ⟨fun h => (by rw [h] at hr; cases hr), fun j hj => ?_⟩
    by_cases hji : j = i
    · subst hji; exact hy.wpOp hi hS ⟨fun _ => hS, H⟩
    · have := ready_mono hj hji
      rw [H.1] at this
      cases this
  | succ fuel ih =>
    intro listed a w inv hfree hr hy hS H
    refine ⟨fun h => (by rw [h] at hr; cases hr), fun j hj => ?_⟩
    by_cases hji : j = i
    · subst hji; exact hy.wpOp hi hS ⟨fun _ => hS, H⟩
    · have h1 := H.2 j (ready_mono hj hji)
      have hjn : j < ops.size - 1 := by
        refine Nat.lt_of_not_le fun hle => ?_
        exact tail_waits hs chainB_last (by omega) inv (ops.size - 1 - i) i rfl (by omega) (mem_ready.1 hr).1 j hle hj
      obtain ⟨hjun, oj, hoj, hall⟩ := mem_ready.1 hj
      have hnot : ∀ e ∈ oj.after, Region.binds md e = true → e.on ≠ i := fun e he hb heq => by
        have h1 := hall e he hb
        have h0 := (mem_ready.1 hr).1
        rw [heq] at h1
        rcases Nat.lt_or_ge i listed.size with h' | h'
        · simp [h'] at h0 h1; rw [h0] at h1; cases h1
        · simp [Array.getElem?_eq_none h'] at h1
      have h2 := wpOp_putIf hoj (hfree j oj hoj hji hjun hnot) (fun cs b => hsel i oi cs b hi) (fun cs b => hsel j oj cs b hoj) hQ hy h1
      have hfree' : ∀ k ok, ops[k]? = some ok → k ≠ i → (listed.setIfInBounds j true).getD k true = false →
          (∀ e ∈ ok.after, Region.binds md e = true → e.on ≠ i) → oi.apart ops ok = true := fun k ok hk hki hun hno => by
        refine hfree k ok hk hki ?_ hno
        by_cases hjk : j = k
        · subst hjk; exact hjun
        · rw [getD_set_ne true hjk] at hun; exact hun
      refine wpOp_mono (fun a' w' h3 => ⟨h3.2.1, ih (listed.setIfInBounds j true) a' w' (inv.set hj hjn) hfree' (ready_mono hr (Ne.symm hji)) h3.1 (h3.2.1 (by omega)) ?_⟩) h2
      rw [Array.setIfInBounds_comm _ _ hji]
      exact h3.2.2
theorem wpAnyE_done {listed : Array Bool} {a : Act} {w : World} (hr : Region.ready md ops listed = []) (h : Q .normal a w) : ∀ fuel, wpAnyE P md ops Q S fuel listed a w
  | 0 => ⟨hr, h⟩
  | _ + 1 => ⟨fun _ => h, by rw [hr]; simp⟩
variable {l : List Oper}
def EAt (P : Program) (l : List Oper) (Q : Exit → Act → World → Prop) (S : World → Prop) (fuel : Nat) (listed : Array Bool) (a : Act) (w : World) : Prop :=
  HeadInv .any l.toArray (l.toArray.size - 1) listed → wpAnyE P .any l.toArray Q S fuel listed a w
def takeB (l : List Oper) (i : Nat) (listed : Array Bool) : Bool :=
  Region.noSelect l.toArray && Region.sinkB .any l.toArray (l.toArray.size - 1) && decide (i + 1 < l.toArray.size) && Region.free .any l.toArray listed i && (Region.ready .any l.toArray listed).contains i
theorem e_take {i : Nat} {oi : Oper} {v : Value} {fuel : Nat} {listed : Array Bool} {a : Act} {w : World} (hi : l[i]? = some oi) (hc : takeB l i listed = true)
    (hQ : ∀ c a w, Q (.panic c) (a.put oi.dst v) w → Q (.panic c) a w) (hw : Region.wanted oi (yielded l.toArray a.tmps) = true) (hy : ∀ w, S w → (execOp a.eval oi).run P w = .ok (.value v) w) (hS : S w)
    (h : EAt P l Q S fuel (listed.setIfInBounds i true) (a.put oi.dst v) w) : EAt P l Q S (fuel + 1) listed a w := by
  simp only [takeB, Bool.and_eq_true, decide_eq_true_eq] at hc
  obtain ⟨⟨⟨⟨h1, h2⟩, h3⟩, h4⟩, h5⟩ := hc
  have hi' : l.toArray[i]? = some oi := by simpa using hi
  have hr : i ∈ Region.ready .any l.toArray listed := by simpa using h5
  intro inv
  exact wpAnyE_first hi' (Region.noSelect_spec h1) hQ h2 h3 fuel listed a w inv (Region.free_spec hi' h4) hr (Or.inl ⟨hw, hy⟩) hS (h (inv.set hr (by omega)))
def pinB (l : List Oper) (i : Nat) (listed : Array Bool) : Bool := decide (Region.ready .any l.toArray listed = [i]) && decide (i + 1 < l.toArray.size)
theorem e_pin {i : Nat} {o : Oper} {fuel : Nat} {listed : Array Bool} {a : Act} {w : World} (hi : l[i]? = some o) (hc : pinB l i listed = true)
    (h : ∀ K' : Act → World → Prop, Shut (∀ a w, S w → (S w → EAt P l Q S fuel (listed.setIfInBounds i true) a w) → K' a w) → if Region.wanted o (yielded l.toArray a.tmps) = true then Oper.wp P o a w K' Q else K' (a.put o.dst undef) w) : EAt P l Q S (fuel + 1) listed a w := by
  simp only [pinB, Bool.and_eq_true, decide_eq_true_eq] at hc
  have hi' : l.toArray[i]? = some o := by simpa using hi
  intro inv
  refine ⟨fun h0 => (by rw [hc.1] at h0; cases h0), fun j hj => ?_⟩
  have hr := hj
  rw [hc.1] at hj
  obtain rfl : j = i := by simpa using hj
  have := h (fun a' w' => (j + 1 < l.toArray.size → S w') ∧ wpAnyE P .any l.toArray Q S fuel (listed.setIfInBounds j true) a' w') (fun a w hS hn => ⟨fun _ => hS, hn hS (inv.set hr (by omega))⟩)
  unfold wpOp
  simp only [hi']
  by_cases hwd : Region.wanted o (yielded l.toArray a.tmps) = true
  · rw [if_pos hwd] at this ⊢; exact Or.inl this
  · rw [if_neg hwd] at this ⊢; exact this
def lastB (l : List Oper) (i : Nat) (listed : Array Bool) : Bool := decide (Region.ready .any l.toArray listed = [i]) && decide (i + 1 = l.toArray.size) && decide (Region.ready .any l.toArray (listed.setIfInBounds i true) = [])
theorem e_last {i : Nat} {o : Oper} {fuel : Nat} {listed : Array Bool} {a : Act} {w : World} (hi : l[i]? = some o) (hc : lastB l i listed = true)
    (h : ∀ K' : Act → World → Prop, Shut (∀ a w, Q .normal a w → K' a w) → if Region.wanted o (yielded l.toArray a.tmps) = true then Oper.wp P o a w K' Q else K' (a.put o.dst undef) w) : EAt P l Q S (fuel + 1) listed a w := by
  simp only [lastB, Bool.and_eq_true, decide_eq_true_eq] at hc
  have hi' : l.toArray[i]? = some o := by simpa using hi
  intro inv
  refine ⟨fun h0 => (by rw [hc.1.1] at h0; cases h0), fun j hj => ?_⟩
  rw [hc.1.1] at hj
  obtain rfl : j = i := by simpa using hj
  have := h (fun a' w' => (j + 1 < l.toArray.size → S w') ∧ wpAnyE P .any l.toArray Q S fuel (listed.setIfInBounds j true) a' w') (fun a w hQ => ⟨fun hlt => by omega, wpAnyE_done hc.2 hQ _⟩)
  unfold wpOp
  simp only [hi']
  by_cases hwd : Region.wanted o (yielded l.toArray a.tmps) = true
  · rw [if_pos hwd] at this ⊢; exact Or.inl this
  · rw [if_neg hwd] at this ⊢; exact this
theorem e_start {id : Nat} {a : Act} {w : World} (S : World → Prop) (hm : P.follows .mixedOrders = true) (hS : S w.drew) (h : S w.drew → EAt P l Q S l.length (Array.replicate l.length false) a w.drew) : (Code.region id l.toArray true).wp P Q a w := by
  refine wp_region_any hm (wpAny_of_E (S := S) _ _ _ _ ?_)
  have := h hS ⟨by simp, fun j oj _ hl => (by rw [getD_replicate_false] at hl; cases hl), fun t _ ht => getD_in (by simpa using ht) (getD_replicate_false _ _)⟩
  simpa using this
end
theorem store_step {P : Program} {ops : Array Oper} {o : Oper} {a : Act} {w : World} {K : Act → World → Prop} {Q : Exit → Act → World → Prop} {E : Prop} (hgd : o.guard = none) (ty : TypeId) (x y : Operand) (ho : o.op = .store ty x y)
    (b off : Nat) (cells : Array Value) (hx : a.eval x = .pointer (some ⟨b, off, none⟩)) (hy : a.eval y = .agg cells) (ht : w.there b off cells.size) (hi : (P.info? ty).map (·.size) = some cells.size) (h1 : cells.all (·.oneCell') = true)
    (h : K (a.put o.dst undef) (w.setCells b off cells.toList)) : if Region.wanted o (yielded ops a.tmps) = true then Oper.wp P o a w K Q else E := by
  have hw : Region.wanted o (yielded ops a.tmps) = true := by simp [Region.wanted, hgd]
  rw [if_pos hw]
  exact wp_store_mid ty x y ho b off cells hx hy ht hi h1 h
theorem setCells_heap : ∀ (us : List Value) (w : World) (g o : Nat) (C : Array Value) (T : TypeId) (fz : Nat × Nat), w.heap[g]? = some (.cells C T fz) → o + us.length ≤ C.size →
    ∃ C', (w.setCells g o us).heap[g]? = some (.cells C' T fz) ∧ C'.toList = C.toList.take o ++ us ++ C.toList.drop (o + us.length) ∧ Mod [g] w (w.setCells g o us)
  | [], w, g, o, C, T, fz, h, _ => ⟨C, h, by simp, Mod.refl _ _⟩
  | v :: r, w, g, o, C, T, fz, h, hl => by
    have hl' : o + 1 + r.length ≤ C.size := by simp at hl; omega
    have h1 := hp_setCell_same (o := o) (v := v) h
    obtain ⟨C', e1, e2, e3⟩ := setCells_heap r (w.setCell ⟨g, o, none⟩ v) g (o + 1) _ T fz h1 (by simpa using hl')
    refine ⟨C', e1, ?_, ((Mod.refl [g] w).setCell (p := ⟨g, o, none⟩) (Or.inl (by simp)) v).trans' e3⟩
    rw [e2]
    have ho : o < C.toList.length := by rw [Array.length_toList]; omega
    rw [Array.toList_setIfInBounds, List.take_set, List.drop_set, if_pos (by omega), List.take_add_one]
    rw [show (C.toList[o]?).toList = [C.toList[o]] by rw [List.getElem?_eq_getElem ho]; rfl]
    rw [List.set_append_right _ _ (by simp; omega)]
    rw [show o - (C.toList.take o).length = 0 by simp; omega]
    simp only [List.set_cons_zero, List.append_assoc, List.cons_append, List.nil_append, List.length_cons]
    rw [show o + 1 + r.length = o + (r.length + 1) by omega]
def putAt (xs : List Value) (o : Nat) (us : List Value) : List Value := xs.take o ++ us ++ xs.drop (o + us.length)
theorem putAt_length {xs us : List Value} {o : Nat} (h : o + us.length ≤ xs.length) : (putAt xs o us).length = xs.length := by unfold putAt; simp; omega
theorem RowA.put {T : TypeId} {k : Nat} {g n' n cap : Nat} {xs : List Value} {w : World} {F : List Nat} (h : RowA T k (.slice (some ⟨g, 0, none⟩) n' cap) n xs w F) {o : Nat} {us : List Value} (ho : o + us.length ≤ xs.length) :
    RowA T k (.slice (some ⟨g, 0, none⟩) n' cap) n (putAt xs o us) (w.setCells g o us) F ∧ Mod F w (w.setCells g o us) := by
  obtain ⟨h0, h1, h2⟩ := h
  rcases h2 with ⟨e, h3⟩ | ⟨g', cap', cur, e, h3, h4, h5, h6, h7, h8⟩
  · cases e
  · cases e
    have hlen : xs.length ≤ cur.size := by
      have := congrArg List.length h8
      simp at this; omega
    obtain ⟨C', e1, e2, e3⟩ := setCells_heap us w g o cur T (0, 0) h4 (by omega)
    refine ⟨⟨h0, by rw [putAt_length ho, h1], Or.inr ⟨g, cap, C', rfl, h3, e1, h5, h6, ?_, ?_⟩⟩, e3.mono (fun b hb => by rw [h0]; simpa [Value.ownBlock] using hb)⟩
    · rw [← Array.length_toList, e2]; simp; omega
    · rw [e2]
      obtain ⟨D, e4⟩ : ∃ D, cur.toList = xs ++ D := ⟨cur.toList.drop (n' * k), by rw [← h8, List.take_append_drop]⟩
      have hx : xs.length = n' * k := h1
      rw [e4]
      unfold putAt
      have a1 : (xs ++ D).take o = xs.take o := List.take_append_of_le_length (by omega)
      have a2 : (xs ++ D).drop (o + us.length) = xs.drop (o + us.length) ++ D := List.drop_append_of_le_length (by omega)
      rw [a1, a2, ← List.append_assoc, List.take_append_of_le_length (by simp; omega), List.take_of_length_le (by simp; omega)]
theorem RowA.there {T : TypeId} {k : Nat} {g n' n cap : Nat} {xs : List Value} {w : World} {F : List Nat} (h : RowA T k (.slice (some ⟨g, 0, none⟩) n' cap) n xs w F) {o m : Nat} (ho : o + m ≤ xs.length) : w.there g o m := by
  obtain ⟨h0, h1, h2⟩ := h
  rcases h2 with ⟨e, h3⟩ | ⟨g', cap', cur, e, h3, h4, h5, h6, h7, h8⟩
  · cases e
  · cases e
    have hlen : xs.length ≤ cur.size := by
      have := congrArg List.length h8
      simp at this; omega
    intro j hj
    refine ⟨?_, free_of h4⟩
    rw [cell_of h4 (v := cur[o + j]'(by omega)) (Array.getElem?_eq_getElem _)]; rfl
theorem row_put {F0 : List Nat} {w0 w : World} {R : List Asrt} {T : TypeId} {k g n' n cap : Nat} {xs : List Value} (h : In F0 w0 w R) (i : Nat) (hA : R[i]? = some (RowA T k (.slice (some ⟨g, 0, none⟩) n' cap) n xs)) {o : Nat} {us : List Value} (ho : o + us.length ≤ xs.length) :
    In F0 w0 (w.setCells g o us) (R.set i (RowA T k (.slice (some ⟨g, 0, none⟩) n' cap) n (putAt xs o us))) :=
  h.step i hA (RowA.framed _ _ _ _ _) fun F hF => ⟨F, (hF.put ho).1, Grew.refl _ _, (hF.put ho).2⟩
end Go.Proofs.YtgapbecddgfkmaaGreat
