/- Rows.PathPlaysSaid -/
import Derived.Test.YtgapbecddgfkmaaGreatPY9
import Derived.Test.YtgapbecddgfkmaaGreatPY4
import Derived.BigQuiet
import Derived.Deep.QuietTactic
import Derived.Deep.RegionHeld3
import Derived.Test.YtgapbecddgfkmaaGreatPY2
import Derived.Deep.MidRow
import Derived.OrdersHeld
import Derived.StillTail
import Derived.Deep.RegionHeld
import Derived.Deep.DeepCutAuto
namespace Go.Proofs.YtgapbecddgfkmaaGreat
open Go.RowKit
set_option linter.unusedVariables false
set_option maxHeartbeats 64000000
set_option maxRecDepth 100000
theorem mayM_no {m : Nat} (h : ¬ (3 ≤ m ∧ m ≤ 251)) : mayM (m : Int) = false := by unfold mayM; rw [decide_eq_false (by omega)]; rfl
theorem mayM_div {m i : Nat} (h3 : 3 ≤ m) (hm : m ≤ 251) (hi : 2 ≤ i) (hi2 : i < 16) (hsq : i * i ≤ m) (hd : m % i = 0) : mayM (m : Int) = false := by
  unfold mayM
  rw [Bool.and_eq_false_iff]
  right
  rw [List.all_eq_false]
  refine ⟨i, List.mem_range.2 hi2, ?_⟩
  have h1 : ¬ ((m : Int) < (i : Int) * (i : Int)) := by rw [← Int.natCast_mul]; omega
  have h2 : (m : Int) % (i : Int) = 0 := by rw [← Int.natCast_emod, hd]; rfl
  simp only [Bool.or_eq_true, decide_eq_true_eq, not_or]
  exact ⟨by omega, h1, by simpa using h2⟩
theorem mayM_yes {m i : Nat} (h3 : 3 ≤ m) (hm : m ≤ 251) (hi : m < i * i) (hd : ∀ j, 2 ≤ j → j < i → m % j ≠ 0) : mayM (m : Int) = true := by
  unfold mayM
  rw [decide_eq_true (by omega), Bool.true_and, List.all_eq_true]
  intro j _
  simp only [Bool.or_eq_true, decide_eq_true_eq]
  by_cases h2 : j < 2
  · exact Or.inl h2
  · right
    by_cases hj : j < i
    · right
      have := hd j (by omega) hj
      rw [← Int.natCast_emod]; omega
    · left
      have : i * i ≤ j * j := Nat.mul_le_mul (by omega) (by omega)
      rw [← Int.natCast_mul]; omega
def MayRel (m : Nat) (v : Value) : Prop := ∃ i : Nat, v = .int .i64 i ∧ 2 ≤ i ∧ i ≤ 16 ∧ ∀ j, 2 ≤ j → j < i → m % j ≠ 0
theorem sq_le {i m : Nat} (h : i * i ≤ m) (hm : m ≤ 251) : i < 16 := by
  rcases Nat.lt_or_ge i 16 with h1 | h1
  · exact h1
  · have := Nat.mul_le_mul h1 h1; omega
theorem ma_may (m : Nat) (w : World) : Calls Tryz.prog 32 #[.int .i64 m] w fun e w' => e = .returned (.bool (mayM (m : Int))) ∧ w' = w := by
  by_cases h3 : m < 3
  · have HE : Hid (mayM (m : Int) = false) := Lib.hid (mayM_no (by omega))
    have q : (m : Int) < 3 := by omega
    clear h3
    go_enter Tryz.func32, Tryz.ntmps32
    go_wp2_with fail
    go_ret
    exact ⟨by rw [HE.out]; rfl, rfl⟩
  have q3 : decide ((m : Int) < 3) = false := decide_eq_false (by omega)
  by_cases h251 : 251 < m
  · have HE : Hid (mayM (m : Int) = false) := Lib.hid (mayM_no (by omega))
    have q : (251 : Int) < (m : Int) := by omega
    clear h3 h251
    go_enter Tryz.func32, Tryz.ntmps32
    go_wp2_with fail
    go_ret
    exact ⟨by rw [HE.out]; rfl, rfl⟩
  have q4 : decide ((251 : Int) < (m : Int)) = false := decide_eq_false (by omega)
  have H3 := Lib.hid (And.intro h3 h251)
  clear h3 h251
  go_enter Tryz.func32, Tryz.ntmps32
  go_wp2_with fail
  go_loop [3] (MayRel m) (fun v => 17 - (intOf v).toNat)
  case atStart => exact ⟨2, rfl, by omega, by omega, fun j h1 h2 => by omega⟩
  case round =>
    obtain ⟨i, rfl, hi, hi16, hd⟩ := hrel
    have w1 : IntKind.i64.wrap ((i : Int) * (i : Int)) = ((i * i : Nat) : Int) := by
      have : i * i ≤ 16 * 16 := Nat.mul_le_mul hi16 hi16
      rw [← Int.natCast_mul]; exact IntWalk.i64_in _ (by omega)
    by_cases hsq : i * i ≤ m
    · have q5 : ((i * i : Nat) : Int) ≤ (m : Int) := by omega
      have hi15 := sq_le hsq (by have := H3.out; omega)
      have hne : ((i : Int) == 0) = false := beq_eq_false_iff_ne.2 (by omega)
      have hmod : Int.tmod (m : Int) (i : Int) = ((m % i : Nat) : Int) := by rw [Int.tmod_eq_emod_of_nonneg (by omega), Int.natCast_emod]
      by_cases hz : m % i = 0
      · have HE : Hid (mayM (m : Int) = false) := Lib.hid (mayM_div (by have := H3.out; omega) (by have := H3.out; omega) hi hi15 hsq hz)
        rw [hz] at hmod
        clear hd hz hsq
        generalize i * i = ii at *
        go_wp2_with fail
        go_ret
        exact ⟨by rw [HE.out]; rfl, rfl⟩
      · have HN : Hid (∀ j, 2 ≤ j → j < i + 1 → m % j ≠ 0) := Lib.hid (fun j h1 h2 => by
          rcases Nat.lt_or_ge j i with h | h
          · exact hd j h1 h
          · have : j = i := by omega
            subst this; exact hz)
        have hz' : (((m % i : Nat) : Int) == 0) = false := beq_eq_false_iff_ne.2 (by omega)
        clear hd hz hsq
        generalize m % i = mi at *
        generalize i * i = ii at *
        go_wp2_with fail
        go_round
        case rel => exact ⟨i + 1, by go_num, by omega, by omega, HN.out⟩
        case measure => simp [intOf]; omega
    · have q5 : ¬ (((i * i : Nat) : Int) ≤ (m : Int)) := by omega
      have HE : Hid (mayM (m : Int) = true) := Lib.hid (mayM_yes (by have := H3.out; omega) (by have := H3.out; omega) (by omega) hd)
      clear hd hsq
      generalize i * i = ii at *
      go_wp2_with fail
      go_ret
      exact ⟨by rw [HE.out]; rfl, rfl⟩
section
variable {F0 : List Nat} {w0 w : World} {R : List Asrt}
theorem o_marow (h : In F0 w0 w R) {id : Int} (h0 : 0 ≤ id) (h1 : id < 4294967296) {m : Nat} (hm : mayM (m : Int) = true) :
    Calls Tryz.prog 68 #[.int .i64 id, .int .i64 m] w fun e w' => e = .returned (.tuple #[.int .i64 (firstN id m), .int .i64 (skipN id m)]) ∧ In F0 w0 w' R := by
  have K0 := Lib.hid (ma_may m w)
  rw [hm] at K0
  have hm3 : 3 ≤ m ∧ m ≤ 251 := by
    have := hm
    unfold mayM at this
    rw [Bool.and_eq_true, decide_eq_true_eq] at this
    omega
  have g1 := w_new (h.cells #[.slice none 0 0] 167)
  have K1 : Hid (Calls Tryz.prog 102 #[.pointer (some ⟨w.heap.size, 0, none⟩), .int .u32 id] (w.alloc (.cells #[.slice none 0 0] 167)) fun e w' => e = .returned (.tuple #[]) ∧ In F0 w0 w' (WA w.heap.size (idB id) :: R)) := Lib.hid (o_wu32 g1 0 rfl (by simp) h0 h1)
  have hid : IntKind.u32.wrap id = id := u32_small h0 h1
  have HF : Hid (firstN id m = mixN 1 (idB id) % m) := Lib.hid rfl
  have HSk : Hid (skipN id m = mixN 2 (idB id) % (m - 1) + 1) := Lib.hid rfl
  have m1 := mixN_lt 1 (idB id)
  have m2 := mixN_lt 2 (idB id)
  have hl : (idB id).length = 4 := by unfold idB; simp [be, beTo_length]
  have KX := Lib.hid (fun (s : Nat) (hs : s < 4294967296) W (A : Option Addr) (c : Nat) (hW : Src W A (idB id).length 1 (u8s (idB id))) => su_mix (c := c) (s := s) hW (by omega) hs)
  rw [hl] at KX
  have HL := Lib.hid hl
  have hmw : IntKind.u32.wrap (m : Int) = (m : Int) := u32_small (by omega) (by omega)
  have HM := Lib.hid hm3
  clear h h0 h1 hm g1 hl hm3 m1 m2
  generalize idB id = ib at *
  generalize hx1 : mixN 1 ib = x1 at *
  generalize hx2 : mixN 2 ib = x2 at *
  have HX1 := Lib.hid hx1
  have HX2 := Lib.hid hx2
  obtain ⟨p, hp⟩ : ∃ p, m = p + 1 := ⟨m - 1, by have := HM.out; omega⟩
  have hms : IntKind.i64.wrap ((m : Int) - 1) = (p : Int) := by have := HM.out; rw [IntWalk.i64_in _ (by omega)]; omega
  have hpw : IntKind.u32.wrap (p : Int) = (p : Int) := by have := HM.out; exact u32_small (by omega) (by omega)
  have hne : ((m : Int) == 0) = false := beq_eq_false_iff_ne.2 (by have := HM.out; omega)
  have hm0 : ¬ ((m : Int) = 0) := by have := HM.out; omega
  have hp0 : ¬ ((p : Int) = 0) := by have := HM.out; omega
  have hm0' : ¬ (m = 0) := by have := HM.out; omega
  have hp0' : ¬ (p = 0) := by have := HM.out; omega
  have hnp : ((p : Int) == 0) = false := beq_eq_false_iff_ne.2 (by have := HM.out; omega)
  have hr1 : Int.tmod (x1 : Int) (m : Int) = ((x1 % m : Nat) : Int) := by rw [Int.tmod_eq_emod_of_nonneg (by omega), Int.natCast_emod]
  have hr2 : Int.tmod (x2 : Int) (p : Int) = ((x2 % p : Nat) : Int) := by rw [Int.tmod_eq_emod_of_nonneg (by omega), Int.natCast_emod]
  have hlt1 : x1 % m < m := Nat.mod_lt _ (by have := HM.out; omega)
  have hlt2 : x2 % p < p := Nat.mod_lt _ (by have := HM.out; omega)
  have HSk2 : Hid (skipN id m = x2 % p + 1) := Lib.hid (by rw [HSk.out, hp]; rfl)
  generalize x1 % m = y1 at *
  generalize x2 % p = y2 at *
  have HB := Lib.hid (And.intro hlt1 (And.intro hlt2 hp))
  have w1' : IntKind.u32.wrap (y1 : Int) = (y1 : Int) := by have := HM.out; exact u32_small (by omega) (by omega)
  have w2' : IntKind.u32.wrap (y2 : Int) = (y2 : Int) := by have := HM.out; exact u32_small (by omega) (by omega)
  have w3' : IntKind.u32.wrap ((y2 : Int) + 1) = ((y2 + 1 : Nat) : Int) := by have := HM.out; rw [u32_small (by omega) (by omega)]; omega
  have W4 : Hid (wrap64 (y1 : Int) = (y1 : Int)) := Lib.hid (by have := HM.out; unfold wrap64; omega)
  have W5 : Hid (wrap64 ((y2 : Int) + 1) = ((y2 + 1 : Nat) : Int)) := Lib.hid (by have := HM.out; unfold wrap64; omega)
  clear hx1 hx2 hlt1 hlt2 hp HSk
  go_enter Tryz.func68, Tryz.ntmps68
  go_wp2_with fail
  refine K0.out.mono ?_
  rintro e w1 ⟨rfl, rfl⟩
  clear K0
  go_wp2_with fail
  refine K1.out.mono ?_
  rintro e w2 ⟨rfl, ho⟩
  have K2 := Lib.hid (o_wbytes ho 0 rfl (by rw [HL.out]; omega))
  clear ho K1
  go_wp2_with fail
  refine K2.out.mono ?_
  rintro e w3 ⟨v, rfl, ho⟩
  obtain ⟨a, c, rfl⟩ := ByR.shape ho
  rw [HL.out]
  have K3 := Lib.hid (KX.out 1 (by omega) w3 a c (by have := ByR.src ho 0 rfl; rwa [HL.out] at this))
  rw [HX1.out] at K3
  have K4 := Lib.hid (o_wbytes ho 1 rfl (by rw [HL.out]; omega))
  clear ho K2
  go_wp2_with fail
  refine K3.out.mono ?_
  rintro e w4 ⟨rfl, rfl⟩
  clear K3
  go_wp2_with fail
  refine K4.out.mono ?_
  rintro e w5 ⟨v2, rfl, ho⟩
  obtain ⟨a2, c2, rfl⟩ := ByR.shape ho
  rw [HL.out]
  have K5 := Lib.hid (KX.out 2 (by omega) w5 a2 c2 (by have := ByR.src ho 0 rfl; rwa [HL.out] at this))
  rw [HX2.out] at K5
  have G := Lib.hid (ho.sel2 (R1 := [_, _, _]) (R2 := R) [] (by decide) rfl)
  clear ho K4 KX
  go_wp2_with fail
  refine K5.out.mono ?_
  rintro e w6 ⟨rfl, rfl⟩
  clear K5
  go_wp2_with fail
  go_ret2
  refine ⟨?_, G.out⟩
  show Ending.returned (.tuple #[.int .i64 (wrap64 (y1 : Int)), .int .i64 (wrap64 ((y2 : Int) + 1))]) = _
  rw [HF.out, HSk2.out, W4.out, W5.out]
end
theorem upId_snoc : ∀ (l : List Bk) (b : Bk), upId (l ++ [b]) = (upId l && (match l.getLast? with | none => true | some a => decide (a.id < b.id)))
  | [], b => rfl
  | [a], b => by simp [upId]
  | a :: c :: r, b => by
    have ih := upId_snoc (c :: r) b
    simp only [List.cons_append] at ih ⊢
    simp only [upId, ih, List.getLast?_cons_cons, Bool.and_assoc]
theorem gn_weighed (x : Int) (w : World) : Calls Tryz.prog 73 #[.int .i64 x] w fun e w' => e = .returned (.bool (decide (1 ≤ x ∧ x ≤ 10))) ∧ w' = w := by
  by_cases h0 : 1 ≤ x
  · by_cases h1 : x ≤ 10
    · have e : decide (1 ≤ x ∧ x ≤ 10) = true := decide_eq_true ⟨h0, h1⟩
      rw [e]; clear e
      go_enter Tryz.func73, Tryz.ntmps73
      go_wp2_with fail
      go_ret
      exact ⟨rfl, rfl⟩
    · have e : decide (1 ≤ x ∧ x ≤ 10) = false := decide_eq_false (fun h => h1 h.2)
      have q : decide (x ≤ 10) = false := decide_eq_false h1
      rw [e]; clear e h1
      go_enter Tryz.func73, Tryz.ntmps73
      go_wp2_with fail
      go_ret
      exact ⟨rfl, rfl⟩
  · have e : decide (1 ≤ x ∧ x ≤ 10) = false := decide_eq_false (fun h => h0 h.1)
    have q : decide (1 ≤ x) = false := decide_eq_false h0
    rw [e]; clear e h0
    go_enter Tryz.func73, Tryz.ntmps73
    go_wp2_with fail
    go_ret
    exact ⟨rfl, rfl⟩
section
variable {F0 : List Nat} {w0 w : World} {R : List Asrt}
def GnRel (l : List Bk) (F0 : List Nat) (w0 : World) (R : List Asrt) (i : Value) (wr : World) : Prop :=
  ∃ k : Nat, k ≤ l.length ∧ i = .int .i64 k ∧ (∀ b ∈ l.take k, mayBk b = true) ∧ upId (l.take k) = true ∧ In F0 w0 wr R
def GnPost (r : Bool) (F0 : List Nat) (w0 : World) (R : List Asrt) (e : Ending) (w' : World) : Prop := e = .returned (.bool r) ∧ In F0 w0 w' R
def gnOk (l : List Bk) (k : Nat) (b : Bk) : Bool := mayBk b && (match (l.take k).getLast? with | none => true | some a => decide (a.id < b.id))
theorem gn_step {l : List Bk} {k : Nat} {b : Bk} (hb : l[k]? = some b) (ha : ∀ b ∈ l.take k, mayBk b = true) (hu : upId (l.take k) = true) (h : gnOk l k b = true) (hi : In F0 w0 w R) : GnRel l F0 w0 R (.int .i64 ((k : Int) + 1)) w := by
  simp only [gnOk, Bool.and_eq_true] at h
  have ht : l.take (k + 1) = l.take k ++ [b] := by rw [List.take_add_one, hb]; rfl
  refine ⟨k + 1, (List.getElem?_eq_some_iff.1 hb).1, by rw [Int.natCast_add]; rfl, fun x hx => ?_, ?_, hi⟩
  · rw [ht] at hx
    rcases List.mem_append.1 hx with hx | hx
    · exact ha x hx
    · simp at hx; subst hx; exact h.1
  · rw [ht, upId_snoc, hu, h.2]; rfl
theorem upId_take : ∀ (l : List Bk) (k : Nat), upId l = true → upId (l.take k) = true
  | [], k, _ => by simp [upId]
  | a :: r, 0, _ => rfl
  | [a], k + 1, _ => by simp [upId]
  | a :: c :: r, 1, _ => rfl
  | a :: c :: r, k + 2, h => by
    simp only [upId, Bool.and_eq_true] at h
    have := upId_take (c :: r) (k + 1) h.2
    simp only [List.take_succ_cons] at this ⊢
    simp only [upId, Bool.and_eq_true]
    exact ⟨h.1, this⟩
theorem gn_no {l : List Bk} {k : Nat} {b : Bk} (hb : l[k]? = some b) (h : gnOk l k b = false) : gensMay l = false := by
  cases hg : gensMay l with
  | false => rfl
  | true =>
    simp only [gensMay, Bool.and_eq_true, decide_eq_true_eq, List.all_eq_true] at hg
    have h1 := hg.2.1 b (List.mem_of_getElem? hb)
    have ht : l.take (k + 1) = l.take k ++ [b] := by rw [List.take_add_one, hb]; rfl
    have h2 := upId_take l (k + 1) hg.2.2
    rw [ht, upId_snoc] at h2
    simp only [Bool.and_eq_true] at h2
    unfold gnOk at h
    rw [h1, h2.2] at h
    cases h
theorem gn_last {l : List Bk} {k : Nat} (hk : k + 1 ≤ l.length) : ∃ a, l[k]? = some a ∧ (l.take (k + 1)).getLast? = some a := by
  obtain ⟨a, ha⟩ : ∃ a, l[k]? = some a := ⟨l[k]'(by omega), List.getElem?_eq_getElem _⟩
  exact ⟨a, ha, by rw [List.take_add_one, ha]; simp⟩
theorem o_gnmay {l : List Bk} {A : Option Addr} {c : Nat} (hs : BksAt F0 w0 R A l) (hl : l.length ≤ 1000000000) (h : In F0 w0 w R) : Calls Tryz.prog 36 #[.slice A l.length c] w (GnPost (gensMay l) F0 w0 R) := by
  by_cases h16 : 16 < l.length
  · have e : gensMay l = false := by unfold gensMay; rw [decide_eq_false (by omega)]; rfl
    have q : (16 : Int) < (l.length : Int) := by omega
    have G := Lib.hid h
    rw [e]
    clear e h h16 hs hl
    go_enter Tryz.func36, Tryz.ntmps36
    go_wp2_with fail
    go_ret
    exact ⟨rfl, G.out⟩
  have q16 : decide ((16 : Int) < (l.length : Int)) = false := decide_eq_false (by omega)
  have HL16 : Hid (l.length ≤ 16) := Lib.hid (Nat.le_of_not_lt h16)
  have HR : Hid (GnRel l F0 w0 R (.int .i64 0) w) := Lib.hid ⟨0, Nat.zero_le _, rfl, by simp, rfl, h⟩
  have HS := Lib.hid hs
  clear h hs hl h16
  go_enter Tryz.func36, Tryz.ntmps36
  go_wp2_with fail
  go_loopw [10] (GnRel l F0 w0 R) (fun k _ => l.length - (intOf k).toNat)
  case atStart => exact HR.out
  case round =>
    obtain ⟨k, hk, rfl, hall, hup, hio⟩ := hrel
    clear HR
    by_cases hlt : k < l.length
    · obtain ⟨b, hb⟩ : ∃ b, l[k]? = some b := ⟨l[k], List.getElem?_eq_getElem hlt⟩
      obtain ⟨g, o, rfl, c0, c1, c2⟩ := HS.out.cell hio hb
      have hlt' : (k : Int) < (l.length : Int) := Int.ofNat_lt.2 hlt
      have hw2 : wrap64 ((k : Int) + 1) = (k : Int) + 1 := by have := HL16.out; unfold wrap64; omega
      have HN := Lib.hid (fun (h1 : gnOk l k b = true) w' (h' : In F0 w0 w' R) => gn_step (w := w') hb hall hup h1 h')
      have HX := Lib.hid (fun (h1 : gnOk l k b = false) w' (h' : In F0 w0 w' R) => (show GnPost (gensMay l) F0 w0 R (.returned (.bool false)) w' from ⟨by rw [gn_no hb h1], h'⟩))
      have HIO : Hid (∀ o n, In F0 w0 ((wr.alloc o).drewN n) R) := Lib.hid fun o n => (hio.alloc o).drewN n
      have KW := Lib.hid (gn_weighed b.weight)
      have HK0 : Hid (∀ a, k ≠ 0 → l[k - 1]? = some a → wr.cell? ⟨g, o + (k - 1) * 3, none⟩ = some (.int .i64 a.id)) := Lib.hid fun a _ ha => by
        obtain ⟨g', o', e, d0, _⟩ := HS.out.cell hio ha
        cases e; exact d0
      obtain ⟨id, addr, wt⟩ := b
      simp only at c0 c1 c2 KW
      have hmb : mayBk ⟨id, addr, wt⟩ = (inB id 65535 && decide (1 ≤ wt ∧ wt ≤ 10)) := rfl
      by_cases hA : id < 0
      · have HX2 := Lib.hid (HX.out (by unfold gnOk; rw [hmb]; unfold inB; rw [decide_eq_false (by omega)]; rfl))
        clear HX HN HK0 hio hall hup hb hlt hk hmb
        go_wp2_with fail
        go_quiet (fail)
        go_wp2_with fail
        go_ret
        exact HX2.out _ (HIO.out _ _)
      have qA : decide (id < 0) = false := decide_eq_false hA
      by_cases hB : 65535 < id
      · have HX2 := Lib.hid (HX.out (by unfold gnOk; rw [hmb]; unfold inB; rw [decide_eq_false (by omega)]; rfl))
        clear HX HN HK0 hio hall hup hb hlt hk hmb hA
        go_wp2_with fail
        go_quiet (fail)
        go_wp2_with fail
        go_ret
        exact HX2.out _ (HIO.out _ _)
      have qB : decide (65535 < id) = false := decide_eq_false hB
      have hin : inB id 65535 = true := decide_eq_true (by omega)
      rw [hin, Bool.true_and] at hmb
      cases hC : decide (1 ≤ wt ∧ wt ≤ 10) with
      | false =>
        rw [hC] at KW
        have HX2 := Lib.hid (HX.out (by unfold gnOk; rw [hmb, hC]; rfl))
        clear HX HN HK0 hio hall hup hb hlt hk hmb hA hB hin hC
        go_wp2_with fail
        go_quiet ((go_at_call 73; exact Calls.quiet_of_same (KW.out _)))
        go_wp2_with fail
        go_ret
        exact HX2.out _ (HIO.out _ _)
      | true =>
        rw [hC] at KW
        rw [hC] at hmb
        by_cases hD : k = 0
        · have hgo : gnOk l k ⟨id, addr, wt⟩ = true := by unfold gnOk; rw [hmb, hD]; rfl
          have HN2 := Lib.hid (HN.out hgo)
          have qD : decide ((0 : Int) < (k : Int)) = false := decide_eq_false (by omega)
          have qD' : decide (0 < k) = false := decide_eq_false (by omega)
          clear HX HN HK0 hio hall hup hb hlt hk hmb hA hB hin hC hgo hD
          go_wp2_with fail
          go_quiet ((go_at_call 73; exact Calls.quiet_of_same (KW.out _)))
          go_wp2_with fail
          go_roundw
          case rel => (try rw [hw2]); exact HN2.out _ (HIO.out _ _)
          case measure => (try rw [hw2]); exact meas_lt hlt'
        · have qD : (0 : Int) < (k : Int) := by omega
          obtain ⟨k', rfl⟩ : ∃ k', k = k' + 1 := ⟨k - 1, by omega⟩
          obtain ⟨a, ha, hla⟩ := gn_last (l := l) (k := k') (by omega)
          have d0 := HK0.out a hD (by simpa using ha)
          rw [Nat.add_sub_cancel] at d0
          have hkc : (((k' + 1 : Nat) : Int)) = (k' : Int) + 1 := by omega
          have hsub : IntKind.i64.wrap (((k' + 1 : Nat) : Int) - 1) = (k' : Int) := by have := HL16.out; rw [IntWalk.i64_in _ (by omega)]; omega
          have hsub2 : (((k' + 1 : Nat) : Int) - 1) = (k' : Int) := by omega
          have hkl : (k' : Int) < (l.length : Int) := by omega
          have hsub3 : IntKind.i64.wrap ((k' : Int) + 1 - 1) = (k' : Int) := by have := HL16.out; rw [IntWalk.i64_in _ (by omega)]; omega
          have hsub4 : ((k' : Int) + 1 - 1) = (k' : Int) := by omega
          have qD2 : (0 : Int) < (k' : Int) + 1 := by omega
          have hsub5 : IntKind.i64.wrap (k' : Int) = (k' : Int) := by have := HL16.out; exact IntWalk.i64_in _ (by omega)
          have hkl2 : k' < l.length := by omega
          have hw3 : wrap64 ((k' : Int) + 1 + 1) = ((k' + 1 : Nat) : Int) + 1 := by have := HL16.out; unfold wrap64; omega
          have hb3 := hio.cells #[.int .i64 id, .int .u32 addr, .int .i64 wt] 33
          have y0 : (wr.alloc (.cells #[.int .i64 id, .int .u32 addr, .int .i64 wt] 33)).cell? ⟨wr.heap.size, 0, none⟩ = some (.int .i64 id) := cell_of (hb3.block 0 rfl) rfl
          have y2 : (wr.alloc (.cells #[.int .i64 id, .int .u32 addr, .int .i64 wt] 33)).cell? ⟨wr.heap.size, 2, none⟩ = some (.int .i64 wt) := cell_of (hb3.block 0 rfl) rfl
          have y3 : (wr.alloc (.cells #[.int .i64 id, .int .u32 addr, .int .i64 wt] 33)).cell? ⟨g, o + k' * 3, none⟩ = some (.int .i64 a.id) := by rw [World.cell?_alloc_lt _ _ _ (World.block_lt_of_cell? _ _ d0)]; exact d0
          clear hb3
          by_cases hE : id ≤ a.id
          · have HX2 := Lib.hid (HX.out (by unfold gnOk; rw [hmb, hla]; simp; omega))
            clear HX HN HK0 hio hall hup hb hlt hk hmb hA hB hin hC hD ha hla hkc
            go_wp2_with fail
            go_region_held3 (fun w' => w'.cell? ⟨wr.heap.size, 0, none⟩ = some (.int .i64 id) ∧ w'.cell? ⟨wr.heap.size, 2, none⟩ = some (.int .i64 wt) ∧ w'.cell? ⟨g, o + k' * 3, none⟩ = some (.int .i64 a.id)) (first | exact ⟨y0, y2, y3⟩ | go_keep) (first | (go_at_call 73; refine (KW.out _).mono ?_; rintro e w5 ⟨rfl, rfl⟩))
            go_wp2_with fail
            go_ret
            exact HX2.out _ (HIO.out _ 1)
          · have qE : decide (id ≤ a.id) = false := decide_eq_false hE
            have HN2 := Lib.hid (HN.out (by unfold gnOk; rw [hmb, hla]; simp; omega))
            clear HX HN HK0 hio hall hup hb hlt hk hmb hA hB hin hC hD ha hla hE hkc
            go_wp2_with fail
            go_region_held3 (fun w' => w'.cell? ⟨wr.heap.size, 0, none⟩ = some (.int .i64 id) ∧ w'.cell? ⟨wr.heap.size, 2, none⟩ = some (.int .i64 wt) ∧ w'.cell? ⟨g, o + k' * 3, none⟩ = some (.int .i64 a.id)) (first | exact ⟨y0, y2, y3⟩ | go_keep) (first | (go_at_call 73; refine (KW.out _).mono ?_; rintro e w5 ⟨rfl, rfl⟩))
            go_wp2_with fail
            go_roundw
            case rel => (try rw [hw2]); (try rw [hw3]); exact HN2.out _ (HIO.out _ 1)
            case measure => (try rw [hw2]); (try rw [hw3]); exact meas_lt hlt'
    · have hge : (l.length : Int) ≤ (k : Int) := Int.ofNat_le.2 (Nat.le_of_not_lt hlt)
      have hkl : l.take k = l := List.take_of_length_le (Nat.le_of_not_lt hlt)
      rw [hkl] at hall hup
      have e : gensMay l = true := by
        unfold gensMay
        rw [decide_eq_true HL16.out, hup, List.all_eq_true.2 hall]; rfl
      have G : Hid (GnPost (gensMay l) F0 w0 R (.returned (.bool true)) wr) := Lib.hid ⟨by rw [e], hio⟩
      clear hio hkl hall hup hk hlt e
      go_wp2_with fail
      go_ret
      exact G.out
end
section
variable {F0 : List Nat} {w0 w : World} {R : List Asrt}
theorem mayL_cons {l : List Bk} (h : l ≠ []) : mayL l = gensMay l := by unfold mayL; rw [decide_eq_true h]; rfl
theorem o_mamay {l : List Bk} {A : Option Addr} {c : Nat} (hs : BksAt F0 w0 R A l) (hl : l.length ≤ 1000000000) (h : In F0 w0 w R) : Calls Tryz.prog 67 #[.slice A l.length c] w (GnPost (mayL l) F0 w0 R) := by
  by_cases h0 : l = []
  · subst h0
    have e : mayL [] = false := rfl
    have G := Lib.hid h
    rw [e]
    clear e h hs hl
    go_enter Tryz.func67, Tryz.ntmps67
    go_wp2_with fail
    go_ret
    exact ⟨rfl, G.out⟩
  rw [mayL_cons h0]
  have hpos : 0 < l.length := List.length_pos_iff.2 h0
  have q0 : ((l.length : Int) == 0) = false := beq_eq_false_iff_ne.2 (by omega)
  by_cases h16 : 16 < l.length
  · have e : gensMay l = false := by unfold gensMay; rw [decide_eq_false (by omega)]; rfl
    have q : (16 : Int) < (l.length : Int) := by omega
    have G := Lib.hid h
    rw [e]
    clear e h h16 hs hl h0 hpos
    go_enter Tryz.func67, Tryz.ntmps67
    go_wp2_with fail
    go_ret
    exact ⟨rfl, G.out⟩
  have q16 : decide ((16 : Int) < (l.length : Int)) = false := decide_eq_false (by omega)
  have HL16 : Hid (l.length ≤ 16) := Lib.hid (Nat.le_of_not_lt h16)
  have HR : Hid (GnRel l F0 w0 R (.int .i64 0) w) := Lib.hid ⟨0, Nat.zero_le _, rfl, by simp, rfl, h⟩
  have HS := Lib.hid hs
  clear h hs hl h16 h0 hpos
  go_enter Tryz.func67, Tryz.ntmps67
  go_wp2_with fail
  go_loopw [15] (GnRel l F0 w0 R) (fun k _ => l.length - (intOf k).toNat)
  case atStart => exact HR.out
  case round =>
    obtain ⟨k, hk, rfl, hall, hup, hio⟩ := hrel
    clear HR q0
    by_cases hlt : k < l.length
    · obtain ⟨b, hb⟩ : ∃ b, l[k]? = some b := ⟨l[k], List.getElem?_eq_getElem hlt⟩
      obtain ⟨g, o, rfl, c0, c1, c2⟩ := HS.out.cell hio hb
      have hlt' : (k : Int) < (l.length : Int) := Int.ofNat_lt.2 hlt
      have hw2 : wrap64 ((k : Int) + 1) = (k : Int) + 1 := by have := HL16.out; unfold wrap64; omega
      have HN := Lib.hid (fun (h1 : gnOk l k b = true) w' (h' : In F0 w0 w' R) => gn_step (w := w') hb hall hup h1 h')
      have HX := Lib.hid (fun (h1 : gnOk l k b = false) w' (h' : In F0 w0 w' R) => (show GnPost (gensMay l) F0 w0 R (.returned (.bool false)) w' from ⟨by rw [gn_no hb h1], h'⟩))
      have HIO : Hid (∀ o n, In F0 w0 ((wr.alloc o).drewN n) R) := Lib.hid fun o n => (hio.alloc o).drewN n
      have HK0 : Hid (∀ a, k ≠ 0 → l[k - 1]? = some a → wr.cell? ⟨g, o + (k - 1) * 3, none⟩ = some (.int .i64 a.id)) := Lib.hid fun a _ ha => by
        obtain ⟨g', o', e, d0, _⟩ := HS.out.cell hio ha
        cases e; exact d0
      obtain ⟨id, addr, wt⟩ := b
      simp only at c0 c1 c2
      have hmb : mayBk ⟨id, addr, wt⟩ = (inB id 65535 && decide (1 ≤ wt ∧ wt ≤ 10)) := rfl
      by_cases hA : id < 0
      · have HX2 := Lib.hid (HX.out (by unfold gnOk; rw [hmb]; unfold inB; rw [decide_eq_false (by omega)]; rfl))
        clear HX HN HK0 hio hall hup hb hlt hk hmb
        go_wp2_with fail
        go_quiet (fail)
        go_wp2_with fail
        go_ret
        exact HX2.out _ (HIO.out _ _)
      have qA : decide (id < 0) = false := decide_eq_false hA
      by_cases hB : 65535 < id
      · have HX2 := Lib.hid (HX.out (by unfold gnOk; rw [hmb]; unfold inB; rw [decide_eq_false (by omega)]; rfl))
        clear HX HN HK0 hio hall hup hb hlt hk hmb hA
        go_wp2_with fail
        go_quiet (fail)
        go_wp2_with fail
        go_ret
        exact HX2.out _ (HIO.out _ _)
      have qB : decide (65535 < id) = false := decide_eq_false hB
      have hin : inB id 65535 = true := decide_eq_true (by omega)
      rw [hin, Bool.true_and] at hmb
      by_cases hC : wt < 1
      · have HX2 := Lib.hid (HX.out (by unfold gnOk; rw [hmb, decide_eq_false (by omega)]; rfl))
        clear HX HN HK0 hio hall hup hb hlt hk hmb hA hB hin
        go_wp2_with fail
        go_quiet (fail)
        go_wp2_with fail
        go_ret
        exact HX2.out _ (HIO.out _ _)
      have qC : decide (wt < 1) = false := decide_eq_false hC
      by_cases hC2 : 10 < wt
      · have HX2 := Lib.hid (HX.out (by unfold gnOk; rw [hmb, decide_eq_false (by omega)]; rfl))
        clear HX HN HK0 hio hall hup hb hlt hk hmb hA hB hin hC
        go_wp2_with fail
        go_quiet (fail)
        go_wp2_with fail
        go_ret
        exact HX2.out _ (HIO.out _ _)
      have qC2 : decide (10 < wt) = false := decide_eq_false hC2
      rw [decide_eq_true (by omega)] at hmb
      by_cases hD : k = 0
      · have hgo : gnOk l k ⟨id, addr, wt⟩ = true := by unfold gnOk; rw [hmb, hD]; rfl
        have HN2 := Lib.hid (HN.out hgo)
        have qD : decide ((0 : Int) < (k : Int)) = false := decide_eq_false (by omega)
        have qD' : decide (0 < k) = false := decide_eq_false (by omega)
        clear HX HN HK0 hio hall hup hb hlt hk hmb hA hB hin hC hC2 hgo hD
        go_wp2_with fail
        go_quiet (fail)
        go_wp2_with fail
        go_roundw
        case rel => (try rw [hw2]); exact HN2.out _ (HIO.out _ _)
        case measure => (try rw [hw2]); exact meas_lt hlt'
      · have qD : (0 : Int) < (k : Int) := by omega
        obtain ⟨k', rfl⟩ : ∃ k', k = k' + 1 := ⟨k - 1, by omega⟩
        obtain ⟨a, ha, hla⟩ := gn_last (l := l) (k := k') (by omega)
        have d0 := HK0.out a hD (by simpa using ha)
        rw [Nat.add_sub_cancel] at d0
        have hsub2 : (((k' + 1 : Nat) : Int) - 1) = (k' : Int) := by omega
        have hsub : IntKind.i64.wrap (((k' + 1 : Nat) : Int) - 1) = (k' : Int) := by have := HL16.out; rw [IntWalk.i64_in _ (by omega)]; omega
        have hkl : (k' : Int) < (l.length : Int) := by omega
        have hsub3 : IntKind.i64.wrap ((k' : Int) + 1 - 1) = (k' : Int) := by have := HL16.out; rw [IntWalk.i64_in _ (by omega)]; omega
        have hsub4 : ((k' : Int) + 1 - 1) = (k' : Int) := by omega
        have qD2 : (0 : Int) < (k' : Int) + 1 := by omega
        have hsub5 : IntKind.i64.wrap (k' : Int) = (k' : Int) := by have := HL16.out; exact IntWalk.i64_in _ (by omega)
        have hkl2 : k' < l.length := by omega
        have hw3 : wrap64 ((k' : Int) + 1 + 1) = ((k' + 1 : Nat) : Int) + 1 := by have := HL16.out; unfold wrap64; omega
        have hb3 := hio.cells #[.int .i64 id, .int .u32 addr, .int .i64 wt] 33
        have y0 : (wr.alloc (.cells #[.int .i64 id, .int .u32 addr, .int .i64 wt] 33)).cell? ⟨wr.heap.size, 0, none⟩ = some (.int .i64 id) := cell_of (hb3.block 0 rfl) rfl
        have y2 : (wr.alloc (.cells #[.int .i64 id, .int .u32 addr, .int .i64 wt] 33)).cell? ⟨wr.heap.size, 2, none⟩ = some (.int .i64 wt) := cell_of (hb3.block 0 rfl) rfl
        have y3 : (wr.alloc (.cells #[.int .i64 id, .int .u32 addr, .int .i64 wt] 33)).cell? ⟨g, o + k' * 3, none⟩ = some (.int .i64 a.id) := by rw [World.cell?_alloc_lt _ _ _ (World.block_lt_of_cell? _ _ d0)]; exact d0
        clear hb3
        by_cases hE : id ≤ a.id
        · have HX2 := Lib.hid (HX.out (by unfold gnOk; rw [hmb, hla]; simp; omega))
          clear HX HN HK0 hio hall hup hb hlt hk hmb hA hB hin hC hC2 hD ha hla
          go_wp2_with fail
          go_region_held3 (fun w' => w'.cell? ⟨wr.heap.size, 0, none⟩ = some (.int .i64 id) ∧ w'.cell? ⟨wr.heap.size, 2, none⟩ = some (.int .i64 wt) ∧ w'.cell? ⟨g, o + k' * 3, none⟩ = some (.int .i64 a.id)) (first | exact ⟨y0, y2, y3⟩ | go_keep) (fail)
          go_wp2_with fail
          go_ret
          exact HX2.out _ (HIO.out _ 1)
        · have qE : decide (id ≤ a.id) = false := decide_eq_false hE
          have HN2 := Lib.hid (HN.out (by unfold gnOk; rw [hmb, hla]; simp; omega))
          clear HX HN HK0 hio hall hup hb hlt hk hmb hA hB hin hC hC2 hD ha hla hE
          go_wp2_with fail
          go_region_held3 (fun w' => w'.cell? ⟨wr.heap.size, 0, none⟩ = some (.int .i64 id) ∧ w'.cell? ⟨wr.heap.size, 2, none⟩ = some (.int .i64 wt) ∧ w'.cell? ⟨g, o + k' * 3, none⟩ = some (.int .i64 a.id)) (first | exact ⟨y0, y2, y3⟩ | go_keep) (fail)
          go_wp2_with fail
          go_roundw
          case rel => (try rw [hw2]); (try rw [hw3]); exact HN2.out _ (HIO.out _ 1)
          case measure => (try rw [hw2]); (try rw [hw3]); exact meas_lt hlt'
    · have hge : (l.length : Int) ≤ (k : Int) := Int.ofNat_le.2 (Nat.le_of_not_lt hlt)
      have hkl : l.take k = l := List.take_of_length_le (Nat.le_of_not_lt hlt)
      rw [hkl] at hall hup
      have e : gensMay l = true := by
        unfold gensMay
        rw [decide_eq_true HL16.out, hup, List.all_eq_true.2 hall]; rfl
      have G : Hid (GnPost (gensMay l) F0 w0 R (.returned (.bool true)) wr) := Lib.hid ⟨by rw [e], hio⟩
      clear hio hkl hall hup hk hlt e
      go_wp2_with fail
      go_ret
      exact G.out
end
section
variable {P : Program} {ops : Array Oper} {Q : Exit → Act → World → Prop} {md : Region.Mode} {S : World → Prop}
def wpAnyE (P : Program) (md : Region.Mode) (ops : Array Oper) (Q : Exit → Act → World → Prop) (S : World → Prop) : Nat → Array Bool → Act → World → Prop
  | 0, listed, a, w => Region.ready md ops listed = [] ∧ Q .normal a w
  | fuel + 1, listed, a, w =>
    (Region.ready md ops listed = [] → Q .normal a w) ∧
    ∀ i ∈ Region.ready md ops listed, wpOp P ops Q i (fun a' w' => (i + 1 < ops.size → S w') ∧ wpAnyE P md ops Q S fuel (listed.setIfInBounds i true) a' w') a w
theorem wpAny_of_E : ∀ (fuel : Nat) (listed : Array Bool) (a : Act) (w : World), wpAnyE P md ops Q S fuel listed a w → wpAny P md ops Q fuel listed a w
  | 0, _, _, _, h => h
  | fuel + 1, _, _, _, h => ⟨h.1, fun i hi => wpOp_mono (fun a' w' h' => wpAny_of_E fuel _ a' w' h'.2) (h.2 i hi)⟩
theorem chainB_last : Region.chainB md ops (ops.size - 1) = true :=
  List.all_eq_true.2 fun t ht => by
    have := List.mem_range.1 ht
    simp only [Bool.or_eq_true, decide_eq_true_eq]; left; omega
theorem wpAnyE_first {i : Nat} {oi : Oper} {v : Value} (hi : ops[i]? = some oi) (hsel : ∀ (j : Nat) (o : Oper) cs b, ops[j]? = some o → o.op ≠ .select cs b)
    (hQ : ∀ c a w, Q (.panic c) (a.put oi.dst v) w → Q (.panic c) a w) (hs : Region.sinkB md ops (ops.size - 1) = true) (hin : i + 1 < ops.size) :
    ∀ (fuel : Nat) (listed : Array Bool) (a : Act) (w : World), HeadInv md ops (ops.size - 1) listed →
      (∀ j oj, ops[j]? = some oj → j ≠ i → listed.getD j true = false → (∀ e ∈ oj.after, Region.binds md e = true → e.on ≠ i) → oi.apart ops oj = true) →
      i ∈ Region.ready md ops listed → YieldsIf P ops S oi v a → S w →
      wpAnyE P md ops Q S fuel (listed.setIfInBounds i true) (a.put oi.dst v) w → wpAnyE P md ops Q S (fuel + 1) listed a w := by
  intro fuel
  induction fuel with
  | zero =>
    intro listed a w inv _ hr hy hS H
    refine ⟨fun h => (by rw [h] at hr; cases hr), fun j hj => ?_⟩
    by_cases hji : j = i
    · subst hji; exact hy.wpOp hi hS ⟨fun _ => hS, H⟩
    · have := ready_mono hj hji
      rw [H.1] at this
      cases this
  | succ fuel ih =>
    intro listed a w inv hfree hr hy hS H
    refine ⟨fun h => (by rw [h] at hr; cases hr), fun j hj => ?_⟩
    by_cases hji : j = i
    · subst hji; exact hy.wpOp hi hS ⟨fun _ => hS, H⟩
    · have h1 := H.2 j (ready_mono hj hji)
      have hjn : j < ops.size - 1 := by
        refine Nat.lt_of_not_le fun hle => ?_
        exact tail_waits hs chainB_last (by omega) inv (ops.size - 1 - i) i rfl (by omega) (mem_ready.1 hr).1 j hle hj
      obtain ⟨hjun, oj, hoj, hall⟩ := mem_ready.1 hj
      have hnot : ∀ e ∈ oj.after, Region.binds md e = true → e.on ≠ i := fun e he hb heq => by
        have h1 := hall e he hb
        have h0 := (mem_ready.1 hr).1
        rw [heq] at h1
        rcases Nat.lt_or_ge i listed.size with h' | h'
        · simp [h'] at h0 h1; rw [h0] at h1; cases h1
        · simp [Array.getElem?_eq_none h'] at h1
      have h2 := wpOp_putIf hoj (hfree j oj hoj hji hjun hnot) (fun cs b => hsel i oi cs b hi) (fun cs b => hsel j oj cs b hoj) hQ hy h1
      have hfree' : ∀ k ok, ops[k]? = some ok → k ≠ i → (listed.setIfInBounds j true).getD k true = false →
          (∀ e ∈ ok.after, Region.binds md e = true → e.on ≠ i) → oi.apart ops ok = true := fun k ok hk hki hun hno => by
        refine hfree k ok hk hki ?_ hno
        by_cases hjk : j = k
        · subst hjk; exact hjun
        · rw [getD_set_ne true hjk] at hun; exact hun
      refine wpOp_mono (fun a' w' h3 => ⟨h3.2.1, ih (listed.setIfInBounds j true) a' w' (inv.set hj hjn) hfree' (ready_mono hr (Ne.symm hji)) h3.1 (h3.2.1 (by omega)) ?_⟩) h2
      rw [Array.setIfInBounds_comm _ _ hji]
      exact h3.2.2
theorem wpAnyE_done {listed : Array Bool} {a : Act} {w : World} (hr : Region.ready md ops listed = []) (h : Q .normal a w) : ∀ fuel, wpAnyE P md ops Q S fuel listed a w
  | 0 => ⟨hr, h⟩
  | _ + 1 => ⟨fun _ => h, by rw [hr]; simp⟩
variable {l : List Oper}
def EAt (P : Program) (l : List Oper) (Q : Exit → Act → World → Prop) (S : World → Prop) (fuel : Nat) (listed : Array Bool) (a : Act) (w : World) : Prop :=
  HeadInv .any l.toArray (l.toArray.size - 1) listed → wpAnyE P .any l.toArray Q S fuel listed a w
def takeB (l : List Oper) (i : Nat) (listed : Array Bool) : Bool :=
  Region.noSelect l.toArray && Region.sinkB .any l.toArray (l.toArray.size - 1) && decide (i + 1 < l.toArray.size) && Region.free .any l.toArray listed i && (Region.ready .any l.toArray listed).contains i
theorem e_take {i : Nat} {oi : Oper} {v : Value} {fuel : Nat} {listed : Array Bool} {a : Act} {w : World} (hi : l[i]? = some oi) (hc : takeB l i listed = true)
    (hQ : ∀ c a w, Q (.panic c) (a.put oi.dst v) w → Q (.panic c) a w) (hw : Region.wanted oi (yielded l.toArray a.tmps) = true) (hy : ∀ w, S w → (execOp a.eval oi).run P w = .ok (.value v) w) (hS : S w)
    (h : EAt P l Q S fuel (listed.setIfInBounds i true) (a.put oi.dst v) w) : EAt P l Q S (fuel + 1) listed a w := by
  simp only [takeB, Bool.and_eq_true, decide_eq_true_eq] at hc
  obtain ⟨⟨⟨⟨h1, h2⟩, h3⟩, h4⟩, h5⟩ := hc
  have hi' : l.toArray[i]? = some oi := by simpa using hi
  have hr : i ∈ Region.ready .any l.toArray listed := by simpa using h5
  intro inv
  exact wpAnyE_first hi' (Region.noSelect_spec h1) hQ h2 h3 fuel listed a w inv (Region.free_spec hi' h4) hr (Or.inl ⟨hw, hy⟩) hS (h (inv.set hr (by omega)))
def pinB (l : List Oper) (i : Nat) (listed : Array Bool) : Bool := decide (Region.ready .any l.toArray listed = [i]) && decide (i + 1 < l.toArray.size)
theorem e_pin {i : Nat} {o : Oper} {fuel : Nat} {listed : Array Bool} {a : Act} {w : World} (hi : l[i]? = some o) (hc : pinB l i listed = true)
    (h : ∀ K' : Act → World → Prop, Shut (∀ a w, S w → (S w → EAt P l Q S fuel (listed.setIfInBounds i true) a w) → K' a w) → if Region.wanted o (yielded l.toArray a.tmps) = true then Oper.wp P o a w K' Q else K' (a.put o.dst undef) w) : EAt P l Q S (fuel + 1) listed a w := by
  simp only [pinB, Bool.and_eq_true, decide_eq_true_eq] at hc
  have hi' : l.toArray[i]? = some o := by simpa using hi
  intro inv
  refine ⟨fun h0 => (by rw [hc.1] at h0; cases h0), fun j hj => ?_⟩
  have hr := hj
  rw [hc.1] at hj
  obtain rfl : j = i := by simpa using hj
  have := h (fun a' w' => (j + 1 < l.toArray.size → S w') ∧ wpAnyE P .any l.toArray Q S fuel (listed.setIfInBounds j true) a' w') (fun a w hS hn => ⟨fun _ => hS, hn hS (inv.set hr (by omega))⟩)
  unfold wpOp
  simp only [hi']
  by_cases hwd : Region.wanted o (yielded l.toArray a.tmps) = true
  · rw [if_pos hwd] at this ⊢; exact Or.inl this
  · rw [if_neg hwd] at this ⊢; exact this
def lastB (l : List Oper) (i : Nat) (listed : Array Bool) : Bool := decide (Region.ready .any l.toArray listed = [i]) && decide (i + 1 = l.toArray.size) && decide (Region.ready .any l.toArray (listed.setIfInBounds i true) = [])
theorem e_last {i : Nat} {o : Oper} {fuel : Nat} {listed : Array Bool} {a : Act} {w : World} (hi : l[i]? = some o) (hc : lastB l i listed = true)
    (h : ∀ K' : Act → World → Prop, Shut (∀ a w, Q .normal a w → K' a w) → if Region.wanted o (yielded l.toArray a.tmps) = true then Oper.wp P o a w K' Q else K' (a.put o.dst undef) w) : EAt P l Q S (fuel + 1) listed a w := by
  simp only [lastB, Bool.and_eq_true, decide_eq_true_eq] at hc
  have hi' : l.toArray[i]? = some o := by simpa using hi
  intro inv
  refine ⟨fun h0 => (by rw [hc.1.1] at h0; cases h0), fun j hj => ?_⟩
  rw [hc.1.1] at hj
  obtain rfl : j = i := by simpa using hj
  have := h (fun a' w' => (j + 1 < l.toArray.size → S w') ∧ wpAnyE P .any l.toArray Q S fuel (listed.setIfInBounds j true) a' w') (fun a w hQ => ⟨fun hlt => by omega, wpAnyE_done hc.2 hQ _⟩)
  unfold wpOp
  simp only [hi']
  by_cases hwd : Region.wanted o (yielded l.toArray a.tmps) = true
  · rw [if_pos hwd] at this ⊢; exact Or.inl this
  · rw [if_neg hwd] at this ⊢; exact this
theorem e_start {id : Nat} {a : Act} {w : World} (S : World → Prop) (hm : P.follows .mixedOrders = true) (hS : S w.drew) (h : S w.drew → EAt P l Q S l.length (Array.replicate l.length false) a w.drew) : (Code.region id l.toArray true).wp P Q a w := by
  refine wp_region_any hm (wpAny_of_E (S := S) _ _ _ _ ?_)
  have := h hS ⟨by simp, fun j oj _ hl => (by rw [getD_replicate_false] at hl; cases hl), fun t _ ht => getD_in (by simpa using ht) (getD_replicate_false _ _)⟩
  simpa using this
end
theorem store_step {P : Program} {ops : Array Oper} {o : Oper} {a : Act} {w : World} {K : Act → World → Prop} {Q : Exit → Act → World → Prop} {E : Prop} (hgd : o.guard = none) (ty : TypeId) (x y : Operand) (ho : o.op = .store ty x y)
    (b off : Nat) (cells : Array Value) (hx : a.eval x = .pointer (some ⟨b, off, none⟩)) (hy : a.eval y = .agg cells) (ht : w.there b off cells.size) (hi : (P.info? ty).map (·.size) = some cells.size) (h1 : cells.all (·.oneCell') = true)
    (h : K (a.put o.dst undef) (w.setCells b off cells.toList)) : if Region.wanted o (yielded ops a.tmps) = true then Oper.wp P o a w K Q else E := by
  have hw : Region.wanted o (yielded ops a.tmps) = true := by simp [Region.wanted, hgd]
  rw [if_pos hw]
  exact wp_store_mid ty x y ho b off cells hx hy ht hi h1 h
end Go.Proofs.YtgapbecddgfkmaaGreat
