/- The document's row of backends that drain: 'Put'. -/
import Derived.Test.YtcakgponofbhkaaRDrains
import Derived.Deep.RegionLaw
import Derived.Deep.DeepCutAuto
import Derived.Deep.CutBlock
import Derived.Outline
namespace Go.Proofs.Ytcakgponofbhkaa
open Go.RowKit
set_option linter.unusedVariables false
set_option maxRecDepth 100000

/-! ### Put -/
theorem time_true {t : Int} (ht : 0 ≤ t ∧ t ≤ 1099511627776) (w : World) : Calls Try.prog 59 #[.int .i64 t] w fun e w' => e = .returned (.bool true) ∧ w = w' := by
  obtain ⟨h0, h1⟩ := ht
  go_enter Try.func59, Try.ntmps59
  go_wp2_with fail
  go_ret
  exact ⟨rfl, rfl⟩
theorem time_false {t : Int} (ht : ¬ (0 ≤ t ∧ t ≤ 1099511627776)) (w : World) : Calls Try.prog 59 #[.int .i64 t] w fun e w' => e = .returned (.bool false) ∧ w = w' := by
  by_cases h0 : 0 ≤ t
  · have h1 : decide (t ≤ 1099511627776) = false := by simp; omega
    clear ht
    go_enter Try.func59, Try.ntmps59
    go_wp2_with fail
    go_ret
    exact ⟨rfl, rfl⟩
  · have h1 : decide (0 ≤ t) = false := by simp; omega
    clear ht h0
    go_enter Try.func59, Try.ntmps59
    go_wp2_with fail
    go_ret
    exact ⟨rfl, rfl⟩
theorem rdput_arg {w : World} {br : Nat} {b t : Int} (hb : ¬ (MayB b ∧ 0 ≤ t ∧ t ≤ 1099511627776)) :
    Calls Try.prog 20 #[.pointer (some ⟨br, 0, none⟩), .int .i64 b, .int .i64 t] w fun e w' => e = .returned (.int .i64 1) ∧ w = w' := by
  unfold MayB at hb
  by_cases h0 : b < 0
  · clear hb
    go_enter Try.func20, Try.ntmps20
    go_wp2_with fail
    go_ret
    exact ⟨rfl, rfl⟩
  · by_cases h1 : 65535 < b
    · have h0' : decide (b < 0) = false := by simp; omega
      clear hb h0
      go_enter Try.func20, Try.ntmps20
      go_wp2_with fail
      go_ret
      exact ⟨rfl, rfl⟩
    · have h0' : decide (b < 0) = false := by simp; omega
      have h1' : decide (65535 < b) = false := by simp; omega
      have ht := time_false (t := t) (by omega) w
      clear hb h0 h1
      go_enter Try.func20, Try.ntmps20
      go_wp2_with fail
      refine ht.mono ?_
      rintro e w1 ⟨rfl, rfl⟩
      go_wp2_with fail
      go_ret
      exact ⟨rfl, rfl⟩
def RPutRel (br : Nat) (L : List BT) (b : Int) (v : Value) (w : World) (F : List Nat) (k : Value) (wr : World) : Prop :=
  ∃ j : Nat, k = .int .i64 j ∧ j ≤ L.length ∧ (∀ y ∈ L.take j, y.1 < b) ∧ In F w wr (RDr br v L)
def RPutEnd (br : Nat) (L : List BT) (b : Int) (v : Value) (w : World) (F : List Nat) (k : Value) (wr : World) : Prop :=
  ∃ j : Nat, k = .int .i64 j ∧ j ≤ L.length ∧ L.take j = L.takeWhile (ltB b) ∧ In F w wr (RDr br v L)
theorem flat_take (L : List BT) (j : Nat) : (flat L).take (j * 2) = flat (L.take j) := by
  induction L generalizing j with
  | nil => simp [flat]
  | cons x r ih =>
    cases j with
    | zero => simp [flat]
    | succ j =>
      have e : flat (x :: r) = .int .i64 x.1 :: .int .i64 x.2 :: flat r := rfl
      rw [e, show (j + 1) * 2 = j * 2 + 1 + 1 by omega, List.take_succ_cons, List.take_succ_cons, ih, List.take_succ_cons]; rfl
theorem flat_drop (L : List BT) (j : Nat) : (flat L).drop (j * 2) = flat (L.drop j) := by
  induction L generalizing j with
  | nil => simp [flat]
  | cons x r ih =>
    cases j with
    | zero => simp [flat]
    | succ j =>
      have e : flat (x :: r) = .int .i64 x.1 :: .int .i64 x.2 :: flat r := rfl
      rw [e, show (j + 1) * 2 = j * 2 + 1 + 1 by omega, List.drop_succ_cons, List.drop_succ_cons, ih, List.drop_succ_cons]
theorem flat_one (L : List BT) : ∀ u ∈ flat L, u.oneCell' = true := by
  intro u hu
  simp only [flat, List.mem_flatMap] at hu
  obtain ⟨x, _, hx⟩ := hu
  simp at hx
  rcases hx with rfl | rfl <;> rfl
theorem flat_app3 (L : List BT) (x : BT) (j : Nat) (hj : j ≤ L.length) : [] ++ flat (L.take j) ++ #[Value.int .i64 x.1, .int .i64 x.2].toList ++ flat (L.drop j) = flat (L.take j ++ x :: L.drop j) ∧ 0 + j + 1 + (L.length - j) = (L.take j ++ x :: L.drop j).length := by
  constructor
  · simp [flat]
  · simp [List.length_take, List.length_drop]; omega

set_option maxHeartbeats 16000000 in
theorem rdput_ok {w : World} {br : Nat} {L : List BT} {F : List Nat} (h : RDA br L w F) (hL : L.length ≤ 2048) (hk : KeysD L) {b t : Int} (hb : MayB b) (ht : 0 ≤ t ∧ t ≤ 1099511627776) (hno : ¬ (atD L b = none ∧ 1024 ≤ L.length)) :
    Calls Try.prog 20 #[.pointer (some ⟨br, 0, none⟩), .int .i64 b, .int .i64 t] w (GV (.int .i64 0) (RDA br (insB (b, t) (delD b L))) w F) := by
  have HU := Lib.hid (o_rduntil (in_one (RDA.framed br L) h) 0 rfl (by omega) b)
  have hti := time_true ht w
  have b0 : 0 ≤ b := hb.1
  have b1 : b ≤ 65535 := hb.2
  have Hc : Hid ((atD L b).isSome = true ∨ ((atD L b).isSome = false ∧ decide ((1024 : Int) ≤ (L.length : Int)) = false)) := Lib.hid (by
    cases e : atD L b with
    | none => right; simp; exact Classical.byContradiction fun h => hno ⟨e, by omega⟩
    | some t => left; rfl)
  have Hk := Lib.hid hk
  have hDl : (delD b L).length ≤ 2048 := Nat.le_trans List.filter_sublist.length_le hL
  clear h hb ht hk hno
  go_enter Try.func20, Try.ntmps20
  go_wp2_with fail
  refine hti.mono ?_
  rintro e w1 ⟨rfl, rfl⟩
  go_wp2_with fail
  refine HU.out.mono ?_
  rintro e w1 ⟨rfl, ho⟩
  obtain ⟨v1, ho1⟩ := In.open1 (G := fun v => RDr br v L) (fun v => RDr.framed) ho
  obtain ⟨Fr, hr⟩ := ho1.get 1 rfl
  obtain ⟨a, cap, rfl, -, -, -⟩ := hr.shape
  have c1 : w1.cell? ⟨br, 0, none⟩ = some (.slice a L.length cap) := cell_of (ho1.block 0 rfl) rfl
  have HC := Lib.hid (o_rdclear ho 0 rfl (by omega) Hk.out b)
  have hq := Hc.out
  clear ho ho1 hr HU Hk Hc hti
  generalize (atD L b).getD 0 = t0 at *
  generalize (atD L b).isSome = q at *
  go_upto_region 4 with fail
  go_cut [36] (fun c wx => c = .bool false ∧ wx = w1)
  case first =>
    rcases hq with rfl | ⟨rfl, hlen⟩
    all_goals
      go_wp2_with fail
      go_meet
      exact ⟨rfl, rfl⟩
  case rest =>
    obtain ⟨rfl, rfl⟩ := hcut
    go_wp2_with fail
    refine HC.out.mono ?_
    rintro e w2 ⟨rfl, ho⟩
    obtain ⟨v2, ho1⟩ := In.open1 (G := fun v => RDr br v (delD b L)) (fun v => RDr.framed) ho
    clear HC ho c1
    generalize delD b L = L2 at *
    obtain ⟨Fr, hr⟩ := ho1.get 1 rfl
    obtain ⟨a2, cap2, rfl, -, -, -⟩ := hr.shape
    have HS : Hid (RPutRel br L2 b (.slice a2 L2.length cap2) w F (.int .i64 0) w2) := Lib.hid ⟨0, rfl, Nat.zero_le _, by simp, ho1⟩
    clear ho1 hr
    go_upto_block 0 with fail
    go_cut [9] (fun k wx => RPutEnd br L2 b (.slice a2 L2.length cap2) w F k wx)
    case first =>
      go_wp2_with fail
      go_loopw [9] (RPutRel br L2 b (.slice a2 L2.length cap2) w F) (fun k _ => L2.length - (intOf k).toNat)
      case atStart => exact HS.out
      case round =>
        obtain ⟨j, rfl, hj, hlo, ho⟩ := hrel
        clear HS
        obtain ⟨Fr, hr⟩ := ho.get 1 rfl
        have c2 : wr.cell? ⟨br, 0, none⟩ = some (.slice a2 L2.length cap2) := cell_of (ho.block 0 rfl) rfl
        by_cases hgo : ∃ x, L2[j]? = some x ∧ x.1 < b
        · obtain ⟨x, hx, hxb⟩ := hgo
          have hlt : j < L2.length := (List.getElem?_eq_some_iff.1 hx).1
          have hlt' : (j : Int) < (L2.length : Int) := by omega
          obtain ⟨ba, rfl, r0⟩ := hr.at.2 (j * 2) _ (flat_at hx).1
          have HR : Hid (RPutRel br L2 b (.slice (some ⟨ba, 0, none⟩) L2.length cap2) w F (.int .i64 (j + 1)) wr) :=
            Lib.hid ⟨j + 1, by congr 1, by omega, fun y hy => by
              rw [List.take_add_one, hx] at hy
              rcases List.mem_append.1 hy with hy | hy
              · exact hlo y hy
              · simp at hy; subst hy; exact hxb, ho⟩
          clear ho hr hlo hx
          go_wp2_with fail
          go_roundw
          case rel => exact HR.out
          case measure => simp [intOf]; omega
        · have HE : Hid (RPutEnd br L2 b (.slice a2 L2.length cap2) w F (.int .i64 j) wr) := Lib.hid ⟨j, rfl, hj, (parts_at hj hlo (fun y hy => Classical.byContradiction fun hn => hgo ⟨y, hy, by omega⟩)).1, ho⟩
          have hex : ((j : Int) < (L2.length : Int) ∧ ∃ x, L2[j]? = some x ∧ b ≤ x.1) ∨ (L2.length : Int) ≤ (j : Int) := by
            by_cases e : j < L2.length
            · left; refine ⟨by omega, L2[j], List.getElem?_eq_getElem e, ?_⟩
              exact Classical.byContradiction fun hn => hgo ⟨_, List.getElem?_eq_getElem e, by omega⟩
            · right; omega
          clear hgo hlo
          rcases hex with ⟨hlt', x, hx, hxb⟩ | hge
          · obtain ⟨ba, rfl, r0⟩ := hr.at.2 (j * 2) _ (flat_at hx).1
            clear ho hr hx
            go_wp2_with fail
            go_meet
            exact HE.out
          · clear ho hr
            go_wp2_with fail
            go_meet
            exact HE.out
    case rest =>
      obtain ⟨j, rfl, hj, hpart, ho⟩ := hcut
      obtain ⟨Fr, hr⟩ := ho.get 1 rfl
      have Hins : Hid (L2.take j ++ (b, t) :: L2.drop j = insB (b, t) L2) := Lib.hid (by
        unfold insB
        have e : L2.drop j = L2.dropWhile (ltB b) := by
          have e1 := List.take_append_drop j L2
          have e2 := List.takeWhile_append_dropWhile (p := ltB b) (l := L2)
          rw [hpart] at e1
          rw [← e2] at e1
          exact List.append_cancel_left (by rw [e2] at e1 ⊢; exact e1)
        rw [hpart, e])
      clear hpart HS
      have HA : Hid (In F w wc (RowA 28 2 (.slice none 0 0) 0 [] :: RDr br (.slice a2 L2.length cap2) L2)) := Lib.hid (ho.rownil _ _)
      obtain ⟨_, _, e, hcap, _, _⟩ := hr.shape
      cases e
      have hpre : ∀ w : World, (Instr.slice 22 (.slice a2 L2.length cap2) none (some (.int .i64 j)) none).run Try.prog w = .ok (.slice a2 j cap2) w := row_prefix Try.underlying22 infoDrain hr (by omega)
      have hsuf := run_suffix Try.underlying22 infoDrain a2 L2.length cap2 j hj
      have i0 : (0 : Int) ≤ (j : Int) := by omega
      have i1 : (j : Int) ≤ (cap2 : Int) := by omega
      have i2 : (j : Int) ≤ (L2.length : Int) := by omega
      have Hsrc : Hid (∀ {w' : World} {F' : List Nat}, RowA 28 2 (.slice a2 L2.length cap2) L2.length (flat L2) w' F' → Src w' a2 j 2 (flat (L2.take j)) ∧ Src w' (sufA a2 cap2 j 2) (L2.length - j) 2 (flat (L2.drop j))) :=
        Lib.hid (fun h => ⟨by rw [← flat_take]; exact h.src hj, by rw [← flat_drop]; exact h.src_from hj⟩)
      have c3 : wc.cell? ⟨br, 0, none⟩ = some (.slice a2 L2.length cap2) := cell_of (HA.out.block 1 rfl) rfl
      have c4 : (wc.alloc (.cells #[.int .i64 b, .int .i64 t] 28)).cell? ⟨br, 0, none⟩ = some (.slice a2 L2.length cap2) := cell_of ((HA.out.cells _ _).block 2 rfl) rfl
      clear ho hr
      go_wp2_with fail
      go_region_law
        (first
          | (refine app_step rfl (R := RowA 28 2 (.slice none 0 0) 0 [] :: RDr br (.slice a2 L2.length cap2) L2) (by exact HA.out.drewN 1) 0 rfl (.const (.slice none 0 0)) (.tmp 67) 22 (by rfl) Try.underlying22 infoDrain (by decide) (by decide) (by rfl) (by rfl) (by obtain ⟨F', h'⟩ := (HA.out.drewN 1).get 2 rfl; exact (Hsrc.out h').1) (flat_one _) (by omega) ?_
             intro v1 w3 ho1 hg1
             have hc1 : w3.cell? ⟨br, 0, none⟩ = some (.slice a2 L2.length cap2) := cell_of (ho1.block 1 rfl) rfl
             have hd1 : (w3.alloc (.cells #[.int .i64 b, .int .i64 t] 28)).cell? ⟨br, 0, none⟩ = some (.slice a2 L2.length cap2) := cell_of ((ho1.cells _ _).block 2 rfl) rfl
             have H1 := Lib.hid ho1
             clear ho1 hg1)
          | (refine app_step rfl (R := Cells _ #[.int .i64 b, .int .i64 t] 28 :: RowA 28 2 (.slice none 0 0) 0 [] :: RDr br (.slice a2 L2.length cap2) L2) (by exact (HA.out.drewN 1).cells _ _) 1 rfl (.const (.slice none 0 0)) (.tmp 67) 22 (by rfl) Try.underlying22 infoDrain (by decide) (by decide) (by rfl) (by rfl) (by obtain ⟨F', h'⟩ := ((HA.out.drewN 1).cells #[.int .i64 b, .int .i64 t] 28).get 3 rfl; exact (Hsrc.out h').1) (flat_one _) (by omega) ?_
             intro v1 w3 ho1 hg1
             have hc1 : w3.cell? ⟨br, 0, none⟩ = some (.slice a2 L2.length cap2) := cell_of (ho1.block 2 rfl) rfl
             have H2 := Lib.hid ho1
             clear ho1 hg1)
          | (refine app_step rfl (by first | exact H2.out | exact H1.out.cells _ _) 1 rfl (.tmp 68) (.tmp 72) 22 (by rfl) Try.underlying22 infoDrain (by decide) (by decide) (by rfl) (by rfl) (by first | exact Src.of_block (H2.out.block 0 rfl) rfl | exact Src.of_block ((H1.out.cells #[.int .i64 b, .int .i64 t] 28).block 0 rfl) rfl) (fun u hu => by simp at hu; rcases hu with rfl | rfl <;> rfl) (by omega) ?_
             intro v2 w4 ho2 hg2
             have hc2 : w4.cell? ⟨br, 0, none⟩ = some (.slice a2 L2.length cap2) := cell_of (ho2.block 2 rfl) rfl
             have H3 := Lib.hid ho2
             clear ho2 hg2)
          | (refine app_step rfl (by exact H3.out) 1 rfl (.tmp 73) (.tmp 79) 22 (by rfl) Try.underlying22 infoDrain (by decide) (by decide) (by rfl) (by rfl) (by obtain ⟨F', h'⟩ := H3.out.get 3 rfl; exact (Hsrc.out h').2) (flat_one _) (by omega) ?_
             intro v3 w5 ho3 hg3
             have hc3 : w5.cell? ⟨br, 0, none⟩ = some (.slice a2 L2.length cap2) := cell_of (ho3.block 2 rfl) rfl
             have hf3 : w5.frozen? ⟨br, 0, none⟩ = false := free_of (ho3.block 2 rfl)
             obtain ⟨F3, hr3⟩ := ho3.get 1 rfl
             obtain ⟨a3, cap3, rfl, -, -, -⟩ := hr3.shape
             clear hr3
             have H4 := Lib.hid ho3
             clear ho3 hg3))
      all_goals
        have HG : Hid (GV (.int .i64 0) (RDA br (insB (b, t) L2)) w F (.returned (.int .i64 0)) (w5.setCell ⟨br, 0, none⟩ (.slice a3 (0 + j + 1 + (L2.length - j)) cap3))) := by
          have h2 := H4.out.put 2 rfl 0 (.slice a3 (0 + j + 1 + (L2.length - j)) cap3)
          obtain ⟨e1, e2⟩ := flat_app3 L2 (b, t) j hj
          rw [e1, e2, Hins.out] at h2
          rw [e2, Hins.out]
          have h3 := (h2.drop.perm (List.reverse_perm _).symm).drop
          exact Lib.hid (GV.mk h3 (fun F' hs => ⟨_, hs⟩))
        rw [show 0 + j + 1 + (L2.length - j) = j + 1 + (L2.length - j) by omega] at HG
        go_wp2_with fail
        go_ret
        exact HG.out
end Go.Proofs.Ytcakgponofbhkaa
