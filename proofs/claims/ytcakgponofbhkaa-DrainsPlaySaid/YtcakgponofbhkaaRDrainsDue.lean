/- The document's row of backends that drain: 'Due'. -/
import Derived.Test.YtcakgponofbhkaaRDrainsPut
import Derived.BigQuiet
import Derived.Deep.QuietTactic
namespace Go.Proofs.Ytcakgponofbhkaa
open Go.RowKit
set_option linter.unusedVariables false
set_option maxRecDepth 100000

theorem infoIntS : (Try.prog.info? 3).map (fun i => (i.zero.map (fun z => z.cells.size), i.size, i.bytes)) = some (some 1, 1, 8) := by kernel_rfl
def RDueRel (br : Nat) (L : List BT) (now : Int) (v : Value) (w : World) (F : List Nat) (u k : Value) (wr : World) : Prop :=
  ∃ (j : Nat) (out : List BT), k = .int .i64 j ∧ j ≤ L.length ∧ out.Pairwise LtTB ∧ out.Perm ((L.take j).filter (fun x => decide (x.2 ≤ now))) ∧ In F w wr (RowA 28 2 u out.length (flat out) :: RDr br v L)
def RDueIn (g br : Nat) (L out : List BT) (x : BT) (u v : Value) : List Asrt := Cells g #[.int .i64 x.1, .int .i64 x.2] 28 :: RowA 28 2 u out.length (flat out) :: RDr br v L
def RDueRel2 (g br : Nat) (L out : List BT) (x : BT) (u v : Value) (w : World) (F : List Nat) (k : Value) (wr : World) : Prop :=
  ∃ i : Nat, k = .int .i64 i ∧ i ≤ out.length ∧ (∀ y ∈ out.drop i, x.2 < y.2) ∧ In F w wr (RDueIn g br L out x u v)
def RDueRel3 (br : Nat) (M out : List BT) (now : Int) (u : Value) (w : World) (F : List Nat) (ids k : Value) (wr : World) : Prop :=
  ∃ (i : Nat) (L' : List BT), k = .int .i64 i ∧ i ≤ out.length ∧ SortedB L' ∧ L'.Perm (out.drop i ++ dueDR M now) ∧
    In F w wr (RowA 3 1 ids i ((out.map (fun x => Value.int .i64 x.1)).take i) :: RowA 28 2 u out.length (flat out) :: [RDA br L'])

theorem due_step {L out : List BT} {j : Nat} {x : BT} {now : Int} (hL : SortedB L) (hx : L[j]? = some x) (hp : out.Perm ((L.take j).filter (fun x => decide (x.2 ≤ now)))) :
    (now < x.2 → out.Perm ((L.take (j + 1)).filter (fun x => decide (x.2 ≤ now)))) ∧ (x.2 ≤ now → (∀ y ∈ out, y.1 < x.1) ∧ ∀ out' : List BT, out'.Perm (x :: out) → out'.Perm ((L.take (j + 1)).filter (fun x => decide (x.2 ≤ now)))) := by
  have e : (L.take (j + 1)).filter (fun x => decide (x.2 ≤ now)) = (L.take j).filter (fun x => decide (x.2 ≤ now)) ++ (if x.2 ≤ now then [x] else []) := by
    rw [List.take_add_one, hx, List.filter_append]
    by_cases h : x.2 ≤ now <;> simp [h]
  rw [e]
  constructor
  · intro h; rw [if_neg (by omega), List.append_nil]; exact hp
  · intro h
    rw [if_pos h]
    refine ⟨fun y hy => ?_, fun out' ho => ho.trans ((hp.cons x).trans (List.perm_append_singleton _ _).symm)⟩
    have hy2 := (List.mem_filter.1 (hp.mem_iff.1 hy)).1
    obtain ⟨i, hi, rfl⟩ := List.mem_iff_getElem.1 hy2
    rw [List.length_take] at hi
    rw [List.getElem_take]
    obtain ⟨hj, rfl⟩ := List.getElem?_eq_some_iff.1 hx
    exact List.pairwise_iff_getElem.1 hL i j (by omega) hj (by omega)
theorem clear_step {L' R out : List BT} {i : Nat} {x : BT} (hs : SortedB L') (hx : out[i]? = some x) (hp : L'.Perm (out.drop i ++ R)) : (delD x.1 L').Perm (out.drop (i + 1) ++ R) := by
  have hd : out.drop i = x :: out.drop (i + 1) := by
    obtain ⟨h, rfl⟩ := List.getElem?_eq_some_iff.1 hx
    exact List.drop_eq_getElem_cons h
  rw [hd, List.cons_append] at hp
  have hk : KeysD (x :: (out.drop (i + 1) ++ R)) := (hp.map _).nodup_iff.1 (sortedB_nodup hs)
  have := delD_perm hp x.1
  rwa [delD_first hk] at this

set_option maxHeartbeats 32000000 in
theorem rddue {w : World} {br : Nat} {M : List BT} {F : List Nat} (h : RDA br (sortD M) w F) (hk : KeysD M) (hM : M.Pairwise LtTB) (hl : M.length ≤ 2048) (now : Int) :
    Calls Try.prog 23 #[.pointer (some ⟨br, 0, none⟩), .int .i64 now] w (Gives w F (fun v => Star [RDA br (sortD (dueDR M now)), RowA 3 1 v (dueD M now).length ((dueD M now).map (fun x => Value.int .i64 x.1))])) := by
  have hL : SortedB (sortD M) := sortD_sorted hk
  have Hdue : Hid (∀ out : List BT, out.Pairwise LtTB → out.Perm ((sortD M).filter (fun x => decide (x.2 ≤ now))) → out = dueD M now) := Lib.hid fun out h1 h2 => due_same hk hM h1 h2
  have Hall : Hid ((sortD M).Perm (dueD M now ++ dueDR M now)) := Lib.hid (by rw [due_app]; exact sortD_perm M)
  have hLl : (sortD M).length ≤ 2048 := by rw [sortD_length]; exact hl
  clear hM hl
  generalize sortD M = L at *
  have HL := Lib.hid hL
  have HH := Lib.hid (in_one (RDA.framed br L) h)
  obtain ⟨v, h⟩ := h
  have HB := Lib.hid (In.start RDr.framed h)
  obtain ⟨Fr, hr⟩ := HB.out.get 1 rfl
  obtain ⟨a, cap, rfl, -, -, -⟩ := hr.shape
  have c0 : w.cell? ⟨br, 0, none⟩ = some (.slice a L.length cap) := cell_of (HB.out.block 0 rfl) rfl
  have HS : Hid (RDueRel br L now (.slice a L.length cap) w F (.slice none 0 0) (.int .i64 0) w) := Lib.hid ⟨0, [], rfl, Nat.zero_le _, List.Pairwise.nil, by simp, HB.out.rownil _ _⟩
  clear h hr hk hL
  go_enter Try.func23, Try.ntmps23
  go_wp2_with fail
  go_loopw [5, 17] (RDueRel br L now (.slice a L.length cap) w F) (fun _ k _ => L.length - (intOf k).toNat)
  case atStart => exact HS.out
  case round =>
    obtain ⟨j, out, rfl, hj, hop, hpm, ho⟩ := hrel
    clear HS
    by_cases hlt : j < L.length
    · obtain ⟨x, hx⟩ : ∃ x, L[j]? = some x := ⟨L[j], List.getElem?_eq_getElem hlt⟩
      obtain ⟨Fr, hr⟩ := ho.get 2 rfl
      obtain ⟨ba, rfl, r0⟩ := hr.at.2 (j * 2) _ (flat_at hx).1
      obtain ⟨ba', e2, r1⟩ := hr.at.2 (j * 2 + 1) _ (flat_at hx).2
      cases e2
      have hlt' : (j : Int) < (L.length : Int) := by omega
      obtain ⟨hs1, hs2⟩ := due_step HL.out hx hpm
      by_cases hnow : now < x.2
      · have HR : Hid (RDueRel br L now (.slice (some ⟨ba, 0, none⟩) L.length cap) w F u5 (.int .i64 (j + 1)) (wr.alloc (.cells #[.int .i64 x.1, .int .i64 x.2] 28))) :=
          Lib.hid ⟨j + 1, out, by congr 1, by omega, hop, hs1 hnow, ho.alloc _⟩
        clear ho hr hx hlt c0 hs1 hs2 hop hpm
        go_wp2_with fail
        go_roundw
        case rel => exact HR.out
        case measure => simp [intOf]; omega
      · have hnow' : x.2 ≤ now := by omega
        have hdn : decide (now < x.2) = false := by simp; omega
        obtain ⟨hs3, hs4⟩ := hs2 hnow'
        have Hins : Hid (∀ i, i ≤ out.length → (∀ y ∈ out.drop i, x.2 < y.2) → (i = 0 ∨ ∃ y, out[i - 1]? = some y ∧ y.2 ≤ x.2) → (out.take i ++ x :: out.drop i).Pairwise LtTB ∧ (out.take i ++ x :: out.drop i).Perm ((L.take (j + 1)).filter (fun x => decide (x.2 ≤ now)))) :=
          Lib.hid fun i hi h1 h2 => by
            obtain ⟨q1, q2⟩ := due_ins hop hs3 hi h1 h2
            exact ⟨q1, hs4 _ q2⟩
        have hol : out.length ≤ 2048 := by
          have := hpm.length_eq
          have h2 : ((L.take j).filter (fun x => decide (x.2 ≤ now))).length ≤ (L.take j).length := List.filter_sublist.length_le
          rw [List.length_take] at h2; omega
        have HO := Lib.hid (ho.cells #[.int .i64 x.1, .int .i64 x.2] 28)
        obtain ⟨Fo, hro⟩ := ho.get 0 rfl
        obtain ⟨ao, co, rfl, -, -, -⟩ := hro.shape
        have HS : Hid (RDueRel2 wr.heap.size br L out x (.slice ao out.length co) (.slice (some ⟨ba, 0, none⟩) L.length cap) w F (.int .i64 out.length) (wr.alloc (.cells #[.int .i64 x.1, .int .i64 x.2] 28))) :=
          Lib.hid ⟨out.length, rfl, Nat.le_refl _, by simp, HO.out⟩
        clear ho hr hx hlt c0 hs1 hs2 hs3 hs4 hop hpm hro hnow HO
        go_wp2_with fail
        generalize wr.heap.size = g at *
        obtain ⟨wo, rfl⟩ : ∃ wo : World, wo = wr := ⟨_, rfl⟩
        go_loopw [8] (RDueRel2 g br L out x (.slice ao out.length co) (.slice (some ⟨ba, 0, none⟩) L.length cap) w F) (fun k _ => (intOf k).toNat)
        case atStart => exact HS.out
        case round =>
          obtain ⟨i, rfl, hi, hhi, ho⟩ := hrel
          clear HS
          obtain ⟨Fo, hro⟩ := ho.get 1 rfl
          have c6 : wr.cell? ⟨g, 0, none⟩ = some (.int .i64 x.1) := cell_of (ho.block 0 rfl) rfl
          have c7 : wr.cell? ⟨g, 1, none⟩ = some (.int .i64 x.2) := cell_of (ho.block 0 rfl) rfl
          by_cases hgo : ∃ y, 0 < i ∧ out[i - 1]? = some y ∧ x.2 < y.2
          · obtain ⟨y, hi0, hy, hyx⟩ := hgo
            obtain ⟨bo, rfl, q1⟩ := hro.at.2 ((i - 1) * 2 + 1) _ (flat_at hy).2
            have HR : Hid (∀ m, RDueRel2 g br L out x (.slice (some ⟨bo, 0, none⟩) out.length co) (.slice (some ⟨ba, 0, none⟩) L.length cap) w F (.int .i64 ((i : Int) - 1)) (wr.drewN m)) :=
              Lib.hid fun m => ⟨i - 1, by congr 1; omega, by omega, fun z hz => by
                obtain ⟨hlt1, rfl⟩ := List.getElem?_eq_some_iff.1 hy
                rw [List.drop_eq_getElem_cons hlt1] at hz
                rcases List.mem_cons.1 hz with rfl | hz
                · exact hyx
                · exact hhi z (by rwa [show i - 1 + 1 = i by omega] at hz), ho.drewN m⟩
            have i0 : (0 : Int) < (i : Int) := by omega
            have i1 : (0 : Int) ≤ (i : Int) - 1 := by omega
            have i2 : (i : Int) - 1 < (out.length : Int) := by omega
            have i3 : ((i : Int) - 1).toNat = i - 1 := by omega
            have i4 : IntKind.i64.wrap ((i : Int) - 1) = (i : Int) - 1 := by rw [IntKind.wrap_i64]; omega
            clear ho hro hhi hy
            go_wp2_with fail
            go_quiet (fail)
            clear i3 i4
            go_wp2_with fail
            go_roundw
            case rel => exact HR.out _
            case measure => simp [intOf]; omega
          · have hex : i = 0 ∨ (0 < i ∧ ∃ y, out[i - 1]? = some y ∧ y.2 ≤ x.2) := by
              by_cases e : i = 0
              · left; exact e
              · right
                refine ⟨by omega, out[i - 1]'(by omega), List.getElem?_eq_getElem (by omega), ?_⟩
                exact Classical.byContradiction fun hn => hgo ⟨_, by omega, List.getElem?_eq_getElem (by omega), by omega⟩
            obtain ⟨g1, g2⟩ := Hins.out i hi hhi (by rcases hex with e | ⟨_, e⟩; exact Or.inl e; exact Or.inr e)
            obtain ⟨_, _, e, hcap, _, _⟩ := hro.shape
            cases e
            have HR : Hid (∀ u wz, In F w wz (RowA 28 2 u (out.take i ++ x :: out.drop i).length (flat (out.take i ++ x :: out.drop i)) :: RDr br (.slice (some ⟨ba, 0, none⟩) L.length cap) L) → RDueRel br L now (.slice (some ⟨ba, 0, none⟩) L.length cap) w F u (.int .i64 (j + 1)) wz) :=
              Lib.hid fun u wz hz => ⟨j + 1, _, by congr 1, by omega, g1, g2, hz⟩
            have hpre : ∀ w : World, (Instr.slice 22 (.slice ao out.length co) none (some (.int .i64 i)) none).run Try.prog w = .ok (.slice ao i co) w := row_prefix Try.underlying22 infoDrain hro (by omega)
            have hsuf := run_suffix Try.underlying22 infoDrain ao out.length co i hi
            have i0 : (0 : Int) ≤ (i : Int) := by omega
            have i1 : (i : Int) ≤ (co : Int) := by omega
            have i2 : (i : Int) ≤ (out.length : Int) := by omega
            have Hsrc : Hid (∀ {w' : World} {F' : List Nat}, RowA 28 2 (.slice ao out.length co) out.length (flat out) w' F' → Src w' ao i 2 (flat (out.take i)) ∧ Src w' (sufA ao co i 2) (out.length - i) 2 (flat (out.drop i))) :=
              Lib.hid (fun h => ⟨by rw [← flat_take]; exact h.src hi, by rw [← flat_drop]; exact h.src_from hi⟩)
            have HA : Hid (∀ m, In F w (wr.drewN m) (RDueIn g br L out x (.slice ao out.length co) (.slice (some ⟨ba, 0, none⟩) L.length cap))) := Lib.hid fun m => ho.drewN m
            have hsome : 0 < i → ∃ bo, ao = some ⟨bo, 0, none⟩ ∧ ∀ y, out[i - 1]? = some y → wr.cell? ⟨bo, (i - 1) * 2 + 1, none⟩ = some (.int .i64 y.2) := fun h0 => by
              obtain ⟨bo, e, _⟩ := hro.at.2 ((i - 1) * 2 + 1) _ (flat_at (List.getElem?_eq_getElem (l := out) (i := i - 1) (by omega))).2
              subst e
              refine ⟨bo, rfl, fun y hy => ?_⟩
              obtain ⟨b', e', q⟩ := hro.at.2 ((i - 1) * 2 + 1) _ (flat_at hy).2
              cases e'; exact q
            clear ho hro hhi hgo g1 g2 Hins
            rcases hex with h0 | ⟨hi0, y, hy, hyx⟩
            case' inl =>
              have hd0 : decide (0 < i) = false := by simp; omega
              clear hsome h0
              go_wp2_with fail
              go_quiet (fail)
              go_wp2_with fail
            case' inr =>
              obtain ⟨bo, rfl, hq⟩ := hsome hi0
              have q1 := hq y hy
              have j0 : (0 : Int) < (i : Int) := by omega
              have j1 : (0 : Int) ≤ (i : Int) - 1 := by omega
              have j2 : (i : Int) - 1 < (out.length : Int) := by omega
              have j3 : ((i : Int) - 1).toNat = i - 1 := by omega
              have j4 : IntKind.i64.wrap ((i : Int) - 1) = (i : Int) - 1 := by rw [IntKind.wrap_i64]; omega
              have j5 : decide (x.2 < y.2) = false := by simp; omega
              clear hq hy hsome
              go_wp2_with fail
              go_quiet (fail)
              clear j3 j4
              go_wp2_with fail
            all_goals
              have HZ := Lib.hid ((HA.out nq).rownil 28 2)
              clear HA c6 c7
              generalize wr.drewN nq = wz at *
              have c6 : wz.cell? ⟨g, 0, none⟩ = some (.int .i64 x.1) := cell_of (HZ.out.block 1 rfl) rfl
              have c7 : wz.cell? ⟨g, 1, none⟩ = some (.int .i64 x.2) := cell_of (HZ.out.block 1 rfl) rfl
              go_region_held3 (fun w' => w'.cell? ⟨g, 0, none⟩ = some (.int .i64 x.1) ∧ w'.cell? ⟨g, 1, none⟩ = some (.int .i64 x.2)) (first | exact hc3 | exact hc2 | exact hc1 | go_keep)
                (first
                  | (refine app_step rfl (R := RowA 28 2 (.slice none 0 0) 0 [] :: RDueIn g br L out x _ _) (by exact HZ.out.drewN 1) 0 rfl (.const (.slice none 0 0)) (.tmp 44) 22 (by rfl) Try.underlying22 infoDrain (by decide) (by decide) (by rfl) (by rfl) (by obtain ⟨F', h'⟩ := (HZ.out.drewN 1).get 2 rfl; exact (Hsrc.out h').1) (flat_one _) (by omega) ?_
                     intro v1 w3 ho1 hg1
                     have hc1 : w3.cell? ⟨g, 0, none⟩ = some (.int .i64 x.1) ∧ w3.cell? ⟨g, 1, none⟩ = some (.int .i64 x.2) := ⟨cell_of (ho1.block 1 rfl) rfl, cell_of (ho1.block 1 rfl) rfl⟩
                     have H1 := Lib.hid ho1
                     clear ho1 hg1)
                  | (refine app_step rfl (R := Cells _ #[.int .i64 x.1, .int .i64 x.2] 28 :: RowA 28 2 (.slice none 0 0) 0 [] :: RDueIn g br L out x _ _) (by exact (HZ.out.drewN 1).cells _ _) 1 rfl (.const (.slice none 0 0)) (.tmp 44) 22 (by rfl) Try.underlying22 infoDrain (by decide) (by decide) (by rfl) (by rfl) (by obtain ⟨F', h'⟩ := ((HZ.out.drewN 1).cells #[.int .i64 x.1, .int .i64 x.2] 28).get 3 rfl; exact (Hsrc.out h').1) (flat_one _) (by omega) ?_
                     intro v1 w3 ho1 hg1
                     have hc1 : w3.cell? ⟨g, 0, none⟩ = some (.int .i64 x.1) ∧ w3.cell? ⟨g, 1, none⟩ = some (.int .i64 x.2) := ⟨cell_of (ho1.block 2 rfl) rfl, cell_of (ho1.block 2 rfl) rfl⟩
                     have H2 := Lib.hid ho1
                     clear ho1 hg1)
                  | (refine app_step rfl (by first | exact H2.out | exact H1.out.cells _ _) 1 rfl (.tmp 45) (.tmp 47) 22 (by rfl) Try.underlying22 infoDrain (by decide) (by decide) (by rfl) (by rfl) (by first | exact Src.of_block (H2.out.block 0 rfl) rfl | exact Src.of_block ((H1.out.cells #[.int .i64 x.1, .int .i64 x.2] 28).block 0 rfl) rfl) (fun u hu => by simp at hu; rcases hu with rfl | rfl <;> rfl) (by omega) ?_
                     intro v2 w4 ho2 hg2
                     have hc2 : w4.cell? ⟨g, 0, none⟩ = some (.int .i64 x.1) ∧ w4.cell? ⟨g, 1, none⟩ = some (.int .i64 x.2) := ⟨cell_of (ho2.block 2 rfl) rfl, cell_of (ho2.block 2 rfl) rfl⟩
                     have H3 := Lib.hid ho2
                     clear ho2 hg2)
                  | (refine app_step rfl (by exact H3.out) 1 rfl (.tmp 48) (.tmp 51) 22 (by rfl) Try.underlying22 infoDrain (by decide) (by decide) (by rfl) (by rfl) (by obtain ⟨F', h'⟩ := H3.out.get 3 rfl; exact (Hsrc.out h').2) (flat_one _) (by omega) ?_
                     intro v3 w5 ho3 hg3
                     have hc3 : w5.cell? ⟨g, 0, none⟩ = some (.int .i64 x.1) ∧ w5.cell? ⟨g, 1, none⟩ = some (.int .i64 x.2) := ⟨cell_of (ho3.block 2 rfl) rfl, cell_of (ho3.block 2 rfl) rfl⟩
                     have H4 := Lib.hid ho3
                     clear ho3 hg3))
              all_goals
                have HE : Hid (RDueRel br L now (.slice (some ⟨ba, 0, none⟩) L.length cap) w F v3 (.int .i64 (j + 1)) w5) := by
                  have h2 := H4.out
                  obtain ⟨e1, e2⟩ := flat_app3 out x _ hi
                  rw [e1, e2] at h2
                  exact Lib.hid (HR.out _ _ (h2.sel [1, 4, 5] (by decide) rfl))
                go_wp2_with fail
                go_roundw
                case rel => exact HE.out
                case measure => simp [intOf]; omega
    · have hjl : j = L.length := by omega
      subst hjl
      rw [List.take_length] at hpm
      obtain rfl : out = dueD M now := Hdue.out out hop hpm
      have hge : (L.length : Int) ≤ (L.length : Int) := by omega
      obtain ⟨Fo, hro⟩ := ho.get 0 rfl
      obtain ⟨ao, co, rfl, -, -, -⟩ := hro.shape
      have h2 := In.join (A1 := [_, _]) (R := [_]) (ho.sel [1, 2, 0] (by decide) rfl)
      have h3 := (h2.imp (A' := RDA br L) 0 rfl (RDA.framed _ _) (fun F hF => ⟨_, hF⟩))
      have h4 := (h3.sel [1, 0] (by decide) rfl).rownil 3 1
      have hDl : (dueD M now).length ≤ 2048 := by
        have h1 := hpm.length_eq
        have h2 : (L.filter (fun x => decide (x.2 ≤ now))).length ≤ L.length := List.filter_sublist.length_le
        omega
      have HS : Hid (RDueRel3 br M (dueD M now) now (.slice ao (dueD M now).length co) w F (.slice none 0 0) (.int .i64 0) wr) := Lib.hid ⟨0, L, rfl, Nat.zero_le _, HL.out, Hall.out, h4⟩
      have HRl : Hid ((dueDR M now).length ≤ 2048) := Lib.hid (by
        have := Hall.out.length_eq
        rw [List.length_append] at this; omega)
      clear hop hpm ho hro h2 h3 h4 hlt c0 Hdue hge Hall
      generalize hg : dueD M now = out at *
      have Hout := Lib.hid hg
      clear hg
      go_wp2_with fail
      go_loopw [9, 56] (RDueRel3 br M out now (.slice ao out.length co) w F) (fun _ k _ => out.length - (intOf k).toNat)
      case atStart => exact HS.out
      case round =>
        obtain ⟨i, L', rfl, hi, hsort, hperm, ho⟩ := hrel
        clear HS
        by_cases hlt : i < out.length
        · obtain ⟨x, hx⟩ : ∃ x, out[i]? = some x := ⟨out[i], List.getElem?_eq_getElem hlt⟩
          obtain ⟨Fr, hr⟩ := ho.get 1 rfl
          obtain ⟨ba, rfl, r0⟩ := hr.at.2 (i * 2) _ (flat_at hx).1
          obtain ⟨ba', e2, r1⟩ := hr.at.2 (i * 2 + 1) _ (flat_at hx).2
          cases e2
          have hlt' : (i : Int) < (out.length : Int) := by omega
          have hL' : L'.length ≤ 4096 := by
            have h1 := hperm.length_eq
            have h2 := HRl.out
            rw [List.length_append, List.length_drop] at h1; omega
          have HC := Lib.hid (o_rdclear (ho.cells #[.int .i64 x.1, .int .i64 x.2] 28) 3 rfl hL' (sortedB_nodup hsort) x.1)
          have Ht : Hid ((out.map (fun x => Value.int .i64 x.1)).take i ++ [Value.int .i64 x.1] = (out.map (fun x => Value.int .i64 x.1)).take (i + 1)) := Lib.hid (by
            rw [List.take_add_one, List.getElem?_map, hx]; rfl)
          have HN : Hid (SortedB (delD x.1 L') ∧ (delD x.1 L').Perm (out.drop (i + 1) ++ dueDR M now)) := Lib.hid ⟨delD_sorted hsort _, clear_step hsort hx hperm⟩
          clear ho hr hx hlt hsort hperm
          go_wp2_with fail
          refine HC.out.mono ?_
          rintro e w2 ⟨rfl, ho⟩
          have c6 : w2.cell? ⟨wr.heap.size, 0, none⟩ = some (.int .i64 x.1) := cell_of (ho.block 0 rfl) rfl
          have HO := Lib.hid ho.drop
          clear ho HC
          generalize wr.heap.size = g at *
          go_wp2_with (at_builtin; refine append_elem' (HO.out.alloc _) 0 rfl rfl (.tmp 64) (.tmp 67) 32 rfl Try.underlying32 infoIntS (by decide) (by decide) rfl _ #[.int .i64 x.1] rfl hp_alloc_new rfl (fun u hu => by simp at hu; subst hu; rfl) (by omega) ?_)
          intro v' w3 ho
          have HR : Hid (RDueRel3 br M out now (.slice (some ⟨ba, 0, none⟩) out.length co) w F v' (.int .i64 (i + 1)) w3) := by
            refine Lib.hid ⟨i + 1, _, by congr 1, by omega, HN.out.1, HN.out.2, ?_⟩
            rw [← Ht.out]
            exact ho
          clear ho HO
          go_wp2_with fail
          go_roundw
          case rel => exact HR.out
          case measure => simp [intOf]; omega
        · have hge : (out.length : Int) ≤ (i : Int) := by omega
          have hil : i = out.length := by omega
          subst hil
          rw [List.drop_length, List.nil_append] at hperm
          have hLs : L' = sortD (dueDR M now) := eq_sortD hsort hperm
          subst hLs
          have HG : Hid (Gives w F (fun v => Star [RDA br (sortD (dueDR M now)), RowA 3 1 v (dueD M now).length ((dueD M now).map (fun x => Value.int .i64 x.1))]) (.returned u9) wr) := by
            rw [Hout.out]
            have h2 := ho.sel [2, 0] (by decide) rfl
            have e : (out.map (fun x => Value.int .i64 x.1)).take out.length = out.map (fun x => Value.int .i64 x.1) := List.take_of_length_le (by simp)
            exact Lib.hid (h2.gives u9 _ (fun F' hs => by
              rw [← e]; exact hs))
          clear ho hlt hsort hperm
          go_wp2_with fail
          go_ret
          exact HG.out
end Go.Proofs.Ytcakgponofbhkaa
