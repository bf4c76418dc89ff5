/- The document's row of flows: Of. -/
import Derived.Test.YtcakgponofbhkaaRFlowsTouch
import Derived.Test.YtcakgponofbhkaaFlowOf
namespace Go.Proofs.Ytcakgponofbhkaa
open Go.RowKit
set_option linter.unusedVariables false
set_option maxRecDepth 100000
attribute [-go_sem] run_eql_struct

def ROfRel (bt : Nat) (most wait : Int) (L : List Fl) (b : Int) (v : Value) (w : World) (F : List Nat) (u k : Value) (wr : World) : Prop :=
  ∃ (j : Nat) (out : List Fl), k = .int .i64 j ∧ j ≤ L.length ∧ out = (L.take j).filter (keepF b) ∧ In F w wr (RowA 59 8 u out.length (flatF out) :: RFr bt most wait v L)
theorem of_step {L : List Fl} {j : Nat} {x : Fl} (b : Int) (hx : L[j]? = some x) : (L.take (j + 1)).filter (keepF b) = (L.take j).filter (keepF b) ++ (if x.bk = b then [x] else []) := by
  rw [List.take_add_one, hx, List.filter_append]
  by_cases h : x.bk = b <;> simp [keepF, bkNe, h]
set_option maxHeartbeats 16000000 in
theorem rf_of {w : World} {bt : Nat} {most wait : Int} {L : List Fl} {F : List Nat} (h : RFA bt most wait L w F) (hl : L.length ≤ 1000000) (b : Int) :
    Calls Try.prog 48 #[.pointer (some ⟨bt, 0, none⟩), .int .i64 b] w (Gives w F (fun v => Star [RFA bt most wait L, RowA 59 8 v (L.filter (keepF b)).length (flatF (L.filter (keepF b)))])) := by
  obtain ⟨v, h⟩ := h
  have HB := Lib.hid (In.start RFr.framed h)
  obtain ⟨a, cap, rfl⟩ := RFr.val (In.start RFr.framed h)
  have c0 : w.cell? ⟨bt, 0, none⟩ = some (.slice a L.length cap) := cell_of (HB.out.block 0 rfl) rfl
  have HS : Hid (ROfRel bt most wait L b (.slice a L.length cap) w F (.slice none 0 0) (.int .i64 0) w) := Lib.hid ⟨0, [], rfl, Nat.zero_le _, by simp, HB.out.rownil _ _⟩
  clear h
  go_enter Try.func48, Try.ntmps48
  go_wp2_with fail
  go_loopw [5, 13] (ROfRel bt most wait L b (.slice a L.length cap) w F) (fun _ k _ => L.length - (intOf k).toNat)
  case atStart => exact HS.out
  case round =>
    obtain ⟨j, out, rfl, hj, hre, ho⟩ := hrel
    clear HS
    by_cases hlt : j < L.length
    · obtain ⟨x, hx⟩ : ∃ x, L[j]? = some x := ⟨L[j], List.getElem?_eq_getElem hlt⟩
      obtain ⟨g, rfl, hc⟩ := flow_at_row ho 2 rfl (by omega)
      obtain ⟨x0, x1, x2, x3, x4, x5, x6, x7⟩ := hc j x hx
      have hlt' : (j : Int) < (L.length : Int) := by omega
      have hst := of_step b hx
      have HO := Lib.hid ho
      have hol : out.length ≤ 1000000 := by
        have h2 : ((L.take j).filter (keepF b)).length ≤ (L.take j).length := List.filter_sublist.length_le
        rw [List.length_take, ← hre] at h2; omega
      by_cases hb : x.bk = b
      · rw [if_pos hb, ← hre] at hst
        have hb' : (x.bk == b) = true := by simpa using hb
        have Hfl : Hid (flatF out ++ (encF x).toList = flatF ((L.take (j + 1)).filter (keepF b)) ∧ out.length + 1 = ((L.take (j + 1)).filter (keepF b)).length) := Lib.hid (by rw [hst, flatF_snoc]; simp)
        clear ho hx hc hlt c0 hre hst hb
        go_wp2_with (at_builtin; refine append_elem' ((HO.out.alloc _).alloc _) 0 rfl rfl (.tmp 21) (.tmp 23) 51 rfl Try.underlying51 infoFlow (by decide) (by decide) rfl _ (encF x) rfl (hp_alloc_at (by simp)) rfl (fun u hu => by simp [encF] at hu; rcases hu with rfl | rfl | rfl | rfl | rfl | rfl | rfl | rfl <;> rfl) (by omega) ?_)
        intro v' w3 ho
        have HR : Hid (ROfRel bt most wait L b (.slice (some ⟨g, 0, none⟩) L.length cap) w F v' (.int .i64 (j + 1)) w3) := by
          refine Lib.hid ⟨j + 1, _, by congr 1, by omega, rfl, ?_⟩
          rw [← Hfl.out.1, ← Hfl.out.2]
          exact ho
        clear ho HO
        go_wp2_with fail
        go_roundw
        case rel => exact HR.out
        case measure => simp [intOf]; omega
      · rw [if_neg hb, List.append_nil] at hst
        have hb' : (x.bk == b) = false := by simpa using hb
        have HR : Hid (∀ o, ROfRel bt most wait L b (.slice (some ⟨g, 0, none⟩) L.length cap) w F u5 (.int .i64 (j + 1)) (wr.alloc o)) := Lib.hid fun o => ⟨j + 1, out, by congr 1, by omega, by rw [hst, hre], HO.out.alloc _⟩
        clear ho hx hc hlt c0 hre hst hb HO
        go_wp2_with fail
        go_roundw
        case rel => exact HR.out _
        case measure => simp [intOf]; omega
    · have hjl : j = L.length := by omega
      subst hjl
      rw [List.take_length] at hre
      have hge : (L.length : Int) ≤ (L.length : Int) := by omega
      have h3 := (In.join (A1 := RFr bt most wait (.slice a L.length cap) L) (R := [_]) (ho.sel [1, 2, 0] (by decide) rfl)).imp (A' := RFA bt most wait L) 0 rfl (RFA.framed _ _ _ _) (fun F hF => ⟨_, hF⟩)
      have HG : Hid (Gives w F (fun v => Star [RFA bt most wait L, RowA 59 8 v (L.filter (keepF b)).length (flatF (L.filter (keepF b)))]) (.returned u5) wr) := by
        rw [← hre]
        exact Lib.hid (h3.gives u5 _ (fun F' hs => hs))
      clear ho h3 hlt c0 hre
      go_wp2_with fail
      go_ret
      exact HG.out
section
variable {F0 : List Nat} {w0 w : World} {R : List Asrt} {bt : Nat} {most wait : Int} {L : List Fl}
theorem o_rfof (h : In F0 w0 w R) (i : Nat) (hA : R[i]? = some (RFA bt most wait L)) (hl : L.length ≤ 1000000) (b : Int) :
    Calls Try.prog 48 #[.pointer (some ⟨bt, 0, none⟩), .int .i64 b] w fun e w' => ∃ v, e = .returned v ∧ In F0 w0 w' (RowA 59 8 v (L.filter (keepF b)).length (flatF (L.filter (keepF b))) :: R) := by
  have c := own_two (A' := RFA bt most wait L) h i hA (RFA.framed _ _ _ _) (fun v => RowA.framed _ _ _ _ _) fun F hF => rf_of hF hl b
  rwa [set_same hA] at c
end
end Go.Proofs.Ytcakgponofbhkaa
