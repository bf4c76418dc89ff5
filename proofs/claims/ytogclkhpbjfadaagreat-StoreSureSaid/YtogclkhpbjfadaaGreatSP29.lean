/- What is proved here: contracts of the program's functions, and plain laws, on which the proof of StoreSure rests; without conditions. -/
import Derived.Test.YtogclkhpbjfadaaGreatSP10
import Derived.Test.YtogclkhpbjfadaaGreatShelfGr
namespace Go.Proofs.YtogclkhpbjfadaaGreat
open Go.RowKit
set_option linter.unusedVariables false
set_option maxRecDepth 100000
section
variable {F0 : List Nat} {w0 w : World} {R : List Asrt}
theorem grow_call (h : In F0 w0 w R) (n : Nat) (h1 : 1 ≤ n) (hn : n ≤ 1000000000) :
    Calls Tryz.prog 223 #[.slice none 0 0, .int .i64 n] w fun e w' => ∃ v, e = .returned v ∧ In F0 w0 w' (RowA 3 1 v 0 [] :: R) := by
  obtain ⟨i0, z, hi, hz, hzs, hs, hb⟩ : ∃ i0 z, Tryz.prog.info? 3 = some i0 ∧ i0.zero = some z ∧ z.cells.size = 1 ∧ i0.size = 1 ∧ i0.bytes = 8 := by
    have hinf := infoInt
    cases e : Tryz.prog.info? 3 with
    | none => rw [e] at hinf; cases hinf
    | some i0 =>
      rw [e] at hinf
      simp only [Option.map_some, Option.some.injEq, Prod.mk.injEq] at hinf
      cases hz : i0.zero with
      | none => rw [hz] at hinf; simp at hinf
      | some z =>
        rw [hz] at hinf
        simp only [Option.map_some, Option.some.injEq] at hinf
        exact ⟨i0, z, rfl, hz, hinf.1, hinf.2.1, hinf.2.2⟩
  have hcon := Any8.slices_Grow_grow Tryz.growI i0 z hi hz (by omega) none 0 0 n [] w (Nat.le_refl _) (by omega) (by rw [hb]; omega) (by omega) (by simp) (fun _ => rfl) (fun a e => by cases e)
  refine (show Calls Tryz.prog 223 #[.slice none 0 0, .int .i64 n] w _ from hcon).mono fun e w' ⟨he, hw⟩ => ?_
  have hge := grownCap_ge w (0 + n) 0 3
  have hle := grownCap_le_maxLen w (0 + n) 0 3 (by unfold maxLen; omega)
  have hsz : (([] : List Value).toArray ++ Builtin.zeroCells z.cells (0 + n - 0) ++ Builtin.zeroCells z.cells (grownCap w (0 + n) 0 3 - (0 + n))).size = grownCap w (0 + n) 0 3 := by
    simp only [Array.size_append, List.size_toArray, List.length_nil, size_zeroCells, hzs]
    omega
  have g := (h.drewN 1).cells (([] : List Value).toArray ++ Builtin.zeroCells z.cells (0 + n - 0) ++ Builtin.zeroCells z.cells (grownCap w (0 + n) 0 3 - (0 + n))) 3
  refine ⟨_, he, ?_⟩
  rw [hw]
  refine g.imp (A' := RowA 3 1 (.slice (some ⟨w.heap.size, 0, none⟩) 0 (grownCap w (0 + n) 0 3)) 0 []) 0 rfl (RowA.framed _ _ _ _ _) fun F ⟨hF, hbk⟩ => ?_
  exact ⟨hF, rfl, Or.inr ⟨_, _, _, rfl, Nat.zero_le _, hbk, Nat.zero_le _, hle, by rw [hsz, Nat.mul_one], by simp⟩⟩
abbrev PartI := Option Addr × Nat × List Nat
def partV (p : PartI) : Value := .slice p.1 p.2.2.length p.2.1
def partsL (ps : List PartI) : List Nat := (ps.map (·.2.2)).flatten
theorem partsL_take (ps : List PartI) {k : Nat} {p : PartI} (h : ps[k]? = some p) : partsL (ps.take (k + 1)) = partsL (ps.take k) ++ p.2.2 := by
  unfold partsL; rw [List.take_add_one, h]; simp
theorem partsL_le (ps : List PartI) (k : Nat) : (partsL (ps.take k)).length ≤ (partsL ps).length := by
  have e : partsL ps = partsL (ps.take k) ++ partsL (ps.drop k) := by
    unfold partsL; conv => lhs; rw [← List.take_append_drop k ps]
    rw [List.map_append, List.flatten_append]
  rw [e, List.length_append]; omega
def SumRel (ps : List PartI) (q i : Value) (wr : World) (w : World) : Prop := ∃ k : Nat, k ≤ ps.length ∧ i = .int .i64 k ∧ q = .int .i64 (partsL (ps.take k)).length ∧ wr = w
def CatRel (ps : List PartI) (pb : Nat) (F0 : List Nat) (w0 : World) (R : List Asrt) (v i : Value) (wr : World) : Prop :=
  ∃ k : Nat, k ≤ ps.length ∧ i = .int .i64 k ∧ In F0 w0 wr (RowA 3 1 v (partsL (ps.take k)).length (segV (partsL (ps.take k))) :: Cells pb (ps.map partV).toArray 43 :: R)
set_option maxHeartbeats 8000000 in
theorem o_concat {ps : List PartI} {pb c : Nat} (h : In F0 w0 w (Cells pb (ps.map partV).toArray 43 :: R)) (hps : ps.length ≤ 1000) (h1 : 1 ≤ (partsL ps).length) (hn : (partsL ps).length ≤ 1000000000)
    (hs : ∀ p ∈ ps, ∀ w', In F0 w0 w' R → Src w' p.1 p.2.2.length 1 (segV p.2.2)) :
    Calls Tryz.prog 159 #[.slice (some ⟨pb, 0, none⟩) ps.length c] w fun e w' => ∃ v, e = .returned v ∧ In F0 w0 w' (RowA 3 1 v (partsL ps).length (segV (partsL ps)) :: R) := by
  have HC : Hid (∀ w', In F0 w0 w' (Cells pb (ps.map partV).toArray 43 :: R) → ∀ k p, ps[k]? = some p → w'.cell? ⟨pb, k, none⟩ = some (partV p)) := Lib.hid fun w' h' k p hp => cell_of (h'.block 0 rfl) (by simp [hp])
  have H := Lib.hid h
  have HS0 : Hid (SumRel ps (.int .i64 0) (.int .i64 0) w w) := Lib.hid ⟨0, Nat.zero_le _, rfl, by simp [partsL], rfl⟩
  have G := Lib.hid (grow_call h _ h1 hn)
  have HS := Lib.hid hs
  have HN := Lib.hid hn
  clear h hs h1 hn
  go_enter Tryz.func159, Tryz.ntmps159
  go_wp2_with fail
  go_loopw [3, 11] (fun q i wr => SumRel ps q i wr w) (fun _ i _ => ps.length - (intOf i).toNat)
  case atStart => exact HS0.out
  case round =>
    obtain ⟨k, hk, rfl, rfl, rfl⟩ := hrel
    by_cases hlt : k < ps.length
    · obtain ⟨p, hp⟩ : ∃ p, ps[k]? = some p := ⟨ps[k], List.getElem?_eq_getElem hlt⟩
      have c0 := HC.out wr H.out k p hp
      have HT := Lib.hid (partsL_take ps hp)
      have HL := Lib.hid (partsL_le ps (k + 1))
      have hlt' : (k : Int) < (ps.length : Int) := by omega
      have hb : (partsL (ps.take k)).length + p.2.2.length ≤ 1000000000 := by
        have h1 := HL.out
        rw [HT.out, List.length_append] at h1
        have := HN.out; omega
      have hr : SumRel ps (.int .i64 (((partsL (ps.take k)).length : Int) + (p.2.2.length : Int))) (.int .i64 ((k : Int) + 1)) wr wr := ⟨k + 1, by omega, by go_num, by rw [HT.out, List.length_append]; go_num, rfl⟩
      have HR := Lib.hid hr
      unfold partV at c0
      clear hp hr HL HT G HS0 hlt
      generalize (partsL (ps.take k)).length = x at *
      generalize p.2.2.length = y at *
      have hneg : decide ((x : Int) + (y : Int) < 0) = false := by simp; omega
      go_wp2_with fail
      go_roundw
      case rel => exact HR.out
      case measure => simp [intOf]; omega
    · have hge : (ps.length : Int) ≤ (k : Int) := by omega
      have hkl : ps.take k = ps := List.take_of_length_le (by omega)
      rw [hkl]
      clear hlt hkl
      go_wp2_with fail
      refine G.out.mono ?_
      rintro e w1 ⟨v, rfl, g1⟩
      have HR : Hid (CatRel ps pb F0 w0 R v (.int .i64 0) w1) := Lib.hid ⟨0, Nat.zero_le _, rfl, by simpa [partsL, segV] using g1⟩
      clear g1 G HS0
      go_wp2_with fail
      go_loopw [6, 27] (CatRel ps pb F0 w0 R) (fun _ i _ => ps.length - (intOf i).toNat)
      case atStart => exact HR.out
      case round =>
        obtain ⟨j, hj, rfl, ho⟩ := hrel
        clear HR
        by_cases hlt : j < ps.length
        · obtain ⟨p, hp⟩ : ∃ p, ps[j]? = some p := ⟨ps[j], List.getElem?_eq_getElem hlt⟩
          have c0 := HC.out wr ho.drop j p hp
          have HT := Lib.hid (partsL_take ps hp)
          have HL := Lib.hid (partsL_le ps (j + 1))
          have hlt' : (j : Int) < (ps.length : Int) := by omega
          have SS := Lib.hid (HS.out p (List.mem_of_getElem? hp) wr ho.drop.drop)
          have HO := Lib.hid ho
          have HB : Hid ((partsL (ps.take j)).length + p.2.2.length ≤ 1000000000) := Lib.hid (by
            have h1 := HL.out
            rw [HT.out, List.length_append] at h1
            have := HN.out; omega)
          have HR : Hid (∀ v' w', In F0 w0 w' (RowA 3 1 v' ((partsL (ps.take j)).length + p.2.2.length) (segV (partsL (ps.take j)) ++ segV p.2.2) :: Cells pb (ps.map partV).toArray 43 :: R) → CatRel ps pb F0 w0 R v' (.int .i64 (j + 1)) w') := Lib.hid fun v' w' h' =>
            ⟨j + 1, by omega, by go_num, by rw [HT.out, List.length_append, show segV (partsL (ps.take j) ++ p.2.2) = segV (partsL (ps.take j)) ++ segV p.2.2 from List.map_append ..]; exact h'⟩
          unfold partV at c0
          clear hp ho hlt HL
          go_wp2_with (at_builtin; refine app_list rfl HO.out 0 rfl (.tmp 31) (.tmp 32) 43 (by rfl) Tryz.underlying43 infoInt (by decide) (by decide) (by rfl) (by rfl) SS.out (segV_one _) HB.out ?_)
          intro v' w2 g2 hg
          have HX := Lib.hid (HR.out v' w2 g2)
          clear g2 hg HR HB HO SS
          go_wp2_with fail
          go_roundw
          case rel => exact HX.out
          case measure => simp [intOf]; omega
        · have hge : (ps.length : Int) ≤ (j : Int) := by omega
          have hkl : ps.take j = ps := List.take_of_length_le (by omega)
          rw [hkl] at ho
          have HO := Lib.hid (ho.sel2 (R1 := [_, _]) [0] (by decide) rfl)
          clear ho hlt hkl
          go_wp2_with fail
          go_ret
          exact ⟨_, rfl, HO.out⟩
end
end Go.Proofs.YtogclkhpbjfadaaGreat
