/- Rows.PathPlaysSaid -/
import Derived.Test.YtgapbecddgfkmaaGreatPY36
namespace Go.Proofs.YtgapbecddgfkmaaGreat
open Go.RowKit
set_option linter.unusedVariables false
set_option maxHeartbeats 64000000
set_option maxRecDepth 100000
attribute [-go_sem] run_eql_struct
def dropRF (L : List Fl) (t : Tup) : List Fl := L.eraseP (fun x => decide (x.t = t))
theorem dropRF_none {L : List Fl} {t : Tup} (h : atF L t = none) : dropRF L t = L :=
  List.eraseP_of_forall_not (fun x hx => by simpa using atF_none.1 h x hx)
theorem dropRF_some {L : List Fl} {t : Tup} {j : Nat} {x : Fl} (hx : L[j]? = some x) (he : x.t = t) (hno : ∀ y ∈ L.take j, y.t ≠ t) : dropRF L t = L.take j ++ L.drop (j + 1) := by
  have hL : L.take j ++ x :: L.drop (j + 1) = L := by
    obtain ⟨hj, rfl⟩ := List.getElem?_eq_some_iff.1 hx
    rw [← List.drop_eq_getElem_cons hj, List.take_append_drop]
  unfold dropRF
  conv => lhs; rw [← hL]
  rw [List.eraseP_append_right _ (fun y hy => by simpa using hno y hy), List.eraseP_cons_of_pos (by simpa using he)]
theorem rf_drop {w : World} {bt : Nat} {most wait : Int} {L : List Fl} {F : List Nat} (h : RFA bt most wait L w F) (hl : L.length ≤ 1000000) (t : Tup) :
    Calls Tryz.prog 57 #[.pointer (some ⟨bt, 0, none⟩), .agg (encT t)] w (GV (.bool (atF L t).isSome) (RFA bt most wait (dropRF L t)) w F) := by
  have h0 := ((in_one (RFA.framed bt most wait L) h).cells (encT t) 24).perm (List.Perm.swap _ _ _)
  have HAT := Lib.hid (o_rfat h0 0 rfl hl t)
  rcases atF_ix (L := L) (t := t) with ⟨e, e2⟩ | ⟨j, x, e, hj, hxt, e2, hno⟩
  · rw [e] at HAT
    rw [dropRF_none e2, e2]
    clear e e2 h0 h hl
    go_enter Tryz.func57, Tryz.ntmps57
    go_wp2_with fail
    refine HAT.out.mono ?_
    rintro e w1 ⟨rfl, ho⟩
    have HO := Lib.hid ho
    clear ho HAT
    go_wp2_with fail
    go_ret
    exact rf_head HO.out
  · rw [e] at HAT
    rw [dropRF_some hj hxt hno, e2]
    have hlt : j < L.length := (List.getElem?_eq_some_iff.1 hj).1
    have i1 : (j : Int) < (L.length : Int) := by omega
    have hd2 : decide ((j : Int) < 0) = false := by simp
    clear e e2 h0 h hno hxt hj
    go_enter Tryz.func57, Tryz.ntmps57
    go_wp2_with fail
    generalize w.heap.size = tb at *
    refine HAT.out.mono ?_
    rintro e w1 ⟨rfl, ho⟩
    obtain ⟨v, ho⟩ := ho.openR
    obtain ⟨Fv, hv⟩ := ho.get 1 rfl
    obtain ⟨av, cv, rfl, l1, l2, -⟩ := hv.shape
    have b0 : w1.cell? ⟨bt, 0, none⟩ = some (.slice av L.length cv) := cell_of (ho.block 0 rfl) rfl
    have HA : Hid (In F w w1 (RowA 49 8 (.slice none 0 0) 0 [] :: (RFr bt most wait (.slice av L.length cv) L ++ [Cells tb (encT t) 24]))) := Lib.hid (ho.rownil 49 8)
    have Hsrc : Hid (∀ {w' : World} {F' : List Nat}, RowA 49 8 (.slice av L.length cv) L.length (flatF L) w' F' → Src w' av j 8 (flatF (L.take j)) ∧ Src w' (sufA av cv (j + 1) 8) (L.length - (j + 1)) 8 (flatF (L.drop (j + 1)))) :=
      Lib.hid (fun h => ⟨by rw [← flatF_take']; exact h.src (by omega), by rw [← flatF_drop]; exact h.src_from (by omega)⟩)
    have hpre : ∀ w : World, (Instr.slice 75 (.slice av L.length cv) none (some (.int .i64 j)) none).run Tryz.prog w = .ok (.slice av j cv) w := row_prefix Tryz.underlying75 infoFlow hv (by omega)
    have hsuf : ∀ w : World, (Instr.slice 75 (.slice av L.length cv) (some (.int .i64 ((j : Int) + 1))) none none).run Tryz.prog w = .ok (.slice (sufA av cv (j + 1) 8) (L.length - (j + 1)) (cv - (j + 1))) w := fun w => run_suffix Tryz.underlying75 infoFlow av L.length cv (j + 1) (by omega) w
    have i0 : (0 : Int) ≤ (j : Int) := by omega
    have i2 : (j : Int) ≤ (cv : Int) := by omega
    have i3 : (j : Int) + 1 ≤ (L.length : Int) := by omega
    have i4 : IntKind.i64.wrap ((j : Int) + 1) = (j : Int) + 1 := by rw [IntKind.wrap_i64]; omega
    have HG : Hid (∀ (wz : World) (v : Value), In F w wz (RowA 49 8 v (0 + j + (L.length - (j + 1))) ([] ++ flatF (L.take j) ++ flatF (L.drop (j + 1))) :: (RFr bt most wait (.slice av L.length cv) L ++ [Cells tb (encT t) 24])) → GV (.bool true) (RFA bt most wait (L.take j ++ L.drop (j + 1))) w F (.returned (.bool true)) (wz.setCell ⟨bt, 0, none⟩ v)) := Lib.hid fun wz v hz => by
      have e1 : [] ++ flatF (L.take j) ++ flatF (L.drop (j + 1)) = flatF (L.take j ++ L.drop (j + 1)) := by simp [flatF]
      have e2 : 0 + j + (L.length - (j + 1)) = (L.take j ++ L.drop (j + 1)).length := by simp; omega
      rw [e1, e2] at hz
      exact rf_new_row hz
    clear ho hv HAT l2
    go_wp2_with fail
    go_region_law
      (first
        | (refine app_step rfl (R := RowA 49 8 (.slice none 0 0) 0 [] :: (RFr bt most wait (.slice av L.length cv) L ++ [Cells tb (encT t) 24])) (by exact HA.out.drewN 1) 0 rfl (.const (.slice none 0 0)) (.tmp 17) 75 (by rfl) Tryz.underlying75 infoFlow (by decide) (by decide) (by rfl) (by rfl) (by obtain ⟨F', h'⟩ := (HA.out.drewN 1).get 2 rfl; exact (Hsrc.out h').1) (flatF_one _) (by omega) ?_
           intro v1 w3 ho1 hg1
           have hc1 : w3.cell? ⟨bt, 0, none⟩ = some (.slice av L.length cv) := cell_of (ho1.block 1 rfl) rfl
           have H1 := Lib.hid ho1
           clear ho1 hg1)
        | (refine app_step rfl (by exact H1.out) 0 rfl (.tmp 18) (.tmp 25) 75 (by rfl) Tryz.underlying75 infoFlow (by decide) (by decide) (by rfl) (by rfl) (by obtain ⟨F', h'⟩ := H1.out.get 2 rfl; exact (Hsrc.out h').2) (flatF_one _) (by omega) ?_
           intro v2 w4 ho2 hg2
           have hc2 : w4.cell? ⟨bt, 0, none⟩ = some (.slice av L.length cv) := cell_of (ho2.block 1 rfl) rfl
           have hf2 : w4.frozen? ⟨bt, 0, none⟩ = false := free_of (ho2.block 1 rfl)
           obtain ⟨F3, hr3⟩ := ho2.get 0 rfl
           obtain ⟨a3, cap3, rfl, -, -, -⟩ := hr3.shape
           clear hr3
           have H4 := Lib.hid ho2
           clear ho2 hg2))
    all_goals
      have HE := Lib.hid (HG.out _ _ H4.out)
      rw [show 0 + j + (L.length - (j + 1)) = j + (L.length - (j + 1)) by omega] at HE
      go_wp2_with fail
      go_ret
      exact HE.out
section
variable {F0 : List Nat} {w0 w : World} {R : List Asrt} {bt : Nat} {most wait : Int} {L : List Fl}
theorem o_rfdrop (h : In F0 w0 w R) (i : Nat) (hA : R[i]? = some (RFA bt most wait L)) (hl : L.length ≤ 1000000) (t : Tup) :
    Calls Tryz.prog 57 #[.pointer (some ⟨bt, 0, none⟩), .agg (encT t)] w fun e w' => e = .returned (.bool (atF L t).isSome) ∧ In F0 w0 w' (R.set i (RFA bt most wait (dropRF L t))) :=
  own_val (A' := RFA bt most wait (dropRF L t)) h i hA (RFA.framed _ _ _ _) fun F hF => rf_drop hF hl t
end
end Go.Proofs.YtgapbecddgfkmaaGreat
