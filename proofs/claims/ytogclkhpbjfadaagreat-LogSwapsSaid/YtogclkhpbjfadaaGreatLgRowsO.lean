/- Rows in new segments: the closure that makes the newest sure. -/
import Derived.Test.YtogclkhpbjfadaaGreatLgRowsN
import Derived.StillTailTactics
import Derived.Deep.RegionHeld3
import Derived.Deep.DeepCutAuto
namespace Go.Proofs.YtogclkhpbjfadaaGreat
open Go.RowKit
set_option linter.unusedVariables false
set_option maxRecDepth 100000
section
variable {F0 : List Nat} {w0 w : World} {R : List Asrt} {pn : Value} {bd lb sb : Nat} {d : DiskD} {l : LogD} {segs : List Nat}
set_option maxHeartbeats 16000000 in
theorem o_rsync {gb lx nb hb hv ty : Nat} (h : In F0 w0 w (RowsR pn lb bd sb hb l (d, segs, hv) R)) (j1 j2 j3 : Nat) (hj1 : R[j1]? = some (Cells gb #[.pointer (some ⟨sb, 0, none⟩)] 145)) (hj2 : R[j2]? = some (Cells lx #[dptr lb] 28))
    (hj3 : R[j3]? = some (Cells nb #[.func (.func 180) #[] #[.pointer (some ⟨gb, 0, none⟩)]] ty)) (ho : d.ops ≤ 99990000) (hne : segs ≠ []) (hs : segs.length ≤ 100) (hvv : ∀ x ∈ segs, x < 4611686018427387904) :
    Calls Tryz.prog 181 #[.pointer (some ⟨lx, 0, none⟩), .pointer (some ⟨nb, 0, none⟩)] w fun e w' => e = .returned (.int .i64 (dSync d (newest segs)).2) ∧ In F0 w0 w' (RowsR pn lb bd sb hb l ((dSync d (newest segs)).1, segs, hv) R) := by
  have HLY := Lib.hid (fun w' d' (h' : In F0 w0 w' (RowsR pn lb bd sb hb l (d', segs, hv) R)) => And.intro (show w'.cell? ⟨lx, 0, none⟩ = some (dptr lb) from cell_of (h'.block (j2 + 4) hj2) rfl) (And.intro h'.lgpA.lg0 (show w'.cell? ⟨nb, 0, none⟩ = some (.func (.func 180) #[] #[.pointer (some ⟨gb, 0, none⟩)]) from cell_of (h'.block (j3 + 4) hj3) rfl)))
  have KN := Lib.hid (fun w' (h' : In F0 w0 w' (RowsR pn lb bd sb hb l (d, segs, hv) R)) => o_rname (h'.sel2 (R1 := [_, _, _, _]) [2, 0, 1, 3] (by decide) rfl) (j1 + 3) hj1 hne hs hvv)
  have KA := Lib.hid (fun w' (h' : In F0 w0 w' (RowsR pn lb bd sb hb l (d, segs, hv) R)) => o_dsync h' 1 rfl (Nat.le_trans ho (by decide)) (newest segs) (segName_size _))
  obtain ⟨y0, y1, y2⟩ := HLY.out _ d h
  have HH := Lib.hid (fun n => h.drewN n)
  clear h ho hne hs hvv
  go_enter Tryz.func181, Tryz.ntmps181
  go_wp2_with fail
  go_region_held3 (fun w' => w'.cell? ⟨lx, 0, none⟩ = some (dptr lb) ∧ w'.cell? ⟨lb, 0, none⟩ = some (dptr bd) ∧ w'.cell? ⟨nb, 0, none⟩ = some (.func (.func 180) #[] #[.pointer (some ⟨gb, 0, none⟩)])) (first | exact ⟨hz1, hz2, hz3⟩ | exact ⟨y0, y1, y2⟩ | go_keep)
    (first
      | (go_at_call 180; refine (KN.out _ (HH.out _)).mono ?_; rintro e w1 ⟨rfl, g1⟩; have g2 : In F0 w0 w1 (RowsR pn lb bd sb hb l (d, segs, hv) R) := g1.sel2 (R1 := [_, _, _, _]) [1, 2, 0, 3] (by decide) rfl; obtain ⟨hz1, hz2, hz3⟩ := HLY.out w1 d g2; have K1 := Lib.hid (KA.out w1 g2); clear g1 g2)
      | (go_at_call 64; refine K1.out.mono ?_; rintro e w2 ⟨rfl, g3⟩; obtain ⟨hz1, hz2, hz3⟩ := HLY.out w2 (dSync d (newest segs)).1 g3; have G3 := Lib.hid g3; clear g3))
  all_goals
    go_wp2_with fail
    go_ret
    exact ⟨rfl, G3.out⟩
end
end Go.Proofs.YtogclkhpbjfadaaGreat
