/- Rows in new segments: the closure that lays a row into a new segment. -/
import Derived.Test.YtogclkhpbjfadaaGreatLgRowsO
import Derived.StillTailTactics
namespace Go.Proofs.YtogclkhpbjfadaaGreat
open Go.RowKit
set_option linter.unusedVariables false
set_option maxRecDepth 100000
section
variable {F0 : List Nat} {w0 w : World} {R : List Asrt} {pn : Value} {bd lb sb : Nat} {d : DiskD} {l : LogD} {segs : List Nat}
set_option maxHeartbeats 8000000 in
theorem o_rfour {gb lx nb bb hb hv ty ty2 : Nat} {b : List UInt8} {A : Option Addr} {cA : Nat} (h : In F0 w0 w (RowsR pn lb bd sb hb l (d, segs, hv) R)) (j1 j2 j3 j4 j5 : Nat) (hj1 : R[j1]? = some (Cells gb #[.pointer (some ⟨sb, 0, none⟩)] 145)) (hj2 : R[j2]? = some (Cells lx #[dptr lb] 28))
    (hB : R[j3]? = some (RowA 5 1 (.slice A b.length cA) b.length (u8s b))) (hj4 : R[j4]? = some (Cells nb #[.func (.func 179) #[] #[.pointer (some ⟨gb, 0, none⟩), .pointer (some ⟨lx, 0, none⟩), .pointer (some ⟨hb, 0, none⟩)]] ty)) (hj5 : R[j5]? = some (Cells bb #[.slice A b.length cA] ty2))
    (ho : d.ops ≤ 99990000) (hb4 : b.length ≤ 5000) (hn : l.m.next ≤ 1000000) :
    Calls Tryz.prog 182 #[.pointer (some ⟨nb, 0, none⟩), .pointer (some ⟨bb, 0, none⟩)] w fun e w' => e = .returned (.int .i64 (nextD l.m.next b (d, segs, hv)).2) ∧ In F0 w0 w' (RowsR pn lb bd sb hb l (nextD l.m.next b (d, segs, hv)).1 R) := by
  have y0 : w.cell? ⟨nb, 0, none⟩ = some (.func (.func 179) #[] #[.pointer (some ⟨gb, 0, none⟩), .pointer (some ⟨lx, 0, none⟩), .pointer (some ⟨hb, 0, none⟩)]) := cell_of (h.block (j4 + 4) hj4) rfl
  have y1 : w.cell? ⟨bb, 0, none⟩ = some (.slice A b.length cA) := cell_of (h.block (j5 + 4) hj5) rfl
  have KN := Lib.hid (o_rnext h j1 j2 j3 hj1 hj2 hB ho hb4 hn)
  clear h ho hb4 hn
  go_enter Tryz.func182, Tryz.ntmps182
  go_wp2_with fail
  refine KN.out.mono ?_
  rintro e w1 ⟨rfl, g1⟩
  have G := Lib.hid g1
  clear g1 KN
  go_wp2_with fail
  go_ret
  exact ⟨rfl, G.out⟩
end
end Go.Proofs.YtogclkhpbjfadaaGreat
