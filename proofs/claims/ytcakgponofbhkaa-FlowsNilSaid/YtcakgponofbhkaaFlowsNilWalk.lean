/- A table that there isn't. -/
import Derived.Test.YtcakgponofbhkaaFlowNil
import Derived.Test.YtcakgponofbhkaaFlowArgs
namespace Go.Proofs.Ytcakgponofbhkaa
open Go.RowKit
set_option linter.unusedVariables false
set_option maxRecDepth 100000
attribute [-go_sem] run_eql_struct

theorem In.keepMod {F0 : List Nat} {w0 w w' : World} {R : List Asrt} (h : In F0 w0 w R) (hm : Mod [] w w') : In F0 w0 w' R := by
  obtain ⟨F, hs, hF⟩ := h.star
  have fr := Framed.star h.framed
  exact ⟨h.framed, ⟨F, fr.keep hs (fun b hb => hm.block b (fr.lt hs b hb) (by simp)), hF⟩, h.mod.trans hm (fun x hx => by simp at hx)⟩
/-- What a walk reads of two flows. -/
def TwoF (b1 b2 : Nat) (f g : Fl) (w' : World) : Prop := w'.cell? ⟨b1, 0, none⟩ = some (.int .u32 f.t.src) ∧ w'.cell? ⟨b1, 1, none⟩ = some (.int .u32 f.t.dst) ∧ w'.cell? ⟨b1, 2, none⟩ = some (.int .i64 f.t.proto) ∧ w'.cell? ⟨b1, 3, none⟩ = some (.int .i64 f.t.sport) ∧ w'.cell? ⟨b1, 4, none⟩ = some (.int .i64 f.t.dport) ∧ w'.cell? ⟨b1, 5, none⟩ = some (.int .i64 f.bk) ∧ w'.cell? ⟨b1, 6, none⟩ = some (.int .i64 f.gen) ∧ w'.cell? ⟨b1, 7, none⟩ = some (.int .i64 f.seen) ∧ w'.cell? ⟨b2, 0, none⟩ = some (.int .u32 g.t.src) ∧ w'.cell? ⟨b2, 1, none⟩ = some (.int .u32 g.t.dst) ∧ w'.cell? ⟨b2, 2, none⟩ = some (.int .i64 g.t.proto) ∧ w'.cell? ⟨b2, 3, none⟩ = some (.int .i64 g.t.sport) ∧ w'.cell? ⟨b2, 4, none⟩ = some (.int .i64 g.t.dport) ∧ w'.cell? ⟨b2, 5, none⟩ = some (.int .i64 g.bk) ∧ w'.cell? ⟨b2, 6, none⟩ = some (.int .i64 g.gen) ∧ w'.cell? ⟨b2, 7, none⟩ = some (.int .i64 g.seen)
theorem TwoF.of {F0 : List Nat} {w0 w' : World} {b1 b2 : Nat} {f g : Fl} (h : In F0 w0 w' [Cells b2 (encF g) 59, Cells b1 (encF f) 59]) : TwoF b1 b2 f g w' :=
  ⟨cell_of (h.block 1 rfl) rfl, cell_of (h.block 1 rfl) rfl, cell_of (h.block 1 rfl) rfl, cell_of (h.block 1 rfl) rfl, cell_of (h.block 1 rfl) rfl, cell_of (h.block 1 rfl) rfl, cell_of (h.block 1 rfl) rfl, cell_of (h.block 1 rfl) rfl, cell_of (h.block 0 rfl) rfl, cell_of (h.block 0 rfl) rfl, cell_of (h.block 0 rfl) rfl, cell_of (h.block 0 rfl) rfl, cell_of (h.block 0 rfl) rfl, cell_of (h.block 0 rfl) rfl, cell_of (h.block 0 rfl) rfl, cell_of (h.block 0 rfl) rfl⟩
set_option maxHeartbeats 16000000 in
theorem walk_FlowsNil (w : World) (f : Fl) (wf : WfF f) (g : Fl) (wg : WfF g) (n : Int) (hn : (Lit.int .i64 n).wf = true) : Calls Try.prog 12 #[.agg (encF f), .agg (encF g), .int .i64 n] w (TruePost w) := by
  clear wf wg hn
  have he := fl_eq f g
  have hm : Try.prog.eqGuardType Try.prog.depth 59 = false := by kernel_rfl
  have h0 := ((Own.nil w).cells (encF f) 59).cells (encF g) 59
  rw [World.size_alloc] at h0
  have H0 := Lib.hid h0
  clear h0
  generalize hq : decide (f = g) = q at he
  have hs := fun w => fsame f g w
  rw [hq] at hs
  have HS := Lib.hid hs
  clear hs hq
  go_enter Try.func12, Try.ntmps12
  go_wp2_with fail
  generalize w.heap.size + 1 = b2 at *
  generalize w.heap.size = b1 at *
  refine (fput_nil f _).mono ?_
  rintro e w1 ⟨rfl, hmod⟩
  have H1 := Lib.hid (H0.out.keepMod hmod)
  obtain ⟨e1, e2, e3, e4, e5, e6, e7, e8, -⟩ := TwoF.of H1.out
  clear hmod H0
  go_wp2_with fail
  refine (fget_nil f.t _).mono ?_
  rintro e w2 ⟨rfl, hmod⟩
  have H2 := Lib.hid (H1.out.keepMod hmod)
  clear e1 e2 e3 e4 e5 e6 e7 e8 hmod H1
  have HW := Lib.hid (H2.out.alloc (.cells #[.int .u32 0, .int .u32 0, .int .i64 0, .int .i64 0, .int .i64 0, .int .i64 0, .int .i64 0, .int .i64 0] 59))
  have ez : encF zF = #[.int .u32 0, .int .u32 0, .int .i64 0, .int .i64 0, .int .i64 0, .int .i64 0, .int .i64 0, .int .i64 0] := rfl
  rw [ez] at *
  clear ez
  go_wp2_with fail
  generalize w2.alloc (.cells #[.int .u32 0, .int .u32 0, .int .i64 0, .int .i64 0, .int .i64 0, .int .i64 0, .int .i64 0, .int .i64 0] 59) = W at *
  have hc0 : W.cell? ⟨b1, 0, none⟩ = some (.int .u32 f.t.src) ∧ W.cell? ⟨b1, 1, none⟩ = some (.int .u32 f.t.dst) ∧ W.cell? ⟨b1, 2, none⟩ = some (.int .i64 f.t.proto) ∧ W.cell? ⟨b1, 3, none⟩ = some (.int .i64 f.t.sport) ∧ W.cell? ⟨b1, 4, none⟩ = some (.int .i64 f.t.dport) ∧ W.cell? ⟨b1, 5, none⟩ = some (.int .i64 f.bk) ∧ W.cell? ⟨b1, 6, none⟩ = some (.int .i64 f.gen) ∧ W.cell? ⟨b1, 7, none⟩ = some (.int .i64 f.seen) ∧ W.cell? ⟨b2, 0, none⟩ = some (.int .u32 g.t.src) ∧ W.cell? ⟨b2, 1, none⟩ = some (.int .u32 g.t.dst) ∧ W.cell? ⟨b2, 2, none⟩ = some (.int .i64 g.t.proto) ∧ W.cell? ⟨b2, 3, none⟩ = some (.int .i64 g.t.sport) ∧ W.cell? ⟨b2, 4, none⟩ = some (.int .i64 g.t.dport) ∧ W.cell? ⟨b2, 5, none⟩ = some (.int .i64 g.bk) ∧ W.cell? ⟨b2, 6, none⟩ = some (.int .i64 g.gen) ∧ W.cell? ⟨b2, 7, none⟩ = some (.int .i64 g.seen) := TwoF.of HW.out
  simp only [List.append_eq, List.cons_append, List.nil_append]
  go_region_held3 (fun w' => w'.cell? ⟨b1, 0, none⟩ = some (.int .u32 f.t.src) ∧ w'.cell? ⟨b1, 1, none⟩ = some (.int .u32 f.t.dst) ∧ w'.cell? ⟨b1, 2, none⟩ = some (.int .i64 f.t.proto) ∧ w'.cell? ⟨b1, 3, none⟩ = some (.int .i64 f.t.sport) ∧ w'.cell? ⟨b1, 4, none⟩ = some (.int .i64 f.t.dport) ∧ w'.cell? ⟨b1, 5, none⟩ = some (.int .i64 f.bk) ∧ w'.cell? ⟨b1, 6, none⟩ = some (.int .i64 f.gen) ∧ w'.cell? ⟨b1, 7, none⟩ = some (.int .i64 f.seen) ∧ w'.cell? ⟨b2, 0, none⟩ = some (.int .u32 g.t.src) ∧ w'.cell? ⟨b2, 1, none⟩ = some (.int .u32 g.t.dst) ∧ w'.cell? ⟨b2, 2, none⟩ = some (.int .i64 g.t.proto) ∧ w'.cell? ⟨b2, 3, none⟩ = some (.int .i64 g.t.sport) ∧ w'.cell? ⟨b2, 4, none⟩ = some (.int .i64 g.t.dport) ∧ w'.cell? ⟨b2, 5, none⟩ = some (.int .i64 g.bk) ∧ w'.cell? ⟨b2, 6, none⟩ = some (.int .i64 g.gen) ∧ w'.cell? ⟨b2, 7, none⟩ = some (.int .i64 g.seen)) (first | exact hc5 | exact hc4 | exact hc3 | exact hc2 | exact hc1 | exact hc0 | go_keep)
      (first
       | (go_at_call 35
          refine (ftouch_nil f.t n _).mono ?_
          rintro e v0 ⟨rfl, hmod⟩
          have K0 := Lib.hid ((HW.out.drew).keepMod hmod)
          have hc1 : v0.cell? ⟨b1, 0, none⟩ = some (.int .u32 f.t.src) ∧ v0.cell? ⟨b1, 1, none⟩ = some (.int .u32 f.t.dst) ∧ v0.cell? ⟨b1, 2, none⟩ = some (.int .i64 f.t.proto) ∧ v0.cell? ⟨b1, 3, none⟩ = some (.int .i64 f.t.sport) ∧ v0.cell? ⟨b1, 4, none⟩ = some (.int .i64 f.t.dport) ∧ v0.cell? ⟨b1, 5, none⟩ = some (.int .i64 f.bk) ∧ v0.cell? ⟨b1, 6, none⟩ = some (.int .i64 f.gen) ∧ v0.cell? ⟨b1, 7, none⟩ = some (.int .i64 f.seen) ∧ v0.cell? ⟨b2, 0, none⟩ = some (.int .u32 g.t.src) ∧ v0.cell? ⟨b2, 1, none⟩ = some (.int .u32 g.t.dst) ∧ v0.cell? ⟨b2, 2, none⟩ = some (.int .i64 g.t.proto) ∧ v0.cell? ⟨b2, 3, none⟩ = some (.int .i64 g.t.sport) ∧ v0.cell? ⟨b2, 4, none⟩ = some (.int .i64 g.t.dport) ∧ v0.cell? ⟨b2, 5, none⟩ = some (.int .i64 g.bk) ∧ v0.cell? ⟨b2, 6, none⟩ = some (.int .i64 g.gen) ∧ v0.cell? ⟨b2, 7, none⟩ = some (.int .i64 g.seen) := TwoF.of K0.out
          clear hmod)
       | (go_at_call 38
          refine (fdrop_nil f.t _).mono ?_
          rintro e v1 ⟨rfl, hmod⟩
          have K1 := Lib.hid ((K0.out).keepMod hmod)
          have hc2 : v1.cell? ⟨b1, 0, none⟩ = some (.int .u32 f.t.src) ∧ v1.cell? ⟨b1, 1, none⟩ = some (.int .u32 f.t.dst) ∧ v1.cell? ⟨b1, 2, none⟩ = some (.int .i64 f.t.proto) ∧ v1.cell? ⟨b1, 3, none⟩ = some (.int .i64 f.t.sport) ∧ v1.cell? ⟨b1, 4, none⟩ = some (.int .i64 f.t.dport) ∧ v1.cell? ⟨b1, 5, none⟩ = some (.int .i64 f.bk) ∧ v1.cell? ⟨b1, 6, none⟩ = some (.int .i64 f.gen) ∧ v1.cell? ⟨b1, 7, none⟩ = some (.int .i64 f.seen) ∧ v1.cell? ⟨b2, 0, none⟩ = some (.int .u32 g.t.src) ∧ v1.cell? ⟨b2, 1, none⟩ = some (.int .u32 g.t.dst) ∧ v1.cell? ⟨b2, 2, none⟩ = some (.int .i64 g.t.proto) ∧ v1.cell? ⟨b2, 3, none⟩ = some (.int .i64 g.t.sport) ∧ v1.cell? ⟨b2, 4, none⟩ = some (.int .i64 g.t.dport) ∧ v1.cell? ⟨b2, 5, none⟩ = some (.int .i64 g.bk) ∧ v1.cell? ⟨b2, 6, none⟩ = some (.int .i64 g.gen) ∧ v1.cell? ⟨b2, 7, none⟩ = some (.int .i64 g.seen) := TwoF.of K1.out
          clear hmod)
       | (go_at_call 39
          refine (fof_nil f.bk _).mono ?_
          rintro e v2 ⟨⟨c, rfl⟩, hmod⟩
          have K2 := Lib.hid ((K1.out).keepMod hmod)
          have hc3 : v2.cell? ⟨b1, 0, none⟩ = some (.int .u32 f.t.src) ∧ v2.cell? ⟨b1, 1, none⟩ = some (.int .u32 f.t.dst) ∧ v2.cell? ⟨b1, 2, none⟩ = some (.int .i64 f.t.proto) ∧ v2.cell? ⟨b1, 3, none⟩ = some (.int .i64 f.t.sport) ∧ v2.cell? ⟨b1, 4, none⟩ = some (.int .i64 f.t.dport) ∧ v2.cell? ⟨b1, 5, none⟩ = some (.int .i64 f.bk) ∧ v2.cell? ⟨b1, 6, none⟩ = some (.int .i64 f.gen) ∧ v2.cell? ⟨b1, 7, none⟩ = some (.int .i64 f.seen) ∧ v2.cell? ⟨b2, 0, none⟩ = some (.int .u32 g.t.src) ∧ v2.cell? ⟨b2, 1, none⟩ = some (.int .u32 g.t.dst) ∧ v2.cell? ⟨b2, 2, none⟩ = some (.int .i64 g.t.proto) ∧ v2.cell? ⟨b2, 3, none⟩ = some (.int .i64 g.t.sport) ∧ v2.cell? ⟨b2, 4, none⟩ = some (.int .i64 g.t.dport) ∧ v2.cell? ⟨b2, 5, none⟩ = some (.int .i64 g.bk) ∧ v2.cell? ⟨b2, 6, none⟩ = some (.int .i64 g.gen) ∧ v2.cell? ⟨b2, 7, none⟩ = some (.int .i64 g.seen) := TwoF.of K2.out
          clear hmod)
       | (go_at_call 49
          refine (HS.out _).mono ?_
          rintro e v3 ⟨rfl, hmod⟩
          have K3 := Lib.hid ((K2.out).keepMod hmod)
          have hc4 : v3.cell? ⟨b1, 0, none⟩ = some (.int .u32 f.t.src) ∧ v3.cell? ⟨b1, 1, none⟩ = some (.int .u32 f.t.dst) ∧ v3.cell? ⟨b1, 2, none⟩ = some (.int .i64 f.t.proto) ∧ v3.cell? ⟨b1, 3, none⟩ = some (.int .i64 f.t.sport) ∧ v3.cell? ⟨b1, 4, none⟩ = some (.int .i64 f.t.dport) ∧ v3.cell? ⟨b1, 5, none⟩ = some (.int .i64 f.bk) ∧ v3.cell? ⟨b1, 6, none⟩ = some (.int .i64 f.gen) ∧ v3.cell? ⟨b1, 7, none⟩ = some (.int .i64 f.seen) ∧ v3.cell? ⟨b2, 0, none⟩ = some (.int .u32 g.t.src) ∧ v3.cell? ⟨b2, 1, none⟩ = some (.int .u32 g.t.dst) ∧ v3.cell? ⟨b2, 2, none⟩ = some (.int .i64 g.t.proto) ∧ v3.cell? ⟨b2, 3, none⟩ = some (.int .i64 g.t.sport) ∧ v3.cell? ⟨b2, 4, none⟩ = some (.int .i64 g.t.dport) ∧ v3.cell? ⟨b2, 5, none⟩ = some (.int .i64 g.bk) ∧ v3.cell? ⟨b2, 6, none⟩ = some (.int .i64 g.gen) ∧ v3.cell? ⟨b2, 7, none⟩ = some (.int .i64 g.seen) := TwoF.of K3.out
          clear hmod)
       | (go_at_call 33
          refine (f11awake _).mono ?_
          rintro e v4 ⟨rfl, hmod⟩
          have K4 := Lib.hid ((K3.out).keepMod hmod)
          have hc5 : v4.cell? ⟨b1, 0, none⟩ = some (.int .u32 f.t.src) ∧ v4.cell? ⟨b1, 1, none⟩ = some (.int .u32 f.t.dst) ∧ v4.cell? ⟨b1, 2, none⟩ = some (.int .i64 f.t.proto) ∧ v4.cell? ⟨b1, 3, none⟩ = some (.int .i64 f.t.sport) ∧ v4.cell? ⟨b1, 4, none⟩ = some (.int .i64 f.t.dport) ∧ v4.cell? ⟨b1, 5, none⟩ = some (.int .i64 f.bk) ∧ v4.cell? ⟨b1, 6, none⟩ = some (.int .i64 f.gen) ∧ v4.cell? ⟨b1, 7, none⟩ = some (.int .i64 f.seen) ∧ v4.cell? ⟨b2, 0, none⟩ = some (.int .u32 g.t.src) ∧ v4.cell? ⟨b2, 1, none⟩ = some (.int .u32 g.t.dst) ∧ v4.cell? ⟨b2, 2, none⟩ = some (.int .i64 g.t.proto) ∧ v4.cell? ⟨b2, 3, none⟩ = some (.int .i64 g.t.sport) ∧ v4.cell? ⟨b2, 4, none⟩ = some (.int .i64 g.t.dport) ∧ v4.cell? ⟨b2, 5, none⟩ = some (.int .i64 g.bk) ∧ v4.cell? ⟨b2, 6, none⟩ = some (.int .i64 g.gen) ∧ v4.cell? ⟨b2, 7, none⟩ = some (.int .i64 g.seen) := TwoF.of K4.out
          clear hmod)
       | (go_at_call 30
          refine (fidle_nil n _).mono ?_
          rintro e vs ⟨rfl, rfl⟩)
       | (go_at_call 32
          refine (fall_nil _).mono ?_
          rintro e vs ⟨rfl, rfl⟩)
       | (go_at_call 36
          refine (flen_nil _).mono ?_
          rintro e vs ⟨rfl, rfl⟩)
       | (go_at_call 42
          refine (fmost_nil _).mono ?_
          rintro e vs ⟨rfl, rfl⟩))
  go_wp2_with fail
  go_ret
  exact ⟨rfl, K4.out.mod⟩
end Go.Proofs.Ytcakgponofbhkaa
