/- Flows, compared. -/
import Derived.Test.YtcakgponofbhkaaFlowOps
import Derived.Laws.StructEq
namespace Go.Proofs.Ytcakgponofbhkaa
open Go.RowKit
set_option linter.unusedVariables false
set_option maxRecDepth 100000

theorem tup_ext {s t : Tup} : s = t ↔ s.src = t.src ∧ s.dst = t.dst ∧ s.proto = t.proto ∧ s.sport = t.sport ∧ s.dport = t.dport := by
  obtain ⟨a1, a2, a3, a4, a5⟩ := s
  obtain ⟨b1, b2, b3, b4, b5⟩ := t
  simp
theorem fl_ext {s t : Fl} : s = t ↔ s.t = t.t ∧ s.bk = t.bk ∧ s.gen = t.gen ∧ s.seen = t.seen := by
  obtain ⟨a1, a2, a3, a4⟩ := s
  obtain ⟨b1, b2, b3, b4⟩ := t
  simp
theorem tup_eq (s t : Tup) (w : World) : (binOp .eql 57 (.agg (encT s)) (.agg (encT t))).run Try.prog w = .ok (.bool (decide (s = t))) w := by
  rw [run_eql_struct, run_equalIn_agg]
  · go_simp
    rw [show decide (s = t) = decide (s.src = t.src ∧ s.dst = t.dst ∧ s.proto = t.proto ∧ s.sport = t.sport ∧ s.dport = t.dport) from decide_eq_decide.2 tup_ext]
    repeat' split
    all_goals simp_all
  · kernel_rfl
  · kernel_rfl
theorem fl_eq (s t : Fl) (w : World) : (binOp .eql 59 (.agg (encF s)) (.agg (encF t))).run Try.prog w = .ok (.bool (decide (s = t))) w := by
  rw [run_eql_struct, run_equalIn_agg]
  · go_simp
    rw [show decide (s = t) = decide ((s.t.src = t.t.src ∧ s.t.dst = t.t.dst ∧ s.t.proto = t.t.proto ∧ s.t.sport = t.t.sport ∧ s.t.dport = t.t.dport) ∧ s.bk = t.bk ∧ s.gen = t.gen ∧ s.seen = t.seen) from decide_eq_decide.2 (by rw [fl_ext, tup_ext])]
    repeat' split
    all_goals simp_all
  · kernel_rfl
  · kernel_rfl
attribute [-go_sem] run_eql_struct
set_option maxHeartbeats 4000000 in
theorem fsame (s t : Fl) (w : World) : Calls Try.prog 49 #[.agg (encF s), .agg (encF t)] w fun e w' => e = .returned (.bool (decide (s = t))) ∧ Mod [] w w' := by
  have hm : Try.prog.eqGuardType Try.prog.depth 57 = false := by kernel_rfl
  have HM : Hid (∀ o o' : Obj, Mod [] w ((w.alloc o).alloc o')) := Lib.hid fun o o' => ((Mod.refl _ _).alloc _).alloc _
  have he := fun w => tup_eq s.t t.t w
  have Hx : Hid (decide (s = t) = decide (s.t = t.t ∧ s.bk = t.bk ∧ s.gen = t.gen ∧ s.seen = t.seen)) := Lib.hid (decide_eq_decide.2 fl_ext)
  obtain ⟨s0, s1, s2, s3⟩ := s
  obtain ⟨t0, t1, t2, t3⟩ := t
  generalize hP : decide ((⟨s0, s1, s2, s3⟩ : Fl) = ⟨t0, t1, t2, t3⟩) = P at *
  clear hP
  have Hx' : Hid (P = decide (s0 = t0 ∧ s1 = t1 ∧ s2 = t2 ∧ s3 = t3)) := Lib.hid Hx.out
  clear Hx
  have h1 : decide (s0 = t0) = false ∨ decide (s0 = t0) = true := by cases decide (s0 = t0) <;> simp
  rcases h1 with a | a
  · have HP : Hid (P = false) := Lib.hid (by rw [Hx'.out]; simp at a; simp [a])
    clear Hx'
    rw [a] at he
    go_enter Try.func49, Try.ntmps49
    go_wp2_with fail
    go_ret
    exact ⟨by rw [HP.out]; rfl, HM.out _ _⟩
  · have HP : Hid (P = decide (s1 = t1 ∧ s2 = t2 ∧ s3 = t3)) := Lib.hid (by rw [Hx'.out]; simp at a; simp [a])
    clear Hx'
    rw [a] at he
    clear a
    go_enter Try.func49, Try.ntmps49
    go_wp2_with fail
    all_goals
      go_ret
      refine ⟨?_, HM.out _ _⟩
      rw [HP.out]
      refine congrArg (fun b => Ending.returned (Value.bool b)) ?_
      first
        | (simp [*]; done)
        | (simp [*]; by_cases d : s3 = t3 <;> simp [d])
end Go.Proofs.Ytcakgponofbhkaa
