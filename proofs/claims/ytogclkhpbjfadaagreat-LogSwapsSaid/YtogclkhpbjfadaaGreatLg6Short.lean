/- Are the calls few and short. -/
import Derived.Test.YtogclkhpbjfadaaGreatArgL6
import Derived.LoopTactic
import Derived.Deep.DeepCutAuto
namespace Go.Proofs.YtogclkhpbjfadaaGreat
open Go.RowKit
set_option linter.unusedVariables false
set_option maxRecDepth 100000

structure ShortC (c : CallI) : Prop where
  b : c.b.length ≤ 400
  n : c.rows.length ≤ 12
  rows : ∀ r ∈ c.rows, r.body.length ≤ 200
structure ShortP (cs : List CallI) : Prop where
  len : cs.length ≤ 80
  each : ∀ c ∈ cs, ShortC c
section
variable {w0 w : World} {R : List Asrt}
def ShRel (cs : List CallI) (w0 : World) (R : List Asrt) (i : Value) (wr : World) : Prop :=
  ∃ k : Nat, k ≤ cs.length ∧ k ≤ 80 ∧ i = .int .i64 k ∧ (∀ c ∈ cs.take k, ShortC c) ∧ In [] w0 wr R
def ShRel2 (rs : List FrI) (w0 : World) (R : List Asrt) (i : Value) (wr : World) : Prop :=
  ∃ k : Nat, k ≤ rs.length ∧ i = .int .i64 k ∧ (∀ r ∈ rs.take k, r.body.length ≤ 200) ∧ In [] w0 wr R
def ShortPost (cs : List CallI) (w0 : World) (R : List Asrt) (e : Ending) (w' : World) : Prop := ∃ b : Bool, e = .returned (.bool b) ∧ (b = true → ShortP cs) ∧ In [] w0 w' R
theorem short_no {cs : List CallI} (h : In [] w0 w R) : ShortPost cs w0 R (.returned (.bool false)) w := ⟨false, rfl, (fun e => by cases e), h⟩
theorem shrel2_step {rs : List FrI} {j : Nat} {y : FrI} (hy : rs[j]? = some y) (hall : ∀ r ∈ rs.take j, r.body.length ≤ 200) (hb : y.body.length ≤ 200) (ho : In [] w0 w R) : ShRel2 rs w0 R (.int .i64 ((j : Int) + 1)) w := by
  have hj := (List.getElem?_eq_some_iff.1 hy).1
  refine ⟨j + 1, hj, by rw [Int.natCast_add]; rfl, fun r hr => ?_, ho⟩
  rw [List.take_add_one, hy] at hr
  rcases List.mem_append.1 hr with hr | hr
  · exact hall r hr
  · simp at hr; subst hr; exact hb
theorem shrel_step {cs : List CallI} {k : Nat} {x : CallI} (hx : cs[k]? = some x) (hk : ¬ 80 ≤ k) (hall : ∀ c ∈ cs.take k, ShortC c) (hc : ShortC x) (ho : In [] w0 w R) : ShRel cs w0 R (.int .i64 ((k : Int) + 1)) w := by
  have hj := (List.getElem?_eq_some_iff.1 hx).1
  refine ⟨k + 1, hj, by omega, by rw [Int.natCast_add]; rfl, fun r hr => ?_, ho⟩
  rw [List.take_add_one, hx] at hr
  rcases List.mem_append.1 hr with hr | hr
  · exact hall r hr
  · simp at hr; subst hr; exact hc
set_option maxHeartbeats 16000000 in
theorem o_short {v : Value} {cs : List CallI} (h : In [] w0 w R) (hv : ArgCalls6 w0 v cs) : Calls Tryz.prog 23 #[v] w (ShortPost cs w0 R) := by
  obtain ⟨a, cap, rfl, hc1, hc2, hc⟩ := hv.ex
  unfold maxLen at hc2
  have HC := Lib.hid hc
  have HR : Hid (ShRel cs w0 R (.int .i64 0) w) := Lib.hid ⟨0, Nat.zero_le _, Nat.zero_le _, rfl, by simp, h⟩
  clear h hv hc
  go_enter Tryz.func23, Tryz.ntmps23
  go_wp2_with fail
  go_loopw [9] (ShRel cs w0 R) (fun k _ => cs.length - (intOf k).toNat)
  case atStart => exact HR.out
  case round =>
    obtain ⟨k, hk, hk80, rfl, hall, ho⟩ := hrel
    clear HR
    by_cases hlt : k < cs.length
    · obtain ⟨x, hx⟩ : ∃ x, cs[k]? = some x := ⟨cs[k], List.getElem?_eq_getElem hlt⟩
      obtain ⟨g, o, rfl, hx0⟩ := HC.out k x hx
      obtain ⟨z0, z1, ⟨vb, z2, hvb⟩, vr, z3, hvr⟩ := hx0
      obtain ⟨ab, cb, rfl, sb, hb1, hb2⟩ := hvb.ex
      obtain ⟨ar, cr, rfl, hr1, hr2, hr⟩ := hvr.ex
      have c0 := cell_old ho z0
      have c1 := cell_old ho z1
      have c2 := cell_old ho z2
      have c3 := cell_old ho z3
      have hlt' : (k : Int) < (cs.length : Int) := by omega
      have hw2 : wrap64 ((k : Int) + 1) = (k : Int) + 1 := by unfold wrap64; omega
      have h4 := ho.cells #[.int .i64 x.act, .int .i64 x.n, .slice ab x.b.length cb, .slice ar x.rows.length cr] 46
      have H4 := Lib.hid h4
      unfold maxLen at hb2 hr2
      have HNO : Hid (ShortPost cs w0 R (.returned (.bool false)) (wr.alloc (.cells #[.int .i64 x.act, .int .i64 x.n, .slice ab x.b.length cb, .slice ar x.rows.length cr] 46))) := Lib.hid (short_no h4.drop)
      have HALL := Lib.hid (And.intro hall hx)
      have HVR := Lib.hid hr
      clear ho h4 hvb hvr hr sb hall hx hlt z0 z1 z2 z3
      by_cases q1 : 80 ≤ k
      · have q1' : (80 : Int) ≤ (k : Int) := by omega
        clear q1
        go_wp2_with fail
        go_ret
        exact HNO.out
      have q1' : decide ((80 : Int) ≤ (k : Int)) = false := by simp; omega
      by_cases q2 : 400 < x.b.length
      · have q2' : (400 : Int) < (x.b.length : Int) := by omega
        clear q2
        go_wp2_with fail
        go_ret
        exact HNO.out
      have q2' : decide ((400 : Int) < (x.b.length : Int)) = false := by simp; omega
      by_cases q3 : 12 < x.rows.length
      · have q3' : (12 : Int) < (x.rows.length : Int) := by omega
        clear q3
        go_wp2_with fail
        go_ret
        exact HNO.out
      have q3' : decide ((12 : Int) < (x.rows.length : Int)) = false := by simp; omega
      have HR2 : Hid (ShRel2 x.rows w0 R (.int .i64 0) (wr.alloc (.cells #[.int .i64 x.act, .int .i64 x.n, .slice ab x.b.length cb, .slice ar x.rows.length cr] 46))) := Lib.hid ⟨0, Nat.zero_le _, rfl, by simp, H4.out.drop⟩
      clear HNO
      obtain ⟨wo, hwo⟩ : ∃ wo, wo = wr := ⟨_, rfl⟩
      go_wp2_with fail
      generalize wr.heap.size = fb at *
      go_loopw [31] (ShRel2 x.rows w0 R) (fun j _ => x.rows.length - (intOf j).toNat)
      case atStart => exact HR2.out
      case round =>
        obtain ⟨j, hj, rfl, hallj, hoj⟩ := hrel
        clear HR2
        by_cases hltj : j < x.rows.length
        · obtain ⟨y, hy⟩ : ∃ y, x.rows[j]? = some y := ⟨x.rows[j], List.getElem?_eq_getElem hltj⟩
          obtain ⟨gy, oy, rfl, hy0⟩ := HVR.out j y hy
          obtain ⟨y0, y1, vy, y2, hvy⟩ := hy0
          obtain ⟨ay, cy, rfl, sy, hy1, hy2⟩ := hvy.ex
          have d0 := cell_old hoj y0
          have d1 := cell_old hoj y1
          have d2 := cell_old hoj y2
          have hltj' : (j : Int) < (x.rows.length : Int) := by omega
          have hw3 : wrap64 ((j : Int) + 1) = (j : Int) + 1 := by unfold wrap64; omega
          have h6 := hoj.cells #[.int .i64 y.kind, .int .i64 y.ver, .slice ay y.body.length cy] 40
          have HNO2 : Hid (ShortPost cs w0 R (.returned (.bool false)) (wr.alloc (.cells #[.int .i64 y.kind, .int .i64 y.ver, .slice ay y.body.length cy] 40))) := Lib.hid (short_no h6.drop)
          unfold maxLen at hy2
          have HYJ := Lib.hid (And.intro hallj hy)
          have H6 := Lib.hid h6
          clear hoj h6 hvy sy y0 y1 y2 hallj hy hltj
          by_cases q4 : 200 < y.body.length
          · have q4' : (200 : Int) < (y.body.length : Int) := by omega
            clear q4
            go_wp2_with fail
            go_ret
            exact HNO2.out
          have q4' : decide ((200 : Int) < (y.body.length : Int)) = false := by simp; omega
          have HRN : Hid (ShRel2 x.rows w0 R (.int .i64 ((j : Int) + 1)) (wr.alloc (.cells #[.int .i64 y.kind, .int .i64 y.ver, .slice ay y.body.length cy] 40))) := Lib.hid (shrel2_step HYJ.out.2 HYJ.out.1 (Nat.le_of_not_lt q4) H6.out.drop)
          clear HNO2 H6 HYJ
          go_wp2_with fail
          go_roundw
          case rel => (try rw [hw3]); exact HRN.out
          case measure => (try rw [hw3]); exact meas_lt hltj'
        · have hgej : (x.rows.length : Int) ≤ (j : Int) := by omega
          obtain rfl : j = x.rows.length := by omega
          have HRN : Hid (ShRel cs w0 R (.int .i64 ((k : Int) + 1)) wr) := Lib.hid (shrel_step HALL.out.2 q1 HALL.out.1 ⟨Nat.le_of_not_lt q2, Nat.le_of_not_lt q3, by rw [List.take_length] at hallj; exact hallj⟩ hoj)
          clear hoj hallj hltj
          go_wp2_with fail
          go_roundw
          case rel => (try rw [hw2]); exact HRN.out
          case measure => (try rw [hw2]); exact meas_lt hlt'
    · have hge : (cs.length : Int) ≤ (k : Int) := by omega
      obtain rfl : k = cs.length := by omega
      have HF : Hid (ShortPost cs w0 R (.returned (.bool true)) wr) := Lib.hid ⟨true, rfl, fun _ => ⟨hk80, by rw [List.take_length] at hall; exact hall⟩, ho⟩
      clear ho hall hlt
      go_wp2_with fail
      go_ret
      exact HF.out
end
end Go.Proofs.YtogclkhpbjfadaaGreat
