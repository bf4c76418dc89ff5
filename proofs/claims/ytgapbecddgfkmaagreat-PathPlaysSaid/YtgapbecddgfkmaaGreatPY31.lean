/- Rows.PathPlaysSaid -/
import Derived.Test.YtgapbecddgfkmaaGreatPY30
import Derived.Deep.DeepCutAuto
import Derived.Deep.CutBlock
namespace Go.Proofs.YtgapbecddgfkmaaGreat
open Go.RowKit
set_option linter.unusedVariables false
set_option maxHeartbeats 64000000
set_option maxRecDepth 100000
attribute [-go_sem] run_eql_struct
def RFr (bt : Nat) (most wait : Int) (v : Value) (L : List Fl) : List Asrt := [Cells bt #[v, .int .i64 most, .int .i64 wait] 78, RowA 49 8 v L.length (flatF L)]
theorem RFr.framed {bt : Nat} {most wait : Int} {v : Value} {L : List Fl} : ∀ A ∈ RFr bt most wait v L, Framed A := by
  intro A hA
  simp only [RFr, List.mem_cons, List.not_mem_nil, or_false] at hA
  rcases hA with rfl | rfl
  · exact Cells.framed _ _ _
  · exact RowA.framed _ _ _ _ _
def RFA (bt : Nat) (most wait : Int) (L : List Fl) : Asrt := fun w F => ∃ v, Star (RFr bt most wait v L) w F
theorem RFA.framed (bt : Nat) (most wait : Int) (L : List Fl) : Framed (RFA bt most wait L) := by
  refine ⟨?_, ?_⟩
  · rintro w w' F ⟨v, h⟩ hk; exact ⟨v, (Framed.star RFr.framed).keep h hk⟩
  · rintro w F ⟨v, h⟩; exact (Framed.star RFr.framed).lt h
theorem RFr.val {bt : Nat} {most wait : Int} {v : Value} {L : List Fl} {F0 : List Nat} {w0 w : World} (h : In F0 w0 w (RFr bt most wait v L)) : ∃ a cap, v = .slice a L.length cap := by
  obtain ⟨F, hF⟩ := h.get 1 rfl
  obtain ⟨a, cap, e, _⟩ := hF.shape
  exact ⟨a, cap, e⟩
theorem flow_at_row {F0 : List Nat} {w0 w : World} {R : List Asrt} {S : List Fl} {a : Option Addr} {n cap : Nat} (h : In F0 w0 w R) (i : Nat) (hi : R[i]? = some (RowA 49 8 (.slice a n cap) S.length (flatF S))) (h0 : 0 < S.length) :
    ∃ g, a = some ⟨g, 0, none⟩ ∧ ∀ (j : Nat) (x : Fl), S[j]? = some x → FlAt w g (j * 8) x := by
  obtain ⟨F, hF⟩ := h.get i hi
  obtain ⟨gg, o, e, hc⟩ := view_flow hF.view h0
  subst e
  obtain ⟨_, _, h4 | ⟨g', c, cur, e, _⟩⟩ := hF
  · omega
  · cases e; exact ⟨_, rfl, fun j x hx => by have := hc j x hx; rwa [Nat.zero_add] at this⟩
theorem rf_new (w : World) (most idle : Int) : Calls Tryz.prog 18 #[.int .i64 most, .int .i64 idle] w (Gives w [] (fun r => fun w' F => ∃ bt, r = .pointer (some ⟨bt, 0, none⟩) ∧ RFA bt (clampM most) (clampI idle) [] w' F)) := by
  have HF : Hid (∀ C : Array Value, C = #[.slice none 0 0, .int .i64 (clampM most), .int .i64 (clampI idle)] → Gives w [] (fun r => fun w' F => ∃ bt, r = .pointer (some ⟨bt, 0, none⟩) ∧ RFA bt (clampM most) (clampI idle) [] w' F) (.returned (.pointer (some ⟨w.heap.size, 0, none⟩))) (w.alloc (.cells C 78))) := Lib.hid fun C hC => by
    subst hC
    have h1 := (((Own.nil w).rownil 49 8).cells #[.slice none 0 0, .int .i64 (clampM most), .int .i64 (clampI idle)] 78)
    exact h1.gives _ _ (fun F hs => ⟨_, rfl, _, hs⟩)
  go_enter Tryz.func18, Tryz.ntmps18
  go_wp2_with fail
  go_ret
  exact HF.out _ rfl
/-! ### which may be -/
theorem r4may_true {t : Tup} (h : MayT t) (w : World) : Calls Tryz.prog 6 #[.agg (encT t)] w fun e w' => e = .returned (.bool true) ∧ w' = w.alloc (.cells (encT t) 24) := by
  obtain ⟨h1, h2, h3, h4, h5⟩ := h
  by_cases hp : t.proto = 6
  · have hp' : (t.proto == 6) = true := by simpa using hp
    clear h1 hp
    go_enter Tryz.func6, Tryz.ntmps6
    go_wp2_with fail
    go_ret
    exact ⟨rfl, rfl⟩
  · have hp' : (t.proto == 6) = false := by simpa using hp
    have hq' : (t.proto == 17) = true := by have := h1; simp; omega
    clear h1 hp
    go_enter Tryz.func6, Tryz.ntmps6
    go_wp2_with fail
    go_ret
    exact ⟨rfl, rfl⟩
theorem r4may_false {t : Tup} (h : ¬ MayT t) (w : World) : Calls Tryz.prog 6 #[.agg (encT t)] w fun e w' => e = .returned (.bool false) ∧ w' = w.alloc (.cells (encT t) 24) := by
  rw [mayT_iff] at h
  have hb : ((t.proto == 6) = false ∧ (t.proto == 17) = false) ∨ (((t.proto == 6) = true ∨ ((t.proto == 6) = false ∧ (t.proto == 17) = true)) ∧ (decide (0 ≤ t.sport) = false ∨ (0 ≤ t.sport ∧ (decide (t.sport ≤ 65535) = false ∨ (t.sport ≤ 65535 ∧ (decide (0 ≤ t.dport) = false ∨ (0 ≤ t.dport ∧ decide (t.dport ≤ 65535) = false))))))) := by
    simp only [beq_eq_false_iff_ne, beq_iff_eq, decide_eq_false_iff_not]; omega
  clear h
  rcases hb with ⟨p1, p2⟩ | ⟨p, q⟩
  · go_enter Tryz.func6, Tryz.ntmps6
    go_wp2_with fail
    go_ret
    exact ⟨rfl, rfl⟩
  · rcases p with p | ⟨p, p2⟩ <;> rcases q with q | ⟨q, q2 | ⟨q2, q3 | ⟨q3, q4⟩⟩⟩
    all_goals
      go_enter Tryz.func6, Tryz.ntmps6
      go_wp2_with fail
      go_ret
      exact ⟨rfl, rfl⟩
theorem rtime_true {t : Int} (h0 : 0 ≤ t) (h1 : t ≤ 1099511627776) (w : World) : Calls Tryz.prog 17 #[.int .i64 t] w fun e w' => e = .returned (.bool true) ∧ w = w' := by
  go_enter Tryz.func17, Tryz.ntmps17
  go_wp2_with fail
  go_ret
  exact ⟨rfl, rfl⟩
theorem rtime_false {t : Int} (ht : ¬ (0 ≤ t ∧ t ≤ 1099511627776)) (w : World) : Calls Tryz.prog 17 #[.int .i64 t] w fun e w' => e = .returned (.bool false) ∧ w = w' := by
  by_cases h0 : 0 ≤ t
  · have h1 : decide (t ≤ 1099511627776) = false := by simp; omega
    clear ht
    go_enter Tryz.func17, Tryz.ntmps17
    go_wp2_with fail
    go_ret
    exact ⟨rfl, rfl⟩
  · have h1 : decide (0 ≤ t) = false := by simp; omega
    clear ht h0
    go_enter Tryz.func17, Tryz.ntmps17
    go_wp2_with fail
    go_ret
    exact ⟨rfl, rfl⟩
section
variable {F0 : List Nat} {w0 w : World} {R : List Asrt}
theorem o_rfmay_true (h : In F0 w0 w R) {f : Fl} (hf : MayF f) : Calls Tryz.prog 92 #[.agg (encF f)] w (MayPost F0 w0 R true) := by
  obtain ⟨ht, b0, b1, g0, g1, t0, t1⟩ := hf
  have HH := Lib.hid h
  have C1 := fun w => r4may_true ht w
  have H1 := Lib.hid C1
  have C2 := Lib.hid (fun w => rtime_true t0 t1 w)
  clear h ht C1
  go_enter Tryz.func92, Tryz.ntmps92
  go_wp2_with fail
  refine (H1.out _).mono ?_
  rintro e w1 ⟨rfl, rfl⟩
  go_wp2_with fail
  refine (C2.out _).mono ?_
  rintro e w1 ⟨rfl, rfl⟩
  go_wp2_with fail
  go_ret
  exact ⟨rfl, (HH.out.alloc _).alloc _⟩
theorem o_rfmay_false (h : In F0 w0 w R) {f : Fl} (hf : ¬ MayF f) : Calls Tryz.prog 92 #[.agg (encF f)] w (MayPost F0 w0 R false) := by
  have HH := Lib.hid h
  clear h
  rw [mayF_iff] at hf
  by_cases ht : MayT f.t
  · have H1 := Lib.hid (fun w => r4may_true ht w)
    have hb : decide (0 ≤ f.bk) = false ∨ (0 ≤ f.bk ∧ (decide (f.bk ≤ 65535) = false ∨ (f.bk ≤ 65535 ∧ (decide (0 ≤ f.gen) = false ∨ (0 ≤ f.gen ∧ (decide (f.gen ≤ 1000000) = false ∨ (f.gen ≤ 1000000 ∧ ¬ (0 ≤ f.seen ∧ f.seen ≤ 1099511627776)))))))) := by
      simp only [decide_eq_false_iff_not]
      have : ¬ (0 ≤ f.bk ∧ f.bk ≤ 65535 ∧ 0 ≤ f.gen ∧ f.gen ≤ 1000000 ∧ 0 ≤ f.seen ∧ f.seen ≤ 1099511627776) := fun h => hf ⟨ht, h⟩
      omega
    clear hf ht
    rcases hb with b | ⟨b, b | ⟨b1, b | ⟨b2, b | ⟨b3, b⟩⟩⟩⟩
    case' inr.inr.inr.inr =>
      have C2 := Lib.hid (fun w => rtime_false b w)
      clear b
    all_goals
      go_enter Tryz.func92, Tryz.ntmps92
      go_wp2_with fail
      refine (H1.out _).mono ?_
      rintro e w1 ⟨rfl, rfl⟩
      go_wp2_with fail
    all_goals
      first
        | (go_ret
           exact ⟨rfl, (HH.out.alloc _).alloc _⟩)
        | (refine (C2.out _).mono ?_
           rintro e w1 ⟨rfl, rfl⟩
           go_wp2_with fail
           go_ret
           exact ⟨rfl, (HH.out.alloc _).alloc _⟩)
  · have H1 := Lib.hid (fun w => r4may_false ht w)
    clear hf ht
    go_enter Tryz.func92, Tryz.ntmps92
    go_wp2_with fail
    refine (H1.out _).mono ?_
    rintro e w1 ⟨rfl, rfl⟩
    go_wp2_with fail
    go_ret
    exact ⟨rfl, (HH.out.alloc _).alloc _⟩
end
end Go.Proofs.YtgapbecddgfkmaaGreat
