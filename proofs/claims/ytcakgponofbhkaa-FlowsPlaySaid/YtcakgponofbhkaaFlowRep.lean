/- A table of flows in memory: three maps' worth of it; keys; which flows may be. -/
import Derived.Test.YtcakgponofbhkaaTupleKeys
import Derived.Test.YtcakgponofbhkaaTab
import Derived.Test.YtcakgponofbhkaaDueSep
import Derived.Test.YtcakgponofbhkaaDuePlain2
namespace Go.Proofs.Ytcakgponofbhkaa
open Go.RowKit
open Go.Maps (Keyed)
set_option linter.unusedVariables false
set_option maxRecDepth 100000

section
variable {F0 : List Nat} {w0 w : World} {R : List Asrt}
theorem In.writer (h : In F0 w0 w R) : In F0 w0 (w.alloc (.cells #[.slice none 0 0] 140)) (WA w.heap.size [] :: R) := by
  obtain ⟨F, hs, hF⟩ := (h.cells #[.slice none 0 0] 140).star
  obtain ⟨F1, F2, h1, h2, h3, rfl⟩ := hs
  have hw : WA w.heap.size [] (w.alloc (.cells #[.slice none 0 0] 140)) F1 := ⟨.slice none 0 0, F1, [], h1, ⟨[], [], RowA.nil _ _ _, rfl, fun b _ => by simp, rfl⟩, fun b _ => by simp, by simp⟩
  exact ⟨fun B hB => by
    rcases List.mem_cons.1 hB with rfl | hB
    · exact WA.framed _ _
    · exact h.framed B hB, ⟨F1 ++ F2, ⟨F1, F2, hw, h2, h3, rfl⟩, hF⟩, h.mod.alloc _⟩
set_option maxHeartbeats 2000000 in
theorem o_fkey (h : In F0 w0 w R) {t : Tup} (ht : WfT t) : Calls Try.prog 69 #[.agg (encT t)] w fun e w' => e = .returned (.string (keyT t)) ∧ In F0 w0 w' R := by
  have h0 := (h.cells (encT t) 57).writer
  rw [World.size_alloc] at h0
  have H0 := Lib.hid h0
  clear h0
  have C1 : Hid (∀ w1 bw g, In F0 w0 w1 (WA bw [] :: Cells g (encT t) 57 :: R) → Calls Try.prog 89 #[.pointer (some ⟨bw, 0, none⟩), .agg (encT t)] w1 fun e w' => e = .returned (.tuple #[]) ∧ In F0 w0 w' (WA bw (keyL t) :: Cells g (encT t) 57 :: R)) :=
    Lib.hid fun w1 bw g h1 => by simpa using o_twrite h1 0 rfl (by simp) ht
  have C2 : Hid (∀ w1 bw g, In F0 w0 w1 (WA bw (keyL t) :: Cells g (encT t) 57 :: R) → Calls Try.prog 90 #[.pointer (some ⟨bw, 0, none⟩)] w1 fun e w' => ∃ v, e = .returned v ∧ In F0 w0 w' (RowA 5 1 v (keyL t).length (u8s (keyL t)) :: WA bw (keyL t) :: Cells g (encT t) 57 :: R)) :=
    Lib.hid fun w1 bw g h1 => o_wbytes h1 0 rfl (by rw [keyL_length]; omega)
  clear h ht
  go_enter Try.func69, Try.ntmps69
  go_wp2_with fail
  refine (C1.out _ _ _ H0.out).mono ?_
  rintro e w1 ⟨rfl, ho⟩
  have H1 := Lib.hid ho
  clear ho C1 H0
  go_wp2_with fail
  refine (C2.out _ _ _ H1.out).mono ?_
  rintro e w2 ⟨v, rfl, ho⟩
  obtain ⟨Fv, hv⟩ := ho.get 0 rfl
  obtain ⟨a, cap, rfl, -, -, -⟩ := hv.shape
  have hcv : (convert 129 9 (.slice a (keyL t).length cap)).run Try.prog w2 = .ok (.string (keyT t)) w2 := conv_str hv.all (fun e => by
    subst e
    obtain ⟨_, _, h4 | ⟨g, c, cur, e, _⟩⟩ := hv
    · exact h4.2
    · cases e)
  have H2 := Lib.hid ho.drop.drop.drop
  clear ho hv C2 H1
  generalize (keyL t).length = n at *
  go_wp2_with fail
  go_ret
  exact ⟨rfl, H2.out⟩
end

/-! ### which may be -/
theorem ftime_true {t : Int} (h0 : 0 ≤ t) (h1 : t ≤ 1099511627776) (w : World) : Calls Try.prog 68 #[.int .i64 t] w fun e w' => e = .returned (.bool true) ∧ w = w' := by
  go_enter Try.func68, Try.ntmps68
  go_wp2_with fail
  go_ret
  exact ⟨rfl, rfl⟩
theorem ftime_false {t : Int} (ht : ¬ (0 ≤ t ∧ t ≤ 1099511627776)) (w : World) : Calls Try.prog 68 #[.int .i64 t] w fun e w' => e = .returned (.bool false) ∧ w = w' := by
  by_cases h0 : 0 ≤ t
  · have h1 : decide (t ≤ 1099511627776) = false := by simp; omega
    clear ht
    go_enter Try.func68, Try.ntmps68
    go_wp2_with fail
    go_ret
    exact ⟨rfl, rfl⟩
  · have h1 : decide (0 ≤ t) = false := by simp; omega
    clear ht h0
    go_enter Try.func68, Try.ntmps68
    go_wp2_with fail
    go_ret
    exact ⟨rfl, rfl⟩
def MayPost (F0 : List Nat) (w0 : World) (R : List Asrt) (b : Bool) (e : Ending) (w' : World) : Prop := e = .returned (.bool b) ∧ In F0 w0 w' R
section
variable {F0 : List Nat} {w0 w : World} {R : List Asrt}
set_option maxHeartbeats 2000000 in
theorem o_fmay_true (h : In F0 w0 w R) {f : Fl} (hf : MayF f) : Calls Try.prog 62 #[.agg (encF f)] w (MayPost F0 w0 R true) := by
  obtain ⟨ht, b0, b1, g0, g1, t0, t1⟩ := hf
  have HH := Lib.hid h
  have C1 := fun w => tmay_true ht w
  have H1 := Lib.hid C1
  have C2 := Lib.hid (fun w => ftime_true t0 t1 w)
  clear h ht C1
  go_enter Try.func62, Try.ntmps62
  go_wp2_with fail
  refine (H1.out _).mono ?_
  rintro e w1 ⟨rfl, rfl⟩
  go_wp2_with fail
  refine (C2.out _).mono ?_
  rintro e w1 ⟨rfl, rfl⟩
  go_wp2_with fail
  go_ret
  exact ⟨rfl, (HH.out.alloc _).alloc _⟩
set_option maxHeartbeats 8000000 in
theorem o_fmay_false (h : In F0 w0 w R) {f : Fl} (hf : ¬ MayF f) : Calls Try.prog 62 #[.agg (encF f)] w (MayPost F0 w0 R false) := by
  have HH := Lib.hid h
  clear h
  rw [mayF_iff] at hf
  by_cases ht : MayT f.t
  · have H1 := Lib.hid (fun w => tmay_true ht w)
    have hb : decide (0 ≤ f.bk) = false ∨ (0 ≤ f.bk ∧ (decide (f.bk ≤ 65535) = false ∨ (f.bk ≤ 65535 ∧ (decide (0 ≤ f.gen) = false ∨ (0 ≤ f.gen ∧ (decide (f.gen ≤ 1000000) = false ∨ (f.gen ≤ 1000000 ∧ ¬ (0 ≤ f.seen ∧ f.seen ≤ 1099511627776)))))))) := by
      simp only [decide_eq_false_iff_not]
      have : ¬ (0 ≤ f.bk ∧ f.bk ≤ 65535 ∧ 0 ≤ f.gen ∧ f.gen ≤ 1000000 ∧ 0 ≤ f.seen ∧ f.seen ≤ 1099511627776) := fun h => hf ⟨ht, h⟩
      omega
    clear hf ht
    rcases hb with b | ⟨b, b | ⟨b1, b | ⟨b2, b | ⟨b3, b⟩⟩⟩⟩
    case' inr.inr.inr.inr =>
      have C2 := Lib.hid (fun w => ftime_false b w)
      clear b
    all_goals
      go_enter Try.func62, Try.ntmps62
      go_wp2_with fail
      refine (H1.out _).mono ?_
      rintro e w1 ⟨rfl, rfl⟩
      go_wp2_with fail
    all_goals
      first
        | (go_ret
           exact ⟨rfl, (HH.out.alloc _).alloc _⟩)
        | (refine (C2.out _).mono ?_
           rintro e w1 ⟨rfl, rfl⟩
           go_wp2_with fail
           go_ret
           exact ⟨rfl, (HH.out.alloc _).alloc _⟩)
  · have H1 := Lib.hid (fun w => tmay_false ht w)
    clear hf ht
    go_enter Try.func62, Try.ntmps62
    go_wp2_with fail
    refine (H1.out _).mono ?_
    rintro e w1 ⟨rfl, rfl⟩
    go_wp2_with fail
    go_ret
    exact ⟨rfl, (HH.out.alloc _).alloc _⟩
end
end Go.Proofs.Ytcakgponofbhkaa
