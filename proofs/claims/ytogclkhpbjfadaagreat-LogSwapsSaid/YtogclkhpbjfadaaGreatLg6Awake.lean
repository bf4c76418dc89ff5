/- A log that every program must know: its walk. -/
import Derived.Test.YtogclkhpbjfadaaGreatLgO
import Derived.Test.YtogclkhpbjfadaaGreatCr
import Derived.Test.YtogclkhpbjfadaaGreatLgT
import Derived.Test.YtogclkhpbjfadaaGreatLgCreate
namespace Go.Proofs.YtogclkhpbjfadaaGreat
open Go.RowKit
set_option linter.unusedVariables false
set_option maxRecDepth 100000

/-- A block whose cells are not written any more. -/
def Frz (b : Nat) (C : Array Value) (T : TypeId) (fz : Nat × Nat) : Asrt := fun w F => F = [b] ∧ w.heap[b]? = some (.cells C T fz)
theorem Frz.framed (b : Nat) (C : Array Value) (T : TypeId) (fz : Nat × Nat) : Framed (Frz b C T fz) :=
  ⟨fun h hk => ⟨h.1, by rw [hk b (by rw [h.1]; simp)]; exact h.2⟩, fun h b' hb => by rw [h.1] at hb; simp at hb; subst hb; exact hp_lt h.2⟩
theorem In.frz {F0 : List Nat} {w0 w : World} {R : List Asrt} (h : In F0 w0 w R) (C : Array Value) (T : TypeId) (fz : Nat × Nat) : In F0 w0 (w.alloc (.cells C T fz)) (Frz w.heap.size C T fz :: R) := by
  obtain ⟨F, hs, hF⟩ := h.star
  have fr := Framed.star h.framed
  refine ⟨fun B hB => ?_, ⟨[w.heap.size] ++ F, ⟨[w.heap.size], F, ⟨rfl, hp_alloc_new⟩, fr.keep hs (fun b hb => hp_alloc_old (fr.lt hs b hb)), ?_, rfl⟩, ?_⟩, h.mod.alloc _⟩
  · rcases List.mem_cons.1 hB with rfl | hB
    · exact Frz.framed _ _ _ _
    · exact h.framed B hB
  · intro b hb hbF
    simp at hb; subst hb
    exact absurd (fr.lt hs _ hbF) (by omega)
  · intro b hb
    simp at hb
    rcases hb with rfl | hb
    · exact Or.inr h.mod.size
    · exact hF b hb
theorem In.fblock {F0 : List Nat} {w0 w : World} {R : List Asrt} (h : In F0 w0 w R) (i : Nat) {b : Nat} {C : Array Value} {T : TypeId} {fz : Nat × Nat} (hA : R[i]? = some (Frz b C T fz)) : w.heap[b]? = some (.cells C T fz) := by
  obtain ⟨F, hF⟩ := h.get i hA
  exact hF.2
def aw1 : DiskD × Option LogD × Int := createD 3 100 (dNew 5000)
def awL : LogD := aw1.2.1.getD default
def aw2 : DL × Int := appendL 1 [120] (aw1.1, awL)
def aw3 : DL × Int := syncL aw2.1
def aw4 : DL × Int := appendL 1 [121] aw3.1
def aw5 : DiskD := dCrash aw4.1.1 [0, 0, 5]
def aw6 : Nat × DiskD × Option LogD × Int := openL countF 100 aw5 0
def lgOkB (l : LogD) : Bool := decide (16 ≤ l.size ∧ l.size ≤ 1048576) && mayM l.m
theorem lgOk_of {l : LogD} (h : lgOkB l = true) : LgOk l := by
  simp only [lgOkB, Bool.and_eq_true, decide_eq_true_eq] at h
  exact ⟨h.1.1, h.1.2, h.2⟩
theorem aw_facts : aw1.2.1.isSome = true ∧ aw1.2.2 = 0 ∧ aw2.2 = 0 ∧ aw3.2 = 0 ∧ aw4.2 = 0 ∧ aw6.2.2.2 = 0 ∧ aw6.1 = 1 ∧ lgOkB awL = true ∧ lgOkB aw2.1.2 = true ∧ lgOkB aw3.1.2 = true ∧ aw1.1.ops ≤ 1000 ∧ aw2.1.1.ops ≤ 1000 ∧ aw3.1.1.ops ≤ 1000 ∧ aw4.1.1.ops ≤ 1000 ∧ aw5.ops ≤ 1000 := by decide +kernel
section
variable {F0 : List Nat} {w0 w : World} {R : List Asrt}
theorem aw_some : aw1.2.1 = some awL := by
  have h := aw_facts.1
  unfold awL
  cases e : aw1.2.1 with
  | none => rw [e] at h; cases h
  | some l => rfl
theorem CreatePost.some {bd : Nat} {r : DiskD × Option LogD × Int} {l : LogD} {e : Ending} {w' : World} (h : CreatePost bd r F0 w0 R e w') (hl : r.2.1 = some l) : ∃ lb, e = .returned (.tuple #[dptr lb, .int .i64 r.2.2]) ∧ In F0 w0 w' (LgA lb bd l :: DkA bd r.1 :: R) := by
  unfold CreatePost at h; rw [hl] at h; exact h
theorem cells_src {g : Nat} {C : Array Value} {T : TypeId} {fz : Nat × Nat} {bs : List UInt8} (i : Nat) {w' : World} (h : In F0 w0 w' R) (hA : R[i]? = some (Frz g C T fz)) (hC : C.toList = u8s bs) : Src w' (some ⟨g, 0, none⟩) bs.length 1 (u8s bs) :=
  ⟨by simp [u8s_length], fun h0 => ⟨_, rfl, fun k u hu => by
    rw [add_at]
    refine cell_of (h.fblock i hA) ?_
    rw [Nat.zero_add, ← hu, ← hC, Array.getElem?_toList]⟩⟩
theorem OpenPost.weak {σ : Type} {Acc : σ → Asrt} {bd : Nat} {r : σ × DiskD × Option LogD × Int} {e : Ending} {w' : World} (h : OpenPost Acc bd r F0 w0 R e w') : ∃ p, e = .returned (.tuple #[p, .int .i64 r.2.2.2]) ∧ In F0 w0 w' (Acc r.1 :: DkA bd r.2.1 :: R) := by
  unfold OpenPost at h
  split at h
  · exact ⟨_, h.1, h.2⟩
  · obtain ⟨lb, h1, h2⟩ := h
    exact ⟨_, h1, h2.drop⟩
set_option maxHeartbeats 8000000 in
theorem o_awake6 (h : In F0 w0 w R) : Calls Tryz.prog 15 #[] w fun e w' => e = .returned (.bool true) ∧ In F0 w0 w' R := by
  obtain ⟨f1, f2, f3, f4, f5, f6, f7, l1, l2, l3, o1, o2, o3, o4, o5⟩ := aw_facts
  have K0 := Lib.hid (o_dnew h 5000 (by omega) (by omega))
  have K1 := Lib.hid (fun bd w' (h' : In F0 w0 w' (DkA bd (dNew 5000) :: R)) => o_create h' (by decide) 3 100)
  have K2 := Lib.hid (fun bd lb g w' (h' : In F0 w0 w' (LgA lb bd awL :: DkA bd aw1.1 :: Frz g #[.int .u8 120] 5 (1, 2) :: R)) => o_append h' (lgOk_of l1) (by omega) 1 (body := [120]) (A := some ⟨g, 0, none⟩) (c := 1) (by decide) (fun w2 h2 => cells_src 0 h2 rfl rfl))
  have K3 := Lib.hid (fun bd lb w' (h' : In F0 w0 w' (LgA lb bd aw2.1.2 :: DkA bd aw2.1.1 :: R)) => o_lsync h' (lgOk_of l2) (by omega))
  have K4 := Lib.hid (fun bd lb g w' (h' : In F0 w0 w' (LgA lb bd aw3.1.2 :: DkA bd aw3.1.1 :: Frz g #[.int .u8 121] 5 (1, 2) :: R)) => o_append h' (lgOk_of l3) (by omega) 1 (body := [121]) (A := some ⟨g, 0, none⟩) (c := 1) (by decide) (fun w2 h2 => cells_src 0 h2 rfl rfl))
  have K5 := Lib.hid (fun bd g w' (h' : In F0 w0 w' (DkA bd aw4.1.1 :: Cells g #[.int .u8 0, .int .u8 0, .int .u8 5] 5 :: R)) => o_dcrash_cells h' (by omega) (p := [0, 0, 5]) 0 rfl rfl (by decide))
  have K6 := Lib.hid (fun bd vb w' (h' : In F0 w0 w' (CountA vb 0 :: DkA bd aw5 :: R)) => o_open (count_each vb) 0 (by omega) h' (by omega) 100)
  simp only [List.length_cons, List.length_nil, Nat.zero_add, Nat.reduceAdd] at K2 K4 K5
  have HH := Lib.hid h
  have E1 := Lib.hid f2
  have E2 := Lib.hid f3
  have E3 := Lib.hid f4
  have E4 := Lib.hid f5
  have E6 := Lib.hid f6
  have E7 := Lib.hid f7
  clear h f1 f2 f3 f4 f5 f6 f7 l1 l2 l3 o1 o2 o3 o4 o5
  go_enter Tryz.func15, Tryz.ntmps15
  go_wp2_with fail
  refine K0.out.mono ?_
  rintro e w1 ⟨bd, rfl, g1⟩
  have C1 := Lib.hid (K1.out bd w1 g1)
  clear g1 K0 K1
  go_wp2_with fail
  refine C1.out.mono ?_
  intro e w2 hp
  obtain ⟨lb, rfl, g2⟩ := hp.some aw_some
  rw [show createD 3 100 (dNew 5000) = aw1 from rfl, E1.out]
  have g3 := g2.frz #[.int .u8 120] 5 (1, 2)
  have kc := Lib.run_convert_bytes_const (P := Tryz.prog) w2 23 5 #[.int .u8 120] 1 1 Tryz.underlying23 Tryz.underlying5
  have C2 := Lib.hid (K2.out bd lb _ _ (g3.sel2 (R1 := [_, _, _]) [1, 2, 0] (by decide) rfl))
  clear g2 g3 hp C1 K2
  go_wp2_with fail
  refine C2.out.mono ?_
  rintro e w3 ⟨rfl, g4⟩
  rw [show (appendL 1 [120] (aw1.1, awL)) = aw2 from rfl, E2.out]
  have C3 := Lib.hid (K3.out bd lb w3 (g4.sel2 (R1 := [_, _, _]) [0, 1] (by decide) rfl))
  clear g4 C2 K3 kc
  go_wp2_with fail
  refine C3.out.mono ?_
  rintro e w4 ⟨rfl, g5⟩
  rw [show syncL (aw2.1.1, aw2.1.2) = aw3 from rfl, E3.out]
  have g6 := g5.frz #[.int .u8 121] 5 (1, 2)
  have kc := Lib.run_convert_bytes_const (P := Tryz.prog) w4 23 5 #[.int .u8 121] 1 1 Tryz.underlying23 Tryz.underlying5
  have C4 := Lib.hid (K4.out bd lb _ _ (g6.sel2 (R1 := [_, _, _]) [1, 2, 0] (by decide) rfl))
  clear g5 g6 C3 K4
  go_wp2_with fail
  refine C4.out.mono ?_
  rintro e w5 ⟨rfl, g7⟩
  rw [show (appendL 1 [121] (aw3.1.1, aw3.1.2)) = aw4 from rfl, E4.out]
  have g8 := (g7.sel2 (R1 := [_, _, _]) [1] (by decide) rfl).cells #[.int .u8 0, .int .u8 0, .int .u8 5] 5
  have C5 := Lib.hid (K5.out bd _ _ (g8.sel2 (R1 := [_, _]) [1, 0] (by decide) rfl))
  clear g7 g8 C4 K5 kc
  go_wp2_with fail
  refine C5.out.mono ?_
  rintro e w6 ⟨rfl, g9⟩
  have g10 := (g9.sel2 (R1 := [_, _]) [0] (by decide) rfl).cells #[.int .i64 0] 3
  have C6 := Lib.hid (K6.out bd _ _ g10)
  clear g9 g10 C5 K6
  go_wp2_with fail
  refine C6.out.mono ?_
  intro e w7 hp
  obtain ⟨p, rfl, g11⟩ := hp.weak
  rw [show openL countF 100 aw5 0 = aw6 from rfl] at g11 ⊢
  rw [E6.out]
  rw [E7.out] at g11
  have c0 : w7.cell? ⟨w6.heap.size, 0, none⟩ = some (.int .i64 1) := cell_of (g11.block 0 rfl) rfl
  have G := Lib.hid g11.drop.drop
  clear g11 hp C6
  go_wp2_with fail
  go_ret
  exact ⟨rfl, G.out⟩
end
end Go.Proofs.YtogclkhpbjfadaaGreat
