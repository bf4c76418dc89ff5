/- Rows.PathPlaysSaid -/
import Derived.Test.YtgapbecddgfkmaaGreatPY9
import Derived.Test.YtgapbecddgfkmaaGreatPY12
import Derived.Test.YtgapbecddgfkmaaGreatPY13
import Derived.Test.YtgapbecddgfkmaaGreatPY16
import Derived.Test.YtgapbecddgfkmaaGreatPY17
import Derived.Test.YtgapbecddgfkmaaGreatPY10
import Derived.StillTailTactics
import Derived.Test.YtgapbecddgfkmaaGreatPY8
namespace Go.Proofs.YtgapbecddgfkmaaGreat
open Go.RowKit
set_option linter.unusedVariables false
set_option maxHeartbeats 64000000
set_option maxRecDepth 100000
theorem zT0_wf : WfT zT0 := ⟨by decide, by decide, by decide, by decide, by decide, by decide, by decide, by decide, by decide, by decide⟩
theorem within_wf (b : List UInt8) : WfT (withinD b).1 := by
  have hz : ∀ c, WfT (withinOf (zH, [], c)).1 := fun c => by
    unfold withinOf
    dsimp only
    split
    · exact zT0_wf
    · split
      · exact zT0_wf
      · split
        · rename_i h; exact absurd h (by decide)
        · split
          · rename_i h; exact absurd h (by decide)
          · exact zT0_wf
  have h1 := p32_lt b 12
  have h2 := p32_lt b 16
  unfold withinD parseD
  split
  · exact hz _
  split
  · exact hz _
  split
  · exact hz _
  split
  · exact hz _
  split
  · exact hz _
  split
  · exact hz _
  split
  · exact hz _
  generalize (b.take (p16 b 2)).drop (4 * (byN b 0 % 16)) = rest
  have h3 := p16_lt rest 0
  have h4 := p16_lt rest 2
  unfold withinOf
  dsimp only
  split
  · exact zT0_wf
  split
  · exact zT0_wf
  have hs : (readH b).src = (p32 b 12 : Nat) := rfl
  have hd : (readH b).dst = (p32 b 16 : Nat) := rfl
  split
  · rename_i hp
    split
    · rw [hs, hd, hp]
      constructor <;> dsimp only <;> omega
    · exact zT0_wf
  split
  · rename_i hp
    split
    · rw [hs, hd, hp]
      constructor <;> dsimp only <;> omega
    · exact zT0_wf
  · exact zT0_wf
theorem find_mem {l : List Bk} {id : Int} {b : Bk} (h : findBk l id = some b) : b ∈ l := List.mem_of_find?_eq_some h
theorem pick_mem {c : ChD} {k : Tup} {b : Bk} (h : pickCh c k = some b) : b ∈ c.l := by
  unfold pickCh at h
  split at h
  · exact find_mem h
  · cases h
theorem choice_eq (L : List Fl) (ch : ChD) (k : Tup) : choiceD L ch k = if (atF L k).isSome = true ∧ (findBk ch.l ((atF L k).getD zF).bk).isSome = true then findBk ch.l ((atF L k).getD zF).bk else pickCh ch k := by
  unfold choiceD
  cases atF L k with
  | none => simp
  | some f =>
    simp only [Option.getD_some, Option.isSome_some, true_and]
    cases findBk ch.l f.bk with
    | none => simp
    | some b => simp
theorem choice_mem {L : List Fl} {ch : ChD} {k : Tup} {b : Bk} (h : choiceD L ch k = some b) : b ∈ ch.l := by
  rw [choice_eq] at h
  split at h
  · exact find_mem h
  · exact pick_mem h
def pktOf (most : Int) (L : List Fl) (k : Tup) (why : Int) (co : Option Bk) (wf : Bk → List UInt8 × Int) (gen now : Int) (kn : Bool) (was : Int) (en : Bool) : PlanD × List Fl :=
  if why ≠ 0 then (dropP why, L)
  else match co with
    | none => (dropP 10, L)
    | some be =>
      if (wf be).2 ≠ 0 then (dropP (wf be).2, L)
      else (⟨2, 0, be.id, (wf be).1, (keepD most L ⟨k, be.id, gen, now⟩ kn was en).1⟩, (keepD most L ⟨k, be.id, gen, now⟩ kn was en).2)
theorem pkt_of {self mtu most : Int} {L : List Fl} {c : ChD} {gen now : Int} {b : List UInt8} (h : 0 ≤ now ∧ now ≤ 1099511627776) :
    pktD self mtu most L c gen now b = pktOf most L (withinD b).1 (withinD b).2.2.2 (choiceD L c (withinD b).1) (fun be => wrapD b self be.addr mtu) gen now (atF L (withinD b).1).isSome (wasD L (withinD b).1) (endsD (withinD b).1 b) := by
  unfold pktD pktOf
  rw [if_pos h]
  cases choiceD L c (withinD b).1 <;> rfl
abbrev plC (v r bk : Int) (vp vr : Value) : Array Value := #[.int .i64 v, .int .i64 r, .int .i64 bk, vp, vr]
abbrev planV (p : PlanD) (vp vr : Value) : Value := .agg (plC p.verdict p.reason p.bk vp vr)
theorem plC_all (v r bk : Int) (a1 a2 : Option Addr) (n1 n2 c1 c2 : Nat) : (plC v r bk (.slice a1 n1 c1) (.slice a2 n2 c2)).all (·.oneCell') = true := by simp [Value.oneCell']
section
variable {F0 : List Nat} {w0 w : World} {R : List Asrt}
theorem Bytes.moreL {A : Option Addr} {n : Nat} {b : List UInt8} (hb : Bytes F0 w0 R A n b) : ∀ X : List Asrt, Bytes F0 w0 (X ++ R) A n b
  | [] => hb
  | Y :: X => (Bytes.moreL hb X).more Y
theorem pa_drop (why : Int) (w : World) : Calls Tryz.prog 40 #[.int .i64 why] w fun e w' => e = .returned (planV (dropP why) (.slice none 0 0) (.slice none 0 0)) ∧ w' = w.alloc (.cells (plC 1 why 0 (.slice none 0 0) (.slice none 0 0)) 43) := by
  go_enter Tryz.func40, Tryz.ntmps40
  go_wp2_with fail
  exact bodyPost_ret (results_cell_row Tryz.results40 _ _ w.heap.size 43 _ (0, 0) _ rfl (heap_alloc_new _ _) Tryz.underlying43 rfl (by kernel_rfl)) rfl ⟨rfl, rfl⟩
end
section
variable {P : Program} {Q : Exit → Act → World → Prop} {S : World → Prop} {l : List Oper}
def twoB (l : List Oper) (i j : Nat) (listed : Array Bool) : Bool := decide (Region.ready .any l.toArray listed = [i, j]) && (decide (i + 1 < l.toArray.size) && decide (j + 1 < l.toArray.size))
def EArm (P : Program) (l : List Oper) (Q : Exit → Act → World → Prop) (S : World → Prop) (fuel : Nat) (listed : Array Bool) (i : Nat) (o : Oper) (a : Act) (w : World) : Prop :=
  ∀ K' : Act → World → Prop, Shut (∀ a w, S w → (S w → EAt P l Q S fuel (listed.setIfInBounds i true) a w) → K' a w) → if Region.wanted o (yielded l.toArray a.tmps) = true then Oper.wp P o a w K' Q else K' (a.put o.dst undef) w
theorem e_two {i j : Nat} {oi oj : Oper} {fuel : Nat} {listed : Array Bool} {a : Act} {w : World} (hi : l[i]? = some oi) (hj : l[j]? = some oj) (hc : twoB l i j listed = true)
    (h1 : EArm P l Q S fuel listed i oi a w) (h2 : EArm P l Q S fuel listed j oj a w) : EAt P l Q S (fuel + 1) listed a w := by
  simp only [twoB, Bool.and_eq_true, decide_eq_true_eq] at hc
  obtain ⟨hc0, hci, hcj⟩ := hc
  have arm : ∀ (x : Nat) (o : Oper), l[x]? = some o → x + 1 < l.toArray.size → x ∈ Region.ready .any l.toArray listed → EArm P l Q S fuel listed x o a w → HeadInv .any l.toArray (l.toArray.size - 1) listed →
      wpOp P l.toArray Q x (fun a' w' => (x + 1 < l.toArray.size → S w') ∧ wpAnyE P .any l.toArray Q S fuel (listed.setIfInBounds x true) a' w') a w := by
    intro x o hx hxs hr h inv
    have hx' : l.toArray[x]? = some o := by simpa using hx
    have := h (fun a' w' => (x + 1 < l.toArray.size → S w') ∧ wpAnyE P .any l.toArray Q S fuel (listed.setIfInBounds x true) a' w') (fun a w hS hn => ⟨fun _ => hS, hn hS (inv.set hr (by omega))⟩)
    unfold wpOp
    simp only [hx']
    by_cases hwd : Region.wanted o (yielded l.toArray a.tmps) = true
    · rw [if_pos hwd] at this ⊢; exact Or.inl this
    · rw [if_neg hwd] at this ⊢; exact this
  intro inv
  refine ⟨fun h0 => (by rw [hc0] at h0; cases h0), fun x hx => ?_⟩
  have hr := hx
  rw [hc0] at hx
  rcases List.mem_cons.1 hx with rfl | hx
  · exact arm x oi hi hci hr h1 inv
  · obtain rfl : x = j := by simpa using hx
    exact arm x oj hj hcj hr h2 inv
end
section
variable {P : Program} {Q : Exit → Act → World → Prop} {S : World → Prop} {l : List Oper}
def threeB (l : List Oper) (i j k : Nat) (listed : Array Bool) : Bool := decide (Region.ready .any l.toArray listed = [i, j, k]) && (decide (i + 1 < l.toArray.size) && (decide (j + 1 < l.toArray.size) && decide (k + 1 < l.toArray.size)))
end
theorem exec_load_row {P : Program} {o : Oper} {a : Act} {w : World} (ty : TypeId) (x : Operand) (ho : o.op = .load ty x)
    (g : Nat) (hx : a.eval x = .pointer (some ⟨g, 0, none⟩)) (t : TypeId) (cs : Array Value) (fr : Nat × Nat) (d : TypeDesc) (hg : w.heap[g]? = some (.cells cs t fr))
    (hu : P.underlying ty = some d) (hd : (match d with | .struct _ | .array _ _ => true | _ => false) = true) (hi : (P.info? ty).map (·.size) = some cs.size) : (execOp a.eval o).run P w = .ok (.value (.agg cs)) w := by
  unfold execOp
  simp only [ho, hx, Instr.loadAt, Instr.sureAddr, Sem.run_bind, Sem.run_pure, Result.andThen_ok, run_loadVar_row w g t ty cs fr d hg hu hd hi]
section
variable {F0 : List Nat} {w0 w : World} {R : List Asrt}
abbrev rC (k0 k1 k2 k3 k4 bk gen seen : Int) : Array Value := #[.int .i64 1, .int .u32 k0, .int .u32 k1, .int .i64 k2, .int .i64 k3, .int .i64 k4, .int .i64 bk, .int .i64 gen, .int .i64 seen, .int .i64 0, .slice none 0 0, .int .i64 0, .int .i64 0, .int .i64 0]
theorem rC_all (k0 k1 k2 k3 k4 bk gen seen : Int) : (rC k0 k1 k2 k3 k4 bk gen seen).all (·.oneCell') = true := by simp [Value.oneCell']
theorem o_plain1 (k0 k1 k2 k3 k4 bk gen seen : Int) (h : In F0 w0 w R) : Calls Tryz.prog 45 #[.agg (rC k0 k1 k2 k3 k4 bk gen seen)] w fun e w' => e = .returned (.agg (rC k0 k1 k2 k3 k4 bk gen seen)) ∧ In F0 w0 w' R := by
  have HH := Lib.hid h
  clear h
  go_enter Tryz.func45, Tryz.ntmps45
  go_wp2_with fail
  exact bodyPost_ret (results_cell_row Tryz.results45 _ _ (w.heap.size + 1) 54 _ (0, 0) _ rfl (heap3_mid w _ _ _) Tryz.underlying54 rfl (by kernel_rfl)) rfl ⟨rfl, ((HH.out.alloc _).alloc _).alloc _⟩
theorem o_samebk0 (w : World) : Calls Tryz.prog 46 #[.slice none 0 0, .slice none 0 0] w fun e w' => e = .returned (.bool true) ∧ w' = w := by
  go_enter Tryz.func46, Tryz.ntmps46
  go_wp2_with fail
  go_loopw [13] (fun v wr => v = .int .i64 0 ∧ wr = w) (fun _ _ => 0)
  case atStart => exact ⟨rfl, rfl⟩
  case round =>
    obtain ⟨rfl, rfl⟩ := hrel
    go_wp2_with fail
    go_ret
    exact ⟨rfl, rfl⟩
theorem o_samerec (k0 k1 k2 k3 k4 bk gen seen : Int) (h : In F0 w0 w R) : Calls Tryz.prog 15 #[.agg (rC k0 k1 k2 k3 k4 bk gen seen), .agg (rC k0 k1 k2 k3 k4 bk gen seen)] w fun e w' => e = .returned (.bool true) ∧ In F0 w0 w' R := by
  have h1 := (h.cells (rC k0 k1 k2 k3 k4 bk gen seen) 54).cells (rC k0 k1 k2 k3 k4 bk gen seen) 54
  rw [World.size_alloc] at h1
  have KP := Lib.hid (fun w' (R' : List Asrt) (h' : In F0 w0 w' R') => o_plain1 k0 k1 k2 k3 k4 bk gen seen h')
  have KB := Lib.hid o_samebk0
  have HD := Lib.hid (h1.drewN 1)
  clear h h1
  go_enter Tryz.func15, Tryz.ntmps15
  go_upto_region 1 with fail
  generalize hC : rC k0 k1 k2 k3 k4 bk gen seen = C at *
  generalize w.heap.size = g at *
  have hsz : C.size = 14 := by rw [← hC]; rfl
  have hinf : (Tryz.prog.info? 54).map (·.size) = some C.size := by rw [hsz]; kernel_rfl
  have hall : C.all (·.oneCell') = true := by rw [← hC]; exact rC_all _ _ _ _ _ _ _ _
  refine e_start (fun w' => w'.heap[g]? = some (.cells C 54 (0, 0)) ∧ w'.heap[g + 1]? = some (.cells C 54 (0, 0))) (by kernel_rfl) ⟨HD.out.block 1 rfl, HD.out.block 0 rfl⟩ (fun hS => ?_)
  refine e_take (i := 0) (v := .agg C) rfl (by kernel_rfl) (fun _ _ _ h => h) (by rfl) (fun w hSw => exec_load_row 54 (.tmp 2) rfl g rfl 54 C (0, 0) _ hSw.1 Tryz.underlying54 rfl hinf) hS ?_
  try simp only [Act.put, List.setIfInBounds_toArray, List.set_cons_zero, List.set_cons_succ]
  refine e_take (i := 2) (v := .agg C) rfl (by kernel_rfl) (fun _ _ _ h => h) (by rfl) (fun w hSw => exec_load_row 54 (.tmp 3) rfl (g + 1) rfl 54 C (0, 0) _ hSw.2 Tryz.underlying54 rfl hinf) hS ?_
  try simp only [Act.put, List.setIfInBounds_toArray, List.set_cons_zero, List.set_cons_succ]
  refine e_pin (i := 1) rfl (by kernel_rfl) (fun K' hK => ?_)
  go_simp
  go_at_call 45
  have KP1 := KP.out _ _ HD.out
  refine KP1.mono ?_
  rintro e w3 ⟨rfl, ho3⟩
  have HO3 := Lib.hid ho3
  clear hS
  refine hK.out _ _ ⟨HO3.out.block 1 rfl, HO3.out.block 0 rfl⟩ (fun hS => ?_)
  clear hK K' ho3 KP1
  try simp only [Act.put, List.setIfInBounds_toArray, List.set_cons_zero, List.set_cons_succ]
  refine e_pin (i := 3) rfl (by kernel_rfl) (fun K' hK => ?_)
  go_simp
  go_at_call 45
  have KP1 := KP.out _ _ HO3.out
  refine KP1.mono ?_
  rintro e w4 ⟨rfl, ho4⟩
  have HO4 := Lib.hid ho4
  have h5 := ho4.setFull 1 rfl (xs := C.toList) (b := g) (C := C) (T := 54) (by simp)
  have h6 := h5.setFull 0 rfl (xs := C.toList) (b := g + 1) (C := C) (T := 54) (by simp)
  simp only [Array.toArray_toList] at h5 h6
  have HO5 := Lib.hid h5
  have HO6 := Lib.hid h6
  clear hS
  refine hK.out _ _ ⟨HO4.out.block 1 rfl, HO4.out.block 0 rfl⟩ (fun hS => ?_)
  clear hK K' ho4 KP1 h5 h6
  try simp only [Act.put, List.setIfInBounds_toArray, List.set_cons_zero, List.set_cons_succ]
  refine e_pin (i := 4) rfl (by kernel_rfl) (fun K' hK => ?_)
  refine store_step (by rfl) 54 (.tmp 2) (.tmp 6) (by rfl) g 0 C (by rfl) (by rfl) (there_of (HO4.out.block 1 rfl)) hinf hall ?_
  clear hS
  refine hK.out _ _ ⟨HO5.out.block 1 rfl, HO5.out.block 0 rfl⟩ (fun hS => ?_)
  clear hK K'
  try simp only [Act.put, List.setIfInBounds_toArray, List.set_cons_zero, List.set_cons_succ]
  refine e_last (i := 5) rfl (by kernel_rfl) (fun K' hK => ?_)
  refine store_step (by rfl) 54 (.tmp 3) (.tmp 8) (by rfl) (g + 1) 0 C (by rfl) (by rfl) (there_of (HO5.out.block 0 rfl)) hinf hall ?_
  refine hK.out _ _ ?_
  clear hK K' hS
  generalize ((w4.setCells g 0 C.toList).setCells (g + 1) 0 C.toList) = W2 at *
  have h2 : In F0 w0 W2 (Cells (g + 1) (rC k0 k1 k2 k3 k4 bk gen seen) 54 :: Cells g (rC k0 k1 k2 k3 k4 bk gen seen) 54 :: R) := by rw [hC]; exact HO6.out
  have p0 : W2.cell? ⟨g, 0, none⟩ = some (.int .i64 1) := cell_of (h2.block 1 rfl) rfl
  have p1 : W2.cell? ⟨g, 1, none⟩ = some (.int .u32 k0) := cell_of (h2.block 1 rfl) rfl
  have p2 : W2.cell? ⟨g, 2, none⟩ = some (.int .u32 k1) := cell_of (h2.block 1 rfl) rfl
  have p3 : W2.cell? ⟨g, 3, none⟩ = some (.int .i64 k2) := cell_of (h2.block 1 rfl) rfl
  have p4 : W2.cell? ⟨g, 4, none⟩ = some (.int .i64 k3) := cell_of (h2.block 1 rfl) rfl
  have p5 : W2.cell? ⟨g, 5, none⟩ = some (.int .i64 k4) := cell_of (h2.block 1 rfl) rfl
  have p6 : W2.cell? ⟨g, 6, none⟩ = some (.int .i64 bk) := cell_of (h2.block 1 rfl) rfl
  have p7 : W2.cell? ⟨g, 7, none⟩ = some (.int .i64 gen) := cell_of (h2.block 1 rfl) rfl
  have p8 : W2.cell? ⟨g, 8, none⟩ = some (.int .i64 seen) := cell_of (h2.block 1 rfl) rfl
  have p9 : W2.cell? ⟨g, 9, none⟩ = some (.int .i64 0) := cell_of (h2.block 1 rfl) rfl
  have p10 : W2.cell? ⟨g, 10, none⟩ = some (.slice none 0 0) := cell_of (h2.block 1 rfl) rfl
  have p11 : W2.cell? ⟨g, 11, none⟩ = some (.int .i64 0) := cell_of (h2.block 1 rfl) rfl
  have p12 : W2.cell? ⟨g, 12, none⟩ = some (.int .i64 0) := cell_of (h2.block 1 rfl) rfl
  have p13 : W2.cell? ⟨g, 13, none⟩ = some (.int .i64 0) := cell_of (h2.block 1 rfl) rfl
  have q0 : W2.cell? ⟨g + 1, 0, none⟩ = some (.int .i64 1) := cell_of (h2.block 0 rfl) rfl
  have q1 : W2.cell? ⟨g + 1, 1, none⟩ = some (.int .u32 k0) := cell_of (h2.block 0 rfl) rfl
  have q2 : W2.cell? ⟨g + 1, 2, none⟩ = some (.int .u32 k1) := cell_of (h2.block 0 rfl) rfl
  have q3 : W2.cell? ⟨g + 1, 3, none⟩ = some (.int .i64 k2) := cell_of (h2.block 0 rfl) rfl
  have q4 : W2.cell? ⟨g + 1, 4, none⟩ = some (.int .i64 k3) := cell_of (h2.block 0 rfl) rfl
  have q5 : W2.cell? ⟨g + 1, 5, none⟩ = some (.int .i64 k4) := cell_of (h2.block 0 rfl) rfl
  have q6 : W2.cell? ⟨g + 1, 6, none⟩ = some (.int .i64 bk) := cell_of (h2.block 0 rfl) rfl
  have q7 : W2.cell? ⟨g + 1, 7, none⟩ = some (.int .i64 gen) := cell_of (h2.block 0 rfl) rfl
  have q8 : W2.cell? ⟨g + 1, 8, none⟩ = some (.int .i64 seen) := cell_of (h2.block 0 rfl) rfl
  have q9 : W2.cell? ⟨g + 1, 9, none⟩ = some (.int .i64 0) := cell_of (h2.block 0 rfl) rfl
  have q10 : W2.cell? ⟨g + 1, 10, none⟩ = some (.slice none 0 0) := cell_of (h2.block 0 rfl) rfl
  have q11 : W2.cell? ⟨g + 1, 11, none⟩ = some (.int .i64 0) := cell_of (h2.block 0 rfl) rfl
  have q12 : W2.cell? ⟨g + 1, 12, none⟩ = some (.int .i64 0) := cell_of (h2.block 0 rfl) rfl
  have q13 : W2.cell? ⟨g + 1, 13, none⟩ = some (.int .i64 0) := cell_of (h2.block 0 rfl) rfl
  have G := Lib.hid h2.drop.drop
  have KB2 := Lib.hid (KB.out W2)
  clear h2 HO3 HO4 HO5 HO6 HD KP KB hinf hall hsz hC
  go_wp2_with fail
  refine KB2.out.mono ?_
  rintro e w5 ⟨rfl, rfl⟩
  clear KB2
  go_wp2_with fail
  go_ret
  exact ⟨rfl, G.out⟩
end
theorem r1_folded {s : Nat} (hs : s < 4294967296) (w : World) : Calls Tryz.prog 137 #[.int .u32 s] w fun e w' => e = .returned (.int .u32 (foldN s)) ∧ w' = w := by
  have HS := Lib.hid hs
  clear hs
  go_enter Tryz.func137, Tryz.ntmps137
  go_wp2_with fail
  go_loop [0] (FoldRel s) (fun v => (intOf v).toNat)
  case atStart => exact ⟨s, rfl, HS.out, rfl⟩
  case round =>
    obtain ⟨r, rfl, hr, he⟩ := hrel
    by_cases hlt : 65535 < r
    · have q1 : (65535 : Int) < (r : Int) := by omega
      have q2 := and_low hr
      have HE := Lib.hid he
      have HR := Lib.hid (And.intro hr hlt)
      clear he hr hlt
      go_wp2_with fail
      go_round
      case rel => exact ⟨r / 65536 + r % 65536, by have := HR.out; go_num, by have := HR.out; omega, by rw [foldN_step]; exact HE.out⟩
      case measure =>
        obtain ⟨h1, h2⟩ := HR.out
        show (((r : Int) / 65536 + (r : Int) % 65536) % 4294967296).toNat < (r : Int).toNat
        rw [Int.emod_eq_of_lt (by omega) (by omega)]; omega
    · have q1 : (r : Int) ≤ 65535 := by omega
      have HE : Hid (foldN s = r) := Lib.hid (by rw [← he]; exact foldN_id (by omega))
      clear he hr hlt
      go_wp2_with fail
      go_ret
      exact ⟨by rw [HE.out]; rfl, rfl⟩
theorem r1_part {w : World} {A : Option Addr} {bs : List UInt8} {c s : Nat} (h : Src w A bs.length 1 (u8s bs)) (hl : bs.length ≤ 100000000) (hs : s < 4294967296) :
    Calls Tryz.prog 106 #[.int .u32 s, .slice A bs.length c] w fun e w' => e = .returned (.int .u32 (foldN (s + words bs))) ∧ w' = w := by
  have H := Lib.hid h
  have K := Lib.hid (fun n (hn : n < 4294967296) => r1_folded hn w)
  have HS := Lib.hid (r1_folded hs w)
  clear h hs
  go_enter Tryz.func106, Tryz.ntmps106
  go_wp2_with fail
  refine HS.out.mono ?_
  rintro e w1 ⟨rfl, rfl⟩
  clear HS
  go_wp2_with fail
  go_loop [0, 5] (PartRel s bs) (fun _ k => bs.length + 1 - (intOf k).toNat)
  case atStart => exact ⟨0, rfl, by omega, rfl, by simp [words]⟩
  case round =>
    obtain ⟨i, hi2, hi, rfl, rfl⟩ := hrel
    have hb := foldN_le (s + words (bs.take i))
    have HA : Hid (∀ n, foldN (foldN (s + words (bs.take i)) + n) = foldN (s + (words (bs.take i) + n))) := Lib.hid fun n => by rw [foldN_add, Nat.add_assoc]
    by_cases hlt : i < bs.length
    · obtain ⟨x, hx, hxe⟩ := get_of_lt hlt
      obtain ⟨g, o, rfl, hc⟩ := H.out.plain (by omega) (by decide)
      have c0 := hc i _ (u8s_get hlt)
      have hlt' : (i : Int) < (bs.length : Int) := by omega
      have hxl := byN_lt bs i
      have w1 : wrap64 ((i : Int) + 1) = (i : Int) + 1 := by unfold wrap64; omega
      have w2 : wrap64 ((i : Int) + 2) = (i : Int) + 2 := by unfold wrap64; omega
      by_cases hl2 : i + 1 < bs.length
      · obtain ⟨y, hy, hye⟩ := get_of_lt hl2
        have c1 := hc (i + 1) _ (u8s_get hl2)
        have hyl := byN_lt bs (i + 1)
        have HX : Hid (words (bs.take (i + 2)) = words (bs.take i) + (byN bs i * 256 + byN bs (i + 1))) := Lib.hid (by rw [words_take2 hi2 hx hy, hxe, hye])
        have hl2' : (i : Int) + 1 < (bs.length : Int) := by omega
        clear hx hxe hy hye hc
        generalize byN bs i = x at *
        generalize byN bs (i + 1) = y at *
        have q1 : IntKind.u32.wrap ((x : Int) * 256) = (x : Int) * 256 := u32_small (by omega) (by omega)
        have q2 := or_pair hxl hyl
        have HB := Lib.hid (HA.out (x * 256 + y))
        generalize foldN (s + words (bs.take i)) = f at *
        have q3 : IntKind.u32.wrap ((f : Int) + ((x * 256 + y : Nat) : Int)) = ((f + (x * 256 + y) : Nat) : Int) := by rw [u32_small (by omega) (by omega)]; omega
        have K2 := Lib.hid (K.out (f + (x * 256 + y)) (by omega))
        clear HA K
        go_wp2_with fail
        refine K2.out.mono ?_
        rintro e w1 ⟨rfl, rfl⟩
        clear K2
        go_wp2_with fail
        go_round
        case rel => exact ⟨i + 2, by omega, by omega, by go_num, by rw [HB.out, HX.out]⟩
        case measure => simp [intOf]; omega
      · have HX : Hid (words (bs.take (i + 2)) = words (bs.take i) + byN bs i * 256) := Lib.hid (by rw [words_take1 hi2 hx (by omega), hxe])
        have hl2' : (bs.length : Int) ≤ (i : Int) + 1 := by omega
        clear hx hxe hc hl2
        generalize byN bs i = x at *
        have q1 : IntKind.u32.wrap ((x : Int) * 256) = (x : Int) * 256 := u32_small (by omega) (by omega)
        have HB := Lib.hid (HA.out (x * 256))
        generalize foldN (s + words (bs.take i)) = f at *
        have q3 : IntKind.u32.wrap ((f : Int) + (x : Int) * 256) = ((f + x * 256 : Nat) : Int) := by rw [u32_small (by omega) (by omega)]; omega
        have K2 := Lib.hid (K.out (f + x * 256) (by omega))
        clear HA K
        go_wp2_with fail
        refine K2.out.mono ?_
        rintro e w1 ⟨rfl, rfl⟩
        clear K2
        go_wp2_with fail
        go_round
        case rel => exact ⟨i + 2, by omega, by omega, by go_num, by rw [HB.out, HX.out]⟩
        case measure => simp [intOf]; omega
    · have HE : Hid (foldN (s + words bs) = foldN (s + words (bs.take i))) := Lib.hid (by rw [take_all2 hlt])
      have hge : (bs.length : Int) ≤ (i : Int) := by omega
      clear HA hlt
      generalize foldN (s + words (bs.take i)) = f at *
      go_wp2_with fail
      go_ret
      exact ⟨by rw [HE.out]; rfl, rfl⟩
theorem r1_fold {s : Nat} (hs : s < 4294967296) (w : World) : Calls Tryz.prog 105 #[.int .u32 s] w fun e w' => e = .returned (.int .u16 ((65535 - foldN s : Nat) : Int)) ∧ w' = w := by
  have HS := Lib.hid (r1_folded hs w)
  have hb := not16 (foldN_le s)
  have hw16 : IntKind.u16.wrap ((foldN s : Nat) : Int) = ((foldN s : Nat) : Int) := u16_small (foldN_le s)
  have HE : Hid (∀ v : Int, v = ((65535 - foldN s : Nat) : Int) → Ending.returned (.int .u16 v) = .returned (.int .u16 ((65535 - foldN s : Nat) : Int))) := Lib.hid fun v h => by rw [h]
  clear hs
  go_enter Tryz.func105, Tryz.ntmps105
  go_wp2_with fail
  refine HS.out.mono ?_
  rintro e w1 ⟨rfl, rfl⟩
  clear HS
  go_wp2_with fail
  go_ret
  exact ⟨rfl, rfl⟩
theorem r1_net {w : World} {A : Option Addr} {bs : List UInt8} {c : Nat} (h : Src w A bs.length 1 (u8s bs)) (hl : bs.length ≤ 100000000) :
    Calls Tryz.prog 72 #[.slice A bs.length c] w fun e w' => e = .returned (.int .u16 (netN bs)) ∧ w' = w := by
  have K := Lib.hid (r1_part (c := c) (s := 0) h hl (by omega))
  rw [Nat.zero_add] at K
  have K2 := Lib.hid (fun w => r1_fold (s := foldN (words bs)) (by have := foldN_le (words bs); omega) w)
  have HE : Hid (netN bs = 65535 - foldN (foldN (words bs))) := Lib.hid (by rw [foldN_id (foldN_le _)]; rfl)
  clear h hl
  go_enter Tryz.func72, Tryz.ntmps72
  go_wp2_with fail
  refine K.out.mono ?_
  rintro e w1 ⟨rfl, rfl⟩
  go_wp2_with fail
  refine (K2.out _).mono ?_
  rintro e w1 ⟨rfl, rfl⟩
  clear K K2
  go_wp2_with fail
  go_ret
  exact ⟨by rw [HE.out]; rfl, rfl⟩
section
variable {F0 : List Nat} {w0 w : World} {R : List Asrt} {rb : Nat} {bs : List UInt8}
abbrev RrC (rb : Nat) (A : Option Addr) (m c : Nat) : Asrt := Cells rb #[.slice A m c, .int .i64 0] 163
def RrPost (v : Value → Prop) (rb : Nat) (A : Option Addr) (m c : Nat) (F0 : List Nat) (w0 : World) (R : List Asrt) (e : Ending) (w' : World) : Prop := ∃ u, e = .returned u ∧ v u ∧ In F0 w0 w' (RrC rb A m c :: R)
theorem o_rrraw {g o c n : Nat} (hs : Src w (some ⟨g, o, none⟩) bs.length 1 (u8s bs)) (hn : n ≤ bs.length) (hc : bs.length ≤ c) (hm : c ≤ maxLen) (h8 : n ≤ 8) (h : In F0 w0 w (RrC rb (some ⟨g, o, none⟩) bs.length c :: R)) :
    Calls Tryz.prog 156 #[.pointer (some ⟨rb, 0, none⟩), .int .i64 n] w fun e w' => ∃ a k, e = .returned (.slice a n k) ∧ In F0 w0 w' (ByR (.slice a n k) (bs.take n) :: RrC rb (sufA (some ⟨g, o, none⟩) c n 1) (bs.length - n) (c - n) :: R) := by
  have hb := h.block 0 rfl
  have c0 : w.cell? ⟨rb, 0, none⟩ = some (.slice (some ⟨g, o, none⟩) bs.length c) := cell_of hb rfl
  have c1 : w.cell? ⟨rb, 1, none⟩ = some (.int .i64 0) := cell_of hb rfl
  have hg : decide ((n : Int) > (bs.length : Int)) = false := decide_eq_false (by omega)
  have hg2 : ¬ ((bs.length : Int) < (n : Int)) := by omega
  have hl0 : ¬ ((n : Int) < 0) := by omega
  have H := Lib.hid h
  have HS : Hid (Src w (some ⟨g, o, none⟩) n 1 (u8s (bs.take n))) := Lib.hid (src_take hs rfl hn)
  have hlt : (bs.take n).length = n := by rw [List.length_take]; omega
  have HL := Lib.hid hlt
  have hpre : ∀ w, (Instr.slice 35 (.slice (some ⟨g, o, none⟩) bs.length c) none (some (.int .i64 n)) none).run Tryz.prog w = .ok (.slice (some ⟨g, o, none⟩) n c) w := fun w => run_pre_at g o bs.length c n (by omega) w
  have hsuf : ∀ w, (Instr.slice 35 (.slice (some ⟨g, o, none⟩) bs.length c) (some (.int .i64 n)) none none).run Tryz.prog w = .ok (.slice (sufA (some ⟨g, o, none⟩) c n 1) (bs.length - n) (c - n)) w := fun w => run_suffix Tryz.underlying35 infoByte _ _ _ _ (by omega) w
  have h0 := h.rownil 5 1
  have H0 := Lib.hid h0
  have hnn : n ≤ 8 := h8
  clear h h0 hb hs hn hc hm h8 hlt
  go_enter Tryz.func156, Tryz.ntmps156
  go_wp2_with (at_builtin; refine app_list rfl H0.out 0 rfl (.const (.slice none 0 0)) (.tmp 33) 35 (by rfl) Tryz.underlying35 infoByte (by decide) (by decide) (by rfl) (by rfl) HS.out (u8s_one _) (by omega) ?_)
  intro v' w3 ho hg
  have h3 : In F0 w0 w3 (RowA 5 1 v' n (u8s (bs.take n)) :: RrC rb (some ⟨g, o, none⟩) bs.length c :: R) := by simpa using ho
  obtain ⟨F3, r3⟩ := h3.get 0 rfl
  obtain ⟨a3, k3, rfl, -, -, -⟩ := RowA.shape r3
  have d0 : w3.cell? ⟨rb, 0, none⟩ = some (.slice (some ⟨g, o, none⟩) bs.length c) := cell_of (h3.block 1 rfl) rfl
  have f0 : w3.frozen? ⟨rb, 0, none⟩ = false := free_of (h3.block 1 rfl)
  have G := Lib.hid (h3.put 1 rfl 0 (.slice (sufA (some ⟨g, o, none⟩) c n 1) (bs.length - n) (c - n)))
  clear ho hg h3 r3 H H0 HS
  generalize hse : sufA (some ⟨g, o, none⟩) c n 1 = sa at *
  have HSE := Lib.hid hse
  clear hse
  go_wp2_with fail
  go_ret
  refine ⟨a3, k3, rfl, ?_⟩
  have := G.out
  unfold ByR
  rw [HL.out, HSE.out]
  exact this
theorem o_rrnum {g o c n : Nat} (hs : Src w (some ⟨g, o, none⟩) bs.length 1 (u8s bs)) (hn : n ≤ bs.length) (hc : bs.length ≤ c) (hm : c ≤ maxLen) (h8 : n ≤ 8) (h : In F0 w0 w (RrC rb (some ⟨g, o, none⟩) bs.length c :: R)) :
    Calls Tryz.prog 135 #[.pointer (some ⟨rb, 0, none⟩), .int .i64 n] w fun e w' => e = .returned (.int .u64 (num (bs.take n))) ∧ In F0 w0 w' (RrC rb (sufA (some ⟨g, o, none⟩) c n 1) (bs.length - n) (c - n) :: R) := by
  have HC := Lib.hid (o_rrraw hs hn hc hm h8 h)
  have hlt : (bs.take n).length = n := by rw [List.length_take]; omega
  generalize hb : bs.take n = t at *
  generalize sufA (some ⟨g, o, none⟩) c n 1 = sa at *
  generalize bs.length - n = ln at *
  generalize c - n = cn at *
  clear hs hn hc hm h hb
  subst hlt
  go_enter Tryz.func135, Tryz.ntmps135
  go_wp2_with fail
  refine HC.out.mono ?_
  rintro e' w1 ⟨a, k, rfl, ho⟩
  have SS := Lib.hid (ByR.src ho 0 rfl)
  have G := Lib.hid ho.drop
  clear ho HC
  go_wp2_with fail
  go_loop [5, 12] (NumRel t) (fun _ k => t.length - (intOf k).toNat)
  case atStart => exact ⟨0, Nat.zero_le _, rfl, rfl⟩
  case round =>
    obtain ⟨j, hj, rfl, rfl⟩ := hrel
    by_cases hlt : j < t.length
    · obtain ⟨x, hx⟩ : ∃ x, t[j]? = some x := ⟨t[j], List.getElem?_eq_getElem hlt⟩
      obtain ⟨ad, rfl, hc⟩ := SS.out.at' (by omega)
      have c0 := hc j (.int .u8 x.toNat) (by simp [u8s, hx])
      have hlt' : (j : Int) < (t.length : Int) := by omega
      have hm := num_take_lt t j h8 hlt
      have HX : Hid (num (t.take (j + 1)) = num (t.take j) * 256 + x.toNat) := Lib.hid (by rw [List.take_add_one, hx]; exact num_snoc _ _)
      have hq := or_byte x hm
      have hxl := x.toNat_lt
      clear hx hc
      generalize num (t.take j) = m at *
      generalize x.toNat = xn at *
      have q1 : IntKind.u64.wrap ((m : Int) * 256) = ((m * 256 : Nat) : Int) := by rw [IntKind.wrap_u64]; omega
      go_wp2_with fail
      go_round
      case rel => exact ⟨j + 1, by omega, by go_num, by rw [HX.out]; go_num⟩
      case measure => simp [intOf]; omega
    · have hjl : j = t.length := by omega
      subst hjl
      rw [List.take_length]
      go_wp2_with fail
      go_ret
      exact ⟨rfl, G.out⟩
theorem o_rru32 {g o c : Nat} (hs : Src w (some ⟨g, o, none⟩) bs.length 1 (u8s bs)) (hn : 4 ≤ bs.length) (hc : bs.length ≤ c) (hm : c ≤ maxLen) (h : In F0 w0 w (RrC rb (some ⟨g, o, none⟩) bs.length c :: R)) :
    Calls Tryz.prog 101 #[.pointer (some ⟨rb, 0, none⟩)] w fun e w' => e = .returned (.int .u32 (num (bs.take 4))) ∧ In F0 w0 w' (RrC rb (sufA (some ⟨g, o, none⟩) c 4 1) (bs.length - 4) (c - 4) :: R) := by
  have HC := Lib.hid (o_rrnum hs hn hc hm (by decide) h)
  have hlt := num_lt_of (bs := bs.take 4) (k := 4) (by rw [List.length_take]; omega)
  have hw : IntKind.u32.wrap ((num (bs.take 4) : Nat) : Int) = ((num (bs.take 4) : Nat) : Int) := by rw [show ∀ n, IntKind.u32.wrap n = n % 4294967296 from fun n => by simp [IntKind.wrap, IntKind.bits, IntKind.signed]]; omega
  clear hs hn hc hm h
  generalize num (bs.take 4) = m at *
  go_enter Tryz.func101, Tryz.ntmps101
  go_wp2_with fail
  refine HC.out.mono ?_
  rintro e' w1 ⟨rfl, ho⟩
  have G := Lib.hid ho
  clear ho HC hlt
  go_wp2_with fail
  go_ret
  exact ⟨rfl, G.out⟩
end
end Go.Proofs.YtgapbecddgfkmaaGreat
