/- Rows.PathPlaysSaid -/
import Derived.Test.YtgapbecddgfkmaaGreatPY18
import Derived.Test.YtgapbecddgfkmaaGreatPY41
import Derived.Test.YtgapbecddgfkmaaGreatPY28
import Derived.Test.YtgapbecddgfkmaaGreatPY20
import Derived.Test.YtgapbecddgfkmaaGreatPY40
import Derived.Test.YtgapbecddgfkmaaGreatPY27
namespace Go.Proofs.YtgapbecddgfkmaaGreat
open Go.RowKit
set_option linter.unusedVariables false
set_option maxHeartbeats 64000000
set_option maxRecDepth 100000
section
variable {F0 : List Nat} {w0 w : World} {R : List Asrt}
abbrev rD (k0 k1 k2 k3 k4 : Int) : Array Value := #[.int .i64 2, .int .u32 k0, .int .u32 k1, .int .i64 k2, .int .i64 k3, .int .i64 k4, .int .i64 0, .int .i64 0, .int .i64 0, .int .i64 0, .slice none 0 0, .int .i64 0, .int .i64 0, .int .i64 0]
theorem rD_all (k0 k1 k2 k3 k4 : Int) : (rD k0 k1 k2 k3 k4).all (·.oneCell') = true := by simp [Value.oneCell']
theorem o_plain2 (k0 k1 k2 k3 k4 : Int) (h : In F0 w0 w R) : Calls Tryz.prog 45 #[.agg (rD k0 k1 k2 k3 k4)] w fun e w' => e = .returned (.agg (rD k0 k1 k2 k3 k4)) ∧ In F0 w0 w' R := by
  have HH := Lib.hid h
  clear h
  go_enter Tryz.func45, Tryz.ntmps45
  go_wp2_with fail
  exact bodyPost_ret (results_cell_row Tryz.results45 _ _ (w.heap.size + 1) 54 _ (0, 0) _ rfl (heap3_mid w _ _ _) Tryz.underlying54 rfl (by kernel_rfl)) rfl ⟨rfl, ((HH.out.alloc _).alloc _).alloc _⟩
theorem o_samerecD (k0 k1 k2 k3 k4 : Int) (h : In F0 w0 w R) : Calls Tryz.prog 15 #[.agg (rD k0 k1 k2 k3 k4), .agg (rD k0 k1 k2 k3 k4)] w fun e w' => e = .returned (.bool true) ∧ In F0 w0 w' R := by
  have h1 := (h.cells (rD k0 k1 k2 k3 k4) 54).cells (rD k0 k1 k2 k3 k4) 54
  rw [World.size_alloc] at h1
  have KP := Lib.hid (fun w' (R' : List Asrt) (h' : In F0 w0 w' R') => o_plain2 k0 k1 k2 k3 k4 h')
  have KB := Lib.hid o_samebk0
  have HD := Lib.hid (h1.drewN 1)
  clear h h1
  go_enter Tryz.func15, Tryz.ntmps15
  go_upto_region 1 with fail
  generalize hC : rD k0 k1 k2 k3 k4 = C at *
  generalize w.heap.size = g at *
  have hsz : C.size = 14 := by rw [← hC]; rfl
  have hinf : (Tryz.prog.info? 54).map (·.size) = some C.size := by rw [hsz]; kernel_rfl
  have hall : C.all (·.oneCell') = true := by rw [← hC]; exact rD_all _ _ _ _ _
  refine e_start (fun w' => w'.heap[g]? = some (.cells C 54 (0, 0)) ∧ w'.heap[g + 1]? = some (.cells C 54 (0, 0))) (by kernel_rfl) ⟨HD.out.block 1 rfl, HD.out.block 0 rfl⟩ (fun hS => ?_)
  refine e_take (i := 0) (v := .agg C) rfl (by kernel_rfl) (fun _ _ _ h => h) (by rfl) (fun w hSw => exec_load_row 54 (.tmp 2) rfl g rfl 54 C (0, 0) _ hSw.1 Tryz.underlying54 rfl hinf) hS ?_
  try simp only [Act.put, List.setIfInBounds_toArray, List.set_cons_zero, List.set_cons_succ]
  refine e_take (i := 2) (v := .agg C) rfl (by kernel_rfl) (fun _ _ _ h => h) (by rfl) (fun w hSw => exec_load_row 54 (.tmp 3) rfl (g + 1) rfl 54 C (0, 0) _ hSw.2 Tryz.underlying54 rfl hinf) hS ?_
  try simp only [Act.put, List.setIfInBounds_toArray, List.set_cons_zero, List.set_cons_succ]
  refine e_pin (i := 1) rfl (by kernel_rfl) (fun K' hK => ?_)
  go_simp
  go_at_call 45
  have KP1 := KP.out _ _ HD.out
  refine KP1.mono ?_
  rintro e w3 ⟨rfl, ho3⟩
  have HO3 := Lib.hid ho3
  clear hS
  refine hK.out _ _ ⟨HO3.out.block 1 rfl, HO3.out.block 0 rfl⟩ (fun hS => ?_)
  clear hK K' ho3 KP1
  try simp only [Act.put, List.setIfInBounds_toArray, List.set_cons_zero, List.set_cons_succ]
  refine e_pin (i := 3) rfl (by kernel_rfl) (fun K' hK => ?_)
  go_simp
  go_at_call 45
  have KP1 := KP.out _ _ HO3.out
  refine KP1.mono ?_
  rintro e w4 ⟨rfl, ho4⟩
  have HO4 := Lib.hid ho4
  have h5 := ho4.setFull 1 rfl (xs := C.toList) (b := g) (C := C) (T := 54) (by simp)
  have h6 := h5.setFull 0 rfl (xs := C.toList) (b := g + 1) (C := C) (T := 54) (by simp)
  simp only [Array.toArray_toList] at h5 h6
  have HO5 := Lib.hid h5
  have HO6 := Lib.hid h6
  clear hS
  refine hK.out _ _ ⟨HO4.out.block 1 rfl, HO4.out.block 0 rfl⟩ (fun hS => ?_)
  clear hK K' ho4 KP1 h5 h6
  try simp only [Act.put, List.setIfInBounds_toArray, List.set_cons_zero, List.set_cons_succ]
  refine e_pin (i := 4) rfl (by kernel_rfl) (fun K' hK => ?_)
  refine store_step (by rfl) 54 (.tmp 2) (.tmp 6) (by rfl) g 0 C (by rfl) (by rfl) (there_of (HO4.out.block 1 rfl)) hinf hall ?_
  clear hS
  refine hK.out _ _ ⟨HO5.out.block 1 rfl, HO5.out.block 0 rfl⟩ (fun hS => ?_)
  clear hK K'
  try simp only [Act.put, List.setIfInBounds_toArray, List.set_cons_zero, List.set_cons_succ]
  refine e_last (i := 5) rfl (by kernel_rfl) (fun K' hK => ?_)
  refine store_step (by rfl) 54 (.tmp 3) (.tmp 8) (by rfl) (g + 1) 0 C (by rfl) (by rfl) (there_of (HO5.out.block 0 rfl)) hinf hall ?_
  refine hK.out _ _ ?_
  clear hK K' hS
  generalize ((w4.setCells g 0 C.toList).setCells (g + 1) 0 C.toList) = W2 at *
  have h2 : In F0 w0 W2 (Cells (g + 1) (rD k0 k1 k2 k3 k4) 54 :: Cells g (rD k0 k1 k2 k3 k4) 54 :: R) := by rw [hC]; exact HO6.out
  have p0 : W2.cell? ⟨g, 0, none⟩ = some (.int .i64 2) := cell_of (h2.block 1 rfl) rfl
  have p1 : W2.cell? ⟨g, 1, none⟩ = some (.int .u32 k0) := cell_of (h2.block 1 rfl) rfl
  have p2 : W2.cell? ⟨g, 2, none⟩ = some (.int .u32 k1) := cell_of (h2.block 1 rfl) rfl
  have p3 : W2.cell? ⟨g, 3, none⟩ = some (.int .i64 k2) := cell_of (h2.block 1 rfl) rfl
  have p4 : W2.cell? ⟨g, 4, none⟩ = some (.int .i64 k3) := cell_of (h2.block 1 rfl) rfl
  have p5 : W2.cell? ⟨g, 5, none⟩ = some (.int .i64 k4) := cell_of (h2.block 1 rfl) rfl
  have p6 : W2.cell? ⟨g, 6, none⟩ = some (.int .i64 0) := cell_of (h2.block 1 rfl) rfl
  have p7 : W2.cell? ⟨g, 7, none⟩ = some (.int .i64 0) := cell_of (h2.block 1 rfl) rfl
  have p8 : W2.cell? ⟨g, 8, none⟩ = some (.int .i64 0) := cell_of (h2.block 1 rfl) rfl
  have p9 : W2.cell? ⟨g, 9, none⟩ = some (.int .i64 0) := cell_of (h2.block 1 rfl) rfl
  have p10 : W2.cell? ⟨g, 10, none⟩ = some (.slice none 0 0) := cell_of (h2.block 1 rfl) rfl
  have p11 : W2.cell? ⟨g, 11, none⟩ = some (.int .i64 0) := cell_of (h2.block 1 rfl) rfl
  have p12 : W2.cell? ⟨g, 12, none⟩ = some (.int .i64 0) := cell_of (h2.block 1 rfl) rfl
  have p13 : W2.cell? ⟨g, 13, none⟩ = some (.int .i64 0) := cell_of (h2.block 1 rfl) rfl
  have q0 : W2.cell? ⟨g + 1, 0, none⟩ = some (.int .i64 2) := cell_of (h2.block 0 rfl) rfl
  have q1 : W2.cell? ⟨g + 1, 1, none⟩ = some (.int .u32 k0) := cell_of (h2.block 0 rfl) rfl
  have q2 : W2.cell? ⟨g + 1, 2, none⟩ = some (.int .u32 k1) := cell_of (h2.block 0 rfl) rfl
  have q3 : W2.cell? ⟨g + 1, 3, none⟩ = some (.int .i64 k2) := cell_of (h2.block 0 rfl) rfl
  have q4 : W2.cell? ⟨g + 1, 4, none⟩ = some (.int .i64 k3) := cell_of (h2.block 0 rfl) rfl
  have q5 : W2.cell? ⟨g + 1, 5, none⟩ = some (.int .i64 k4) := cell_of (h2.block 0 rfl) rfl
  have q6 : W2.cell? ⟨g + 1, 6, none⟩ = some (.int .i64 0) := cell_of (h2.block 0 rfl) rfl
  have q7 : W2.cell? ⟨g + 1, 7, none⟩ = some (.int .i64 0) := cell_of (h2.block 0 rfl) rfl
  have q8 : W2.cell? ⟨g + 1, 8, none⟩ = some (.int .i64 0) := cell_of (h2.block 0 rfl) rfl
  have q9 : W2.cell? ⟨g + 1, 9, none⟩ = some (.int .i64 0) := cell_of (h2.block 0 rfl) rfl
  have q10 : W2.cell? ⟨g + 1, 10, none⟩ = some (.slice none 0 0) := cell_of (h2.block 0 rfl) rfl
  have q11 : W2.cell? ⟨g + 1, 11, none⟩ = some (.int .i64 0) := cell_of (h2.block 0 rfl) rfl
  have q12 : W2.cell? ⟨g + 1, 12, none⟩ = some (.int .i64 0) := cell_of (h2.block 0 rfl) rfl
  have q13 : W2.cell? ⟨g + 1, 13, none⟩ = some (.int .i64 0) := cell_of (h2.block 0 rfl) rfl
  have G := Lib.hid h2.drop.drop
  have KB2 := Lib.hid (KB.out W2)
  clear h2 HO3 HO4 HO5 HO6 HD KP KB hinf hall hsz hC
  go_wp2_with fail
  refine KB2.out.mono ?_
  rintro e w5 ⟨rfl, rfl⟩
  clear KB2
  go_wp2_with fail
  go_ret
  exact ⟨rfl, G.out⟩
def PkRec (r : Rec) : Prop := (∃ f, r = putRec f) ∨ (∃ t, r = delRec t)
theorem keep_recs (most : Int) (L : List Fl) (f : Fl) (known : Bool) (was : Int) (ends : Bool) : ∀ r ∈ (keepD most L f known was ends).1, PkRec r := by
  intro r hr
  unfold keepD at hr
  repeat' split at hr
  all_goals first
    | (simp only [List.mem_singleton] at hr; subst hr; first | exact Or.inl ⟨_, rfl⟩ | exact Or.inr ⟨_, rfl⟩)
    | (simp at hr)
theorem keep_len (most : Int) (L : List Fl) (f : Fl) (known : Bool) (was : Int) (ends : Bool) : (keepD most L f known was ends).1.length ≤ 1 := by
  unfold keepD
  repeat' split
  all_goals simp
theorem pkt_recs (self mtu most : Int) (L : List Fl) (c : ChD) (gen now : Int) (b : List UInt8) : (∀ r ∈ (pktD self mtu most L c gen now b).1.recs, PkRec r) ∧ (pktD self mtu most L c gen now b).1.recs.length ≤ 1 := by
  unfold pktD
  repeat' split
  all_goals first
    | exact ⟨fun r hr => (by cases hr), Nat.zero_le 1⟩
    | exact ⟨keep_recs _ _ _ _ _ _, keep_len _ _ _ _ _ _⟩
theorem o_samerec_any {r : Rec} (hr : PkRec r) (h : In F0 w0 w R) : Calls Tryz.prog 15 #[.agg (encRL r (.slice none 0 0)).toArray, .agg (encRL r (.slice none 0 0)).toArray] w fun e w' => e = .returned (.bool true) ∧ In F0 w0 w' R := by
  rcases hr with ⟨⟨⟨k0, k1, k2, k3, k4⟩, bk, gen, seen⟩, rfl⟩ | ⟨⟨k0, k1, k2, k3, k4⟩, rfl⟩
  · exact o_samerec k0 k1 k2 k3 k4 bk gen seen h
  · exact o_samerecD k0 k1 k2 k3 k4 h
theorem exec_load_mid {P : Program} {o : Oper} {a : Act} {w : World} (ty : TypeId) (x : Operand) (ho : o.op = .load ty x)
    (b off : Nat) (hx : a.eval x = .pointer (some ⟨b, off, none⟩)) (cs : List Value) (d : TypeDesc) (hc : w.rangeAt b off cs)
    (hu : P.underlying ty = some d) (hd : d.isRow = true) (hi : (P.info? ty).map (·.size) = some cs.length) : (execOp a.eval o).run P w = .ok (.value (.agg cs.toArray)) w := by
  unfold execOp
  simp only [ho, hx, Instr.loadAt, Instr.sureAddr, Sem.run_bind, Sem.run_pure, Result.andThen_ok, run_loadVar_mid w b off ty cs d hc hu hd hi]
theorem recN_range {v : Value} {l : List Rec} {a : Option Addr} {n c i : Nat} {r : Rec} (h : In F0 w0 w R) (j : Nat) (hA : R[j]? = some (RecR (.slice a n c) l)) (hi : l[i]? = some r) : ∃ g, a = some ⟨g, 0, none⟩ ∧ w.rangeAt g (i * 14) (encRL r (.slice none 0 0)) := by
  obtain ⟨F, x⟩ := h.get j hA
  obtain ⟨a', c', e, _, _, hat⟩ := RowA.shape x
  rw [Value.slice.injEq] at e
  have hg : ∀ t u, (encRL r (.slice none 0 0))[t]? = some u → (recN l)[i * 14 + t]? = some u := by
    intro t u ht
    have hil := (List.getElem?_eq_some_iff.1 hi).1
    have e1 : l = l.take i ++ r :: l.drop (i + 1) := by
      have := List.take_append_drop i l
      rw [List.drop_eq_getElem_cons hil, (List.getElem?_eq_some_iff.1 hi).2] at this
      exact this.symm
    have e2 : recN l = recN (l.take i) ++ (encRL r (.slice none 0 0) ++ recN (l.drop (i + 1))) := by
      conv => lhs; rw [e1]
      simp [recN]
    have e3 : ∀ q : List Rec, (recN q).length = q.length * 14 := by
      intro q
      induction q with
      | nil => rfl
      | cons y q ih => simp only [recN, List.map_cons, List.flatten_cons, List.length_append, List.length_cons] at ih ⊢; rw [ih, List.length_nil]; omega
    rw [e2, List.getElem?_append_right (by rw [e3, List.length_take]; omega), e3, List.length_take, Nat.min_eq_left (by omega), Nat.add_sub_cancel_left, List.getElem?_append_left (List.getElem?_eq_some_iff.1 ht).1]
    exact ht
  obtain ⟨g, e2, _⟩ := hat (i * 14 + 0) _ (hg 0 _ (by rfl))
  refine ⟨g, e.1.trans e2, fun t u ht => ?_⟩
  obtain ⟨g2, e4, hc⟩ := hat (i * 14 + t) u (hg t u ht)
  rw [e2] at e4
  cases e4
  exact hc
theorem o_samerecs {l : List Rec} {a1 a2 : Option Addr} {c1 c2 : Nat} (hl : l.length ≤ 1000) (hp : ∀ r ∈ l, PkRec r) (i1 i2 : Nat) (hA1 : R[i1]? = some (RecR (.slice a1 l.length c1) l)) (hA2 : R[i2]? = some (RecR (.slice a2 l.length c2) l)) (h : In F0 w0 w R) :
    Calls Tryz.prog 25 #[.slice a1 l.length c1, .slice a2 l.length c2] w fun e w' => e = .returned (.bool true) ∧ In F0 w0 w' R := by
  have H := Lib.hid h
  have HL := Lib.hid hl
  have HP := Lib.hid hp
  have HA := Lib.hid (And.intro hA1 hA2)
  have hne : ((l.length : Int) != (l.length : Int)) = false := by simp
  clear h hl hp hA1 hA2
  go_enter Tryz.func25, Tryz.ntmps25
  go_wp2_with fail
  go_loopw [13] (fun v wr => ∃ i : Nat, v = .int .i64 i ∧ i ≤ l.length ∧ In F0 w0 wr R) (fun v _ => l.length - (intOf v).toNat)
  case atStart => exact ⟨0, rfl, Nat.zero_le _, H.out⟩
  case round =>
    clear H
    obtain ⟨i, rfl, hi, ho⟩ := hrel
    by_cases hlt : i < l.length
    · obtain ⟨r, hr⟩ : ∃ r, l[i]? = some r := ⟨_, List.getElem?_eq_getElem hlt⟩
      obtain ⟨ga, rfl, ra⟩ := recN_range (v := .nilFunc) ho i1 HA.out.1 hr
      obtain ⟨gb, rfl, rb⟩ := recN_range (v := .nilFunc) ho i2 HA.out.2 hr
      have hrm := HP.out r (List.mem_of_getElem? hr)
      have hlt' : (i : Int) < (l.length : Int) := by omega
      have hw2 : wrap64 ((i : Int) + 1) = (i : Int) + 1 := by have := HL.out; unfold wrap64; omega
      have hinf : (Tryz.prog.info? 54).map (·.size) = some (encRL r (.slice none 0 0)).length := by
        rw [show (encRL r (.slice none 0 0)).length = 14 from rfl]; kernel_rfl
      have KS := Lib.hid (fun w' (h' : In F0 w0 w' R) => o_samerec_any hrm h')
      have HD := Lib.hid (ho.drewN 1)
      have hS : wr.drew.rangeAt ga (i * 14) (encRL r (.slice none 0 0)) ∧ wr.drew.rangeAt gb (i * 14) (encRL r (.slice none 0 0)) := ⟨(World.rangeAt_drew _ _ _ _).2 ra, (World.rangeAt_drew _ _ _ _).2 rb⟩
      have HI := Lib.hid hi
      have HRB : Hid (∀ W, In F0 w0 W R → W.rangeAt ga (i * 14) (encRL r (.slice none 0 0)) ∧ W.rangeAt gb (i * 14) (encRL r (.slice none 0 0))) := Lib.hid (fun W hW => by
        obtain ⟨g1, e1, r1⟩ := recN_range (v := .nilFunc) hW i1 HA.out.1 hr
        obtain ⟨g2, e2, r2⟩ := recN_range (v := .nilFunc) hW i2 HA.out.2 hr
        cases e1; cases e2
        exact ⟨r1, r2⟩)
      clear ho ra rb hrm hr hi hlt
      go_upto_region 6 with fail
      generalize encRL r (.slice none 0 0) = cs at *
      refine e_start (fun w' => w'.rangeAt ga (i * 14) cs ∧ w'.rangeAt gb (i * 14) cs) (by kernel_rfl) hS (fun hS => ?_)
      refine e_take (i := 0) (v := ?_) rfl (by kernel_rfl) (fun _ _ _ h => h) (by rfl) ?_ hS ?_
      rotate_left
      · (intro w hSw; (try dsimp only at hSw); go_simp; try with_reducible rfl)
      try simp only [Act.put, List.setIfInBounds_toArray, List.set_cons_zero, List.set_cons_succ]
      refine e_take (i := 1) (v := ?_) rfl (by kernel_rfl) (fun _ _ _ h => h) (by rfl) ?_ hS ?_
      rotate_left
      · (intro w hSw; (try dsimp only at hSw); go_simp; try with_reducible rfl)
      try simp only [Act.put, List.setIfInBounds_toArray, List.set_cons_zero, List.set_cons_succ]
      refine e_take (i := 2) (v := ?_) rfl (by kernel_rfl) (fun _ _ _ h => h) (by rfl) ?_ hS ?_
      rotate_left
      · (intro w hSw; (try dsimp only at hSw); go_simp; try with_reducible rfl)
      try simp only [Act.put, List.setIfInBounds_toArray, List.set_cons_zero, List.set_cons_succ]
      refine e_take (i := 3) (v := .agg cs.toArray) rfl (by kernel_rfl) (fun _ _ _ h => h) (by rfl) (fun w hSw => exec_load_mid 54 (.tmp 18) rfl ga (i * 14) rfl cs _ hSw.1 Tryz.underlying54 rfl hinf) hS ?_
      try simp only [Act.put, List.setIfInBounds_toArray, List.set_cons_zero, List.set_cons_succ]
      refine e_take (i := 4) (v := ?_) rfl (by kernel_rfl) (fun _ _ _ h => h) (by rfl) ?_ hS ?_
      rotate_left
      · (intro w hSw; (try dsimp only at hSw); go_simp; try with_reducible rfl)
      try simp only [Act.put, List.setIfInBounds_toArray, List.set_cons_zero, List.set_cons_succ]
      refine e_take (i := 5) (v := ?_) rfl (by kernel_rfl) (fun _ _ _ h => h) (by rfl) ?_ hS ?_
      rotate_left
      · (intro w hSw; (try dsimp only at hSw); go_simp; try with_reducible rfl)
      try simp only [Act.put, List.setIfInBounds_toArray, List.set_cons_zero, List.set_cons_succ]
      refine e_take (i := 6) (v := ?_) rfl (by kernel_rfl) (fun _ _ _ h => h) (by rfl) ?_ hS ?_
      rotate_left
      · (intro w hSw; (try dsimp only at hSw); go_simp; try with_reducible rfl)
      try simp only [Act.put, List.setIfInBounds_toArray, List.set_cons_zero, List.set_cons_succ]
      refine e_take (i := 7) (v := .agg cs.toArray) rfl (by kernel_rfl) (fun _ _ _ h => h) (by rfl) (fun w hSw => exec_load_mid 54 (.tmp 22) rfl gb (i * 14) rfl cs _ hSw.2 Tryz.underlying54 rfl hinf) hS ?_
      try simp only [Act.put, List.setIfInBounds_toArray, List.set_cons_zero, List.set_cons_succ]
      refine e_pin (i := 8) rfl (by kernel_rfl) (fun K' hK => ?_)
      go_simp
      go_at_call 15
      refine (KS.out _ HD.out).mono ?_
      rintro e w3 ⟨rfl, ho3⟩
      have HO3 := Lib.hid ho3
      refine hK.out _ _ (HRB.out _ ho3) (fun hS => ?_)
      clear hK K' ho3
      try simp only [Act.put, List.setIfInBounds_toArray, List.set_cons_zero, List.set_cons_succ]
      refine e_last (i := 9) rfl (by kernel_rfl) (fun K' hK => ?_)
      go_simp
      refine hK.out _ _ ?_
      clear hK K' hS
      go_wp2_with fail
      go_roundw
      case rel => (try rw [hw2]); exact ⟨i + 1, by rw [Int.natCast_add]; rfl, by omega, HO3.out⟩
      case measure => (try rw [hw2]); exact meas_lt hlt'
    · have hge : (l.length : Int) ≤ (i : Int) := by omega
      have G := Lib.hid ho
      clear ho hi hlt
      go_wp2_with fail
      go_ret
      exact ⟨rfl, G.out⟩
end
theorem r_time (n : Int) (w : World) : Calls Tryz.prog 17 #[.int .i64 n] w fun e w' => e = .returned (.bool (decide (0 ≤ n ∧ n ≤ 1099511627776))) ∧ w' = w := by
  by_cases h0 : 0 ≤ n
  · by_cases h1 : n ≤ 1099511627776
    · have e : decide (0 ≤ n ∧ n ≤ 1099511627776) = true := decide_eq_true ⟨h0, h1⟩
      rw [e]; clear e
      go_enter Tryz.func17, Tryz.ntmps17
      go_wp2_with fail
      go_ret
      exact ⟨rfl, rfl⟩
    · have e : decide (0 ≤ n ∧ n ≤ 1099511627776) = false := decide_eq_false (fun h => h1 h.2)
      have q : decide (n ≤ 1099511627776) = false := decide_eq_false h1
      rw [e]; clear e h1
      go_enter Tryz.func17, Tryz.ntmps17
      go_wp2_with fail
      go_ret
      exact ⟨rfl, rfl⟩
  · have e : decide (0 ≤ n ∧ n ≤ 1099511627776) = false := decide_eq_false (fun h => h0 h.1)
    have q : decide (0 ≤ n) = false := decide_eq_false h0
    rw [e]; clear e h0
    go_enter Tryz.func17, Tryz.ntmps17
    go_wp2_with fail
    go_ret
    exact ⟨rfl, rfl⟩
section
variable {F0 : List Nat} {w0 w : World} {R : List Asrt}
theorem o_l23out {v r bk : Int} {p : List UInt8} {a1 a2 : Option Addr} {c1 c2 : Nat} (i1 i2 : Nat) (hA1 : R[i1]? = some (ByR (.slice a1 p.length c1) p)) (hA2 : R[i2]? = some (ByR (.slice a2 p.length c2) p)) (h : In F0 w0 w R) :
    Calls Tryz.prog 24 #[.agg (outC v r bk (.slice a1 p.length c1)), .agg (outC v r bk (.slice a2 p.length c2))] w fun e w' => e = .returned (.bool true) ∧ In F0 w0 w' R := by
  have h1 := (h.cells (outC v r bk (.slice a1 p.length c1)) 40).cells (outC v r bk (.slice a2 p.length c2)) 40
  have b1 := ByR.bytes (i1 + 2) (by simpa using hA1) h1
  have b2 := ByR.bytes (i2 + 2) (by simpa using hA2) h1
  have k1 := conv_str (cap := c1) (b1.src _ h1) (fun e => by have := (b1.nil e).2; rw [this]; rfl)
  have k2 := conv_str (cap := c2) (b2.src _ h1) (fun e => by have := (b2.nil e).2; rw [this]; rfl)
  have G := Lib.hid h1.drop.drop
  clear h h1 hA1 hA2 b1 b2
  go_enter Tryz.func24, Tryz.ntmps24
  go_wp2_with fail
  go_ret
  exact ⟨rfl, G.out⟩
end
theorem cov13 : ∀ s, 1 ≤ s → s < 13 → Cov 13 s := by
  have h : ∀ s, s < 13 → 1 ≤ s → ∀ a, a < 13 → ∀ p, p < 13 → ∃ k, k < 13 ∧ (a + k * s) % 13 = p := by decide +kernel
  exact fun s h1 h2 => h s h2 h1
theorem may13 : mayM ((13 : Nat) : Int) = true := by decide +kernel
theorem table4 : tableM [⟨4, 9, 1⟩] 13 = List.replicate 13 4 := by decide +kernel
theorem pick_one {c : ChD} {b : Bk} {k : Tup} (hs : c.slots = 13) (hl : c.l = [b]) (ht : c.t = List.replicate 13 b.id) (hk : MayT k) : pickCh c k = some b := by
  unfold pickCh
  rw [if_pos hk, hs, hl, ht]
  have hx : hashT k % 13 < 13 := Nat.mod_lt _ (by decide)
  have : (List.replicate 13 b.id).getD (hashT k % 13) 0 = b.id := by
    rw [List.getD_eq_getElem?_getD, List.getElem?_replicate, if_pos hx]; rfl
  rw [this]
  unfold findBk
  simp
theorem made_pkt {self mtu most gen now : Int} {L : List Fl} {c : ChD} {k : Tup} (wk : WfT k) (mk : MayT k) (ttl flags : Int) (body : List UInt8) (hb : body.length ≤ 60000) (hn : 0 ≤ now ∧ now ≤ 1099511627776) :
    pktD self mtu most L c gen now (madeD k ttl flags body) = pktOf most L k 0 (choiceD L c k) (fun be => wrapD (madeD k ttl flags body) self be.addr mtu) gen now (atF L k).isSome (wasD L k) (decide (k.proto = 6) && decide (u64 flags % 256 &&& 5 ≠ 0)) := by
  rw [pkt_of hn, made_within wk mk ttl flags body hb]
  dsimp only
  rw [made_ends wk mk ttl flags body hb]
theorem made_goes {self mtu most gen now : Int} {L : List Fl} {c : ChD} {k : Tup} {be : Bk} (wk : WfT k) (mk : MayT k) (ttl flags : Int) (body : List UInt8) (hb : body.length ≤ 60000) (hn : 0 ≤ now ∧ now ≤ 1099511627776) (h : choiceD L c k = some be)
    (h1 : ¬ u64 ttl % 256 ≤ 1) (h2 : ¬ min mtu 2000 < 40 + ((innerL k flags body).length : Int)) :
    ∃ pk, pktD self mtu most L c gen now (madeD k ttl flags body) = (⟨2, 0, be.id, pk, (keepD most L ⟨k, be.id, gen, now⟩ (atF L k).isSome (wasD L k) (decide (k.proto = 6) && decide (u64 flags % 256 &&& 5 ≠ 0))).1⟩, (keepD most L ⟨k, be.id, gen, now⟩ (atF L k).isSome (wasD L k) (decide (k.proto = 6) && decide (u64 flags % 256 &&& 5 ≠ 0))).2) := by
  rw [made_pkt wk mk ttl flags body hb hn, h]
  unfold pktOf
  rw [if_neg (by decide)]
  dsimp only
  rw [made_wrap wk ttl flags body hb, if_neg h1, if_neg h2, if_neg (by decide)]
  exact ⟨_, rfl⟩
structure ChOk (c : ChD) : Prop where
  s : 1 ≤ c.slots ∧ c.slots ≤ 251
  t : c.t.length = c.slots
  l : c.l.length ≤ 1000000
  wf : ∀ x ∈ c.l, 0 ≤ x.addr ∧ x.addr < 4294967296
theorem chOk_new : ChOk (newCh 13) := ⟨by decide, by decide, by decide, fun x hx => by simp [newCh] at hx⟩
section
variable {F0 : List Nat} {w0 w : World} {R : List Asrt} {bt cb : Nat} {most idle : Int} {L : List Fl} {c : ChD} {vl vt : Value}
theorem o_config (n : Int) (h : In F0 w0 w R) : Calls Tryz.prog 13 #[.int .i64 n] w fun e w' => e = .returned (.agg (cfC 168364297 13 n 20 1500 200 20000 3)) ∧ In F0 w0 w' R := by
  have G := Lib.hid (h.alloc (.cells (cfC 168364297 13 n 20 1500 200 20000 3) 46))
  clear h
  go_enter Tryz.func13, Tryz.ntmps13
  go_wp2_with fail
  exact bodyPost_ret (results_cell_row Tryz.results13 _ _ w.heap.size 46 _ (0, 0) _ rfl (heap_alloc_new _ _) Tryz.underlying46 rfl (by kernel_rfl)) rfl ⟨rfl, G.out⟩
theorem o_pktown {self sl fl idle0 mtu sg qu ve : Int} (hself : 0 ≤ self ∧ self < 4294967296) (hok : ChOk c) {gen now : Int} {m : List UInt8} (hm : m.length ≤ 100000000) {a : Option Addr} {n : Nat}
    (h : In F0 w0 w (ByR (.slice a m.length n) m :: FA bt most idle L :: ChL cb c vl vt R)) :
    Calls Tryz.prog 12 #[.agg (cfC self sl fl idle0 mtu sg qu ve), .pointer (some ⟨bt, 0, none⟩), pC cb, .int .i64 gen, .int .i64 now, .slice a m.length n] w (PktPost (pktD self mtu most L c gen now m) bt most idle cb c vl vt F0 w0 R) := by
  have h1 : In F0 w0 w (FA bt most idle L :: ChL cb c vl vt (ByR (.slice a m.length n) m :: R)) := h.sel2 (R1 := [_, _, _, _, _]) [1, 2, 3, 4, 0] (by decide) rfl
  have h2 : In F0 w0 w (ByR (.slice a m.length n) m :: R) := h.sel2 (R1 := [_, _, _, _, _]) [0] (by decide) rfl
  refine (o_packet hself hok.s hok.t hok.l hok.wf (ByR.bytes 0 rfl h2) hm h1).mono ?_
  rintro e w' ⟨vp, vr, rfl, ho⟩
  exact ⟨vp, vr, rfl, ho.sel2 (R1 := [_, _, _, _, _, _, _]) [0, 1, 2, 3, 4, 5] (by decide) rfl⟩
theorem bytes_nil : Bytes F0 w0 R none 0 [] := ⟨fun W hW => (by
    obtain ⟨F, r⟩ := (hW.rownil 5 1).get 0 rfl
    exact r.all), fun _ => ⟨rfl, rfl⟩, Or.inl rfl, Nat.le_refl _, Nat.zero_le _⟩
theorem o_chset1 {x : Bk} {g : Nat} (hmd : 0 ≤ c.made ∧ c.made ≤ 1000) (hs : c.slots = 13) (h : In F0 w0 w (Cells g (encBa x) 33 :: ChL cb c vl vt R)) :
    Calls Tryz.prog 11 #[pC cb, .slice (some ⟨g, 0, none⟩) 1 1, .nilFunc] w (SetPost cb (setCh c [x] noneOut) F0 w0 R) := by
  have h0 : In F0 w0 w (ChL cb c vl vt (Cells g (encBa x) 33 :: R)) := h.sel2 (R1 := [_, _, _, _]) [1, 2, 3, 0] (by decide) rfl
  have hsrc : BksAt F0 w0 (Cells g (encBa x) 33 :: R) (some ⟨g, 0, none⟩) [x] := fun W hW => Src.of_block (hW.block 0 rfl) rfl
  refine (o_chset (l := [x]) (n := 1) (by rw [hs]; exact may13) (by rw [hs]; exact cov13) (by omega) hsrc (fun e => by cases e) (by simp) h0).mono ?_
  rintro e w' ⟨vl', vt', rfl, ho⟩
  exact ⟨vl', vt', rfl, ho.sel2 (R1 := [_, _, _, _]) [0, 1, 2] (by decide) rfl⟩
end
end Go.Proofs.YtgapbecddgfkmaaGreat
