/- The flows of a backend: slices.DeleteFunc over all. -/
import Derived.Test.YtcakgponofbhkaaFlowPlain
import Derived.Test.YtcakgponofbhkaaRowSet
namespace Go.Proofs.Ytcakgponofbhkaa
open Go.RowKit
set_option linter.unusedVariables false
set_option maxRecDepth 100000

/-- A flow of a row stands at another place in it. -/
theorem flatF_set : ∀ {L : List Fl} {i : Nat} (x : Fl), i < L.length → putAt (flatF L) (i * 8) (encF x).toList = flatF (L.set i x)
  | [], i, x, h => by simp at h
  | y :: r, 0, x, h => by
    have e : flatF (y :: r) = (encF y).toList ++ flatF r := rfl
    have e2 : flatF ((y :: r).set 0 x) = (encF x).toList ++ flatF r := rfl
    rw [e, e2]; unfold putAt; simp
  | y :: r, i + 1, x, h => by
    have e : flatF (y :: r) = (encF y).toList ++ flatF r := rfl
    have e2 : flatF ((y :: r).set (i + 1) x) = (encF y).toList ++ flatF (r.set i x) := rfl
    have ih := flatF_set (L := r) (i := i) x (by simpa using h)
    rw [e, e2, ← ih]; unfold putAt
    have l1 : (encF y).toList.length = 8 := rfl
    rw [List.take_append, List.drop_append, l1]
    rw [show (i + 1) * 8 - 8 = i * 8 by omega, show (i + 1) * 8 + (encF x).toList.length - 8 = i * 8 + (encF x).toList.length by omega]
    rw [List.take_of_length_le (by rw [l1]; omega), List.drop_eq_nil_of_le (by rw [l1]; omega)]
    simp
theorem flatF_take (L : List Fl) (m : Nat) : (flatF L).take (m * 8) = flatF (L.take m) := by
  induction L generalizing m with
  | nil => simp [flatF]
  | cons y r ih =>
    have e : flatF (y :: r) = (encF y).toList ++ flatF r := rfl
    cases m with
    | zero => simp [flatF]
    | succ m =>
      have e2 : flatF ((y :: r).take (m + 1)) = (encF y).toList ++ flatF (r.take m) := rfl
      have l1 : (encF y).toList.length = 8 := rfl
      rw [e, e2, ← ih, List.take_append, l1, show (m + 1) * 8 - 8 = m * 8 by omega, List.take_of_length_le (by rw [l1]; omega)]
def bkNe (b : Int) (x : Fl) : Bool := x.bk != b
/-- The closure. -/
theorem of_pred (b : Int) (x : Fl) (W : World) (g : Nat) (hc : W.cell? ⟨g, 0, none⟩ = some (.int .i64 b)) : Calls Try.prog 71 #[.agg (encF x), .pointer (some ⟨g, 0, none⟩)] W fun e w' => e = .returned (.bool (bkNe b x)) ∧ Mod [] W w' := by
  have HM := Lib.hid ((Mod.refl [] W).alloc (.cells (encF x) 59))
  have HB : Hid (bkNe b x = (x.bk != b)) := Lib.hid rfl
  have hc' : (W.alloc (.cells (encF x) 59)).cell? ⟨g, 0, none⟩ = some (.int .i64 b) := by
    rw [World.cell?_alloc_lt _ _ _ (World.block_lt_of_cell? _ _ hc)]; exact hc
  clear hc
  go_enter Try.func71, Try.ntmps71
  go_wp2_with fail
  go_ret
  exact ⟨by rw [HB.out]; rfl, HM.out⟩
/-- The first that the closure takes out, or -1. -/
def IxRel (w : World) (b : Int) (g : Nat) (A : List Fl) (F0 : List Nat) (R : List Asrt) (w0 : World) (k : Value) (wr : World) : Prop := ∃ j : Nat, k = .int .i64 j ∧ j ≤ A.length ∧ (∀ x ∈ A.take j, bkNe b x = false) ∧ In F0 w0 wr R
def IxPost (b : Int) (A : List Fl) (F0 : List Nat) (w0 : World) (R : List Asrt) (e : Ending) (w' : World) : Prop := In F0 w0 w' R ∧ ((e = .returned (.int .i64 (-1)) ∧ ∀ x ∈ A, bkNe b x = false) ∨ ∃ (i : Nat) (x : Fl), e = .returned (.int .i64 i) ∧ A[i]? = some x ∧ bkNe b x = true ∧ ∀ y ∈ A.take i, bkNe b y = false)
theorem In.keepM {F0 : List Nat} {w0 w w' : World} {R : List Asrt} (h : In F0 w0 w R) (hm : Mod [] w w') : In F0 w0 w' R := by
  obtain ⟨F, hs, hF⟩ := h.star
  have fr := Framed.star h.framed
  exact ⟨h.framed, ⟨F, fr.keep hs (fun b hb => hm.block b (fr.lt hs b hb) (by simp)), hF⟩, h.mod.trans hm (fun x hx => by simp at hx)⟩
set_option maxHeartbeats 4000000 in
theorem ix_call {F0 : List Nat} {w0 w : World} {R : List Asrt} {b : Int} {g : Nat} {A : List Fl} {v : Value} (h : In F0 w0 w R) (i : Nat) (hi : R[i]? = some (RowA 59 8 v A.length (flatF A))) (k : Nat) (hk : R[k]? = some (Cells g #[.int .i64 b] 3)) :
    Calls Try.prog 91 #[v, .func (.func 71) #[] #[.pointer (some ⟨g, 0, none⟩)]] w (IxPost b A F0 w0 R) := by
  obtain ⟨Fv, hv⟩ := h.get i hi
  obtain ⟨a, cap, rfl, l1, l2, -⟩ := hv.shape
  unfold maxLen at l2
  have HV : Hid (∀ W, In F0 w0 W R → 0 < A.length → ∃ gg, a = some ⟨gg, 0, none⟩ ∧ ∀ (j : Nat) (x : Fl), A[j]? = some x → FlAt W gg (0 + j * 8) x) := Lib.hid fun W hW h0 => by
    obtain ⟨F, hF⟩ := hW.get i hi
    obtain ⟨gg, o, e, hc⟩ := view_flow hF.view h0
    subst e
    obtain ⟨_, h4 | ⟨g', c, cur, e, _⟩⟩ := hF.2
    · omega
    · cases e; exact ⟨_, rfl, hc⟩
  have HP : Hid (∀ W x, In F0 w0 W R → Calls Try.prog 71 #[.agg (encF x), .pointer (some ⟨g, 0, none⟩)] W fun e w' => e = .returned (.bool (bkNe b x)) ∧ In F0 w0 w' R) := Lib.hid fun W x hW => (of_pred b x W g (cell_of (hW.block k hk) rfl)).mono fun e w' ⟨he, hm⟩ => ⟨he, hW.keepM hm⟩
  have HS : Hid (IxRel w b g A F0 R w0 (.int .i64 0) w) := Lib.hid ⟨0, rfl, Nat.zero_le _, by simp, h⟩
  have eg : ∀ args w, (callFunc 71 args).run Try.prog w = .ok (.enter 71 args) w := enters_of Try.func71 (by kernel_rfl) rfl
  clear h hv hi hk
  go_enter Try.func91, Try.ntmps91
  go_wp2_with fail
  go_loopw [5, 8] (fun _ k wr => IxRel w b g A F0 R w0 k wr) (fun _ k _ => A.length - (intOf k).toNat)
  case atStart => exact HS.out
  case round =>
    obtain ⟨j, rfl, hj, hno, ho⟩ := hrel
    clear HS
    by_cases hlt : j < A.length
    · obtain ⟨x, hx⟩ : ∃ x, A[j]? = some x := ⟨A[j], List.getElem?_eq_getElem hlt⟩
      obtain ⟨gg, rfl, hc⟩ := HV.out wr ho (by omega)
      obtain ⟨a0, a1, a2, a3, a4, a5, a6, a7⟩ := hc j x hx
      simp only [Nat.zero_add] at a0 a1 a2 a3 a4 a5 a6 a7
      have hcall := HP.out wr x ho
      have i1 : (j : Int) < (A.length : Int) := by omega
      have HNO : Hid (bkNe b x = false → ∀ y ∈ A.take (j + 1), bkNe b y = false) := Lib.hid fun e y hy => by
        rw [List.take_add_one, hx] at hy
        rcases List.mem_append.1 hy with hy | hy
        · exact hno y hy
        · simp at hy; subst hy; exact e
      have HX := Lib.hid (And.intro hx hno)
      clear ho hc hx hno hlt
      cases hq : bkNe b x with
      | true =>
        rw [hq] at hcall
        have HQ := Lib.hid hq
        have HCL := Lib.hid hcall
        clear hq hcall
        go_wp2_with fail
        refine HCL.out.mono ?_
        rintro e w' ⟨rfl, ho⟩
        have HF : Hid (IxPost b A F0 w0 R (.returned (.int .i64 j)) w') := Lib.hid ⟨ho, Or.inr ⟨j, x, rfl, HX.out.1, HQ.out, HX.out.2⟩⟩
        clear ho HCL
        go_wp2_with fail
        go_ret
        exact HF.out
      | false =>
        rw [hq] at hcall
        have HQ := Lib.hid hq
        have HCL := Lib.hid hcall
        clear hq hcall
        go_wp2_with fail
        refine HCL.out.mono ?_
        rintro e w' ⟨rfl, ho⟩
        have HR : Hid (IxRel w b g A F0 R w0 (.int .i64 (j + 1)) w') := Lib.hid ⟨j + 1, by congr 1, by omega, HNO.out HQ.out, ho⟩
        clear ho HCL
        go_wp2_with fail
        go_roundw
        case rel => exact HR.out
        case measure => simp [intOf]; omega
    · have hge : (A.length : Int) ≤ (j : Int) := by omega
      have HF : Hid (IxPost b A F0 w0 R (.returned (.int .i64 (-1))) wr) := Lib.hid ⟨ho, Or.inl ⟨rfl, by
        have : j = A.length := by omega
        subst this
        rwa [List.take_length] at hno⟩⟩
      clear ho hno hlt
      go_wp2_with fail
      go_ret
      exact HF.out

def keepF (b : Int) (x : Fl) : Bool := !bkNe b x
structure DelOk (b : Int) (A B : List Fl) (i j : Nat) : Prop where
  ij : i < j
  jn : j ≤ A.length
  len : B.length = A.length
  pre : B.take i = (A.take j).filter (keepF b)
  post : B.drop j = A.drop j
theorem DelOk.start {b : Int} {A : List Fl} {i : Nat} {x : Fl} (hx : A[i]? = some x) (hb : bkNe b x = true) (hno : ∀ y ∈ A.take i, bkNe b y = false) : DelOk b A A i (i + 1) := by
  have hi := (List.getElem?_eq_some_iff.1 hx).1
  refine ⟨by omega, by omega, rfl, ?_, rfl⟩
  rw [List.take_add_one, hx, List.filter_append]
  rw [List.filter_eq_self.2 (fun y hy => by simp [keepF, hno y hy])]
  simp [keepF, hb]
theorem DelOk.at {b : Int} {A B : List Fl} {i j : Nat} (h : DelOk b A B i j) {x : Fl} (hx : B[j]? = some x) : A[j]? = some x := by
  have h1 : (B.drop j)[0]? = some x := by rw [List.getElem?_drop]; simpa using hx
  rw [h.post, List.getElem?_drop] at h1
  simpa using h1
theorem DelOk.skip {b : Int} {A B : List Fl} {i j : Nat} (h : DelOk b A B i j) {x : Fl} (hx : B[j]? = some x) (hb : bkNe b x = true) : DelOk b A B i (j + 1) := by
  have ha := h.at hx
  have hj := (List.getElem?_eq_some_iff.1 ha).1
  refine ⟨by have := h.ij; omega, by omega, h.len, ?_, ?_⟩
  · rw [List.take_add_one, ha, List.filter_append, ← h.pre]; simp [keepF, hb]
  · have := congrArg (List.drop 1) h.post
    simpa [List.drop_drop] using this
theorem DelOk.keep {b : Int} {A B : List Fl} {i j : Nat} (h : DelOk b A B i j) {x : Fl} (hx : B[j]? = some x) (hb : bkNe b x = false) : DelOk b A (B.set i x) (i + 1) (j + 1) := by
  have ha := h.at hx
  have hj := (List.getElem?_eq_some_iff.1 ha).1
  have hij := h.ij
  have hl := h.len
  refine ⟨by omega, by omega, by simpa using h.len, ?_, ?_⟩
  · have hi : i < B.length := by omega
    rw [List.take_add_one, List.take_set, List.getElem?_set_self hi, List.set_eq_of_length_le (by simp; omega)]
    rw [List.take_add_one, ha, List.filter_append, ← h.pre]
    simp [keepF, hb]
  · rw [List.drop_set, if_pos (by omega)]
    have := congrArg (List.drop 1) h.post
    simpa [List.drop_drop] using this
theorem DelOk.done {b : Int} {A B : List Fl} {i : Nat} (h : DelOk b A B i A.length) : B.take i = A.filter (keepF b) := by
  have := h.pre
  rwa [List.take_length] at this
def DelRel (b : Int) (g gg cap : Nat) (A : List Fl) (F0 : List Nat) (w0 : World) (R : List Asrt) (vi vj : Value) (wr : World) : Prop :=
  ∃ (i j : Nat) (B : List Fl), vi = .int .i64 i ∧ vj = .int .i64 j ∧ DelOk b A B i j ∧ In F0 w0 wr (RowA 59 8 (.slice (some ⟨gg, 0, none⟩) A.length cap) A.length (flatF B) :: Cells g #[.int .i64 b] 3 :: R)
def DelPost (b : Int) (A : List Fl) (F0 : List Nat) (w0 : World) (g : Nat) (R : List Asrt) (e : Ending) (w' : World) : Prop :=
  ∃ v, e = .returned v ∧ In F0 w0 w' (RowA 59 8 v (A.filter (keepF b)).length (flatF (A.filter (keepF b))) :: Cells g #[.int .i64 b] 3 :: R)
theorem zero_flowF (w : World) : (zeroValue 59).run Try.prog w = .ok (.agg (encF zF)) w := zero_flow w
theorem zeros_flat (m : Nat) : (Builtin.zeroCells (Value.agg (encF zF)).cells m).toList = flatF (List.replicate m zF) := by
  have hc : (Value.agg (encF zF)).cells = encF zF := rfl
  rw [hc]
  apply List.ext_getElem?
  intro t
  rw [show flatF (List.replicate m zF) = ((List.replicate m zF).map (fun x => (encF x).toList)).flatten from rfl]
  rw [flatten_get (k := 8) (by omega) (fun x hx => by obtain ⟨y, _, rfl⟩ := List.mem_map.1 hx; rfl)]
  unfold Builtin.zeroCells
  rw [show (encF zF).size = 8 from rfl]
  by_cases ht : t < m * 8
  · have hq : t / 8 < m := by omega
    have hm : t % 8 < 8 := by omega
    rw [Array.getElem?_toList, Array.getElem?_map, Array.getElem?_range, if_pos ht]
    rw [List.getElem?_map, List.getElem?_replicate, if_pos hq]
    simp only [Option.map_some, Option.bind_some]
    rw [Array.getElem?_toList, Array.getElem?_eq_getElem (show t % 8 < (encF zF).size from hm), getElem!_pos (encF zF) (t % 8) hm]
  · have hq : ¬ t / 8 < m := by omega
    rw [Array.getElem?_toList, Array.getElem?_map, Array.getElem?_range, if_neg ht]
    rw [List.getElem?_map, List.getElem?_replicate, if_neg hq]
    rfl
theorem sufA_in (gg cap i : Nat) (h : i < cap) : sufA (some ⟨gg, 0, none⟩) cap i 8 = some ⟨gg, i * 8, none⟩ := by
  unfold sufA
  rw [if_neg (by omega)]
  simp [add_at]
set_option maxHeartbeats 8000000 in
theorem del_call {F0 : List Nat} {w0 w : World} {R : List Asrt} {b : Int} {g : Nat} {A : List Fl} {v : Value} (h : In F0 w0 w (RowA 59 8 v A.length (flatF A) :: Cells g #[.int .i64 b] 3 :: R)) (hA : A.length ≤ 1000000) :
    Calls Try.prog 70 #[v, .func (.func 71) #[] #[.pointer (some ⟨g, 0, none⟩)]] w (DelPost b A F0 w0 g R) := by
  have HI := Lib.hid (ix_call h 0 rfl 1 rfl)
  obtain ⟨Fv, hv⟩ := h.get 0 rfl
  obtain ⟨a, cap, rfl, l1, l2, -⟩ := hv.shape
  unfold maxLen at l2
  have eg : ∀ args w, (callFunc 71 args).run Try.prog w = .ok (.enter 71 args) w := enters_of Try.func71 (by kernel_rfl) rfl
  have HA : Hid (0 < A.length → ∃ gg, a = some ⟨gg, 0, none⟩) := Lib.hid fun h0 => by
    obtain ⟨_, _, h4 | ⟨g', c, cur, e, _⟩⟩ := hv
    · omega
    · cases e; exact ⟨_, rfl⟩
  clear h hv
  go_enter Try.func70, Try.ntmps70
  go_wp2_with fail
  refine HI.out.mono ?_
  rintro e w1 ⟨ho, ⟨rfl, hno⟩ | ⟨i, x, rfl, hx, hb, hno⟩⟩
  · have HF : Hid (DelPost b A F0 w0 g R (.returned (.slice a A.length cap)) w1) := Lib.hid ⟨_, rfl, by
      have e : A.filter (keepF b) = A := List.filter_eq_self.2 (fun y hy => by simp [keepF, hno y hy])
      rw [e]; exact ho⟩
    clear ho hno HI
    go_wp2_with fail
    go_ret
    exact HF.out
  · have hi := (List.getElem?_eq_some_iff.1 hx).1
    obtain ⟨gg, rfl⟩ := HA.out (by omega)
    have HS : Hid (DelRel b g gg cap A F0 w0 R (.int .i64 i) (.int .i64 (i + 1)) w1) := Lib.hid ⟨i, i + 1, A, rfl, rfl, DelOk.start hx hb hno, ho⟩
    have hm1 : ((i : Int) == -1) = false := beq_eq_false_iff_ne.2 (by omega)
    clear ho hno hx hb HI HA
    go_wp2_with fail
    go_loopw [5, 6, 7] (fun vi vj _ wr => DelRel b g gg cap A F0 w0 R vi vj wr) (fun _ vj _ _ => A.length - (intOf vj).toNat)
    case atStart => exact HS.out
    case round =>
      obtain ⟨i', j, B, rfl, rfl, hd, ho⟩ := hrel
      clear HS hm1
      by_cases hlt : j < A.length
      · obtain ⟨x', hx'⟩ : ∃ x', B[j]? = some x' := ⟨B[j]'(by have := hd.len; omega), List.getElem?_eq_getElem _⟩
        obtain ⟨F1, hr⟩ := ho.get 0 rfl
        have hBl : B.length = A.length := hd.len
        have hr' : RowA 59 8 (.slice (some ⟨gg, 0, none⟩) B.length cap) B.length (flatF B) wr F1 := by rw [hBl]; exact hr
        obtain ⟨g1, o1, e1, hc⟩ := view_flow hr'.view (by omega)
        cases e1
        obtain ⟨a0, a1, a2, a3, a4, a5, a6, a7⟩ := hc j x' hx'
        simp only [Nat.zero_add] at a0 a1 a2 a3 a4 a5 a6 a7
        have hj1 : (j : Int) < (A.length : Int) := by omega
        have hcell := ho.cells (encF x') 59
        have HCELL := Lib.hid hcell
        have HP : Hid (Calls Try.prog 71 #[.agg (encF x'), .pointer (some ⟨g, 0, none⟩)] (wr.alloc (.cells (encF x') 59)) fun e w' => e = .returned (.bool (bkNe b x')) ∧ In F0 w0 w' (Cells wr.heap.size (encF x') 59 :: RowA 59 8 (.slice (some ⟨gg, 0, none⟩) A.length cap) A.length (flatF B) :: Cells g #[.int .i64 b] 3 :: R)) := Lib.hid ((of_pred b x' _ g (cell_of (hcell.block 2 rfl) rfl)).mono fun e w' ⟨he, hm⟩ => ⟨he, hcell.keepM hm⟩)
        have HD := Lib.hid hd
        have HX := Lib.hid hx'
        clear ho hr hr' hBl hc hcell hx' hlt hd
        cases hq : bkNe b x' with
        | true =>
          rw [hq] at HP
          have HR : Hid (DelOk b A B i' (j + 1)) := Lib.hid (HD.out.skip HX.out hq)
          clear hq
          go_wp2_with fail
          refine HP.out.mono ?_
          rintro e w2 ⟨rfl, ho⟩
          have HS : Hid (DelRel b g gg cap A F0 w0 R (.int .i64 i') (.int .i64 (j + 1)) w2) := Lib.hid ⟨i', j + 1, B, rfl, by congr 1, HR.out, ho.drop⟩
          clear ho
          go_wp2_with fail
          go_roundw
          case rel => exact HS.out
          case measure => simp [intOf]; omega
        | false =>
          rw [hq] at HP
          have HR : Hid (DelOk b A (B.set i' x') (i' + 1) (j + 1)) := Lib.hid (HD.out.keep HX.out hq)
          have hin : i' < A.length := by have := HD.out.ij; have := HD.out.jn; omega
          have hi2 : (i' : Int) < (A.length : Int) := by omega
          clear hq
          go_wp2_with fail
          refine HP.out.mono ?_
          rintro e w2 ⟨rfl, ho⟩
          obtain ⟨f0, f1, f2, f3, f4, f5, f6, f7⟩ := o_fl0 ho 0 rfl
          have H2 := Lib.hid ho
          have hfl : (flatF B).length = A.length * 8 := by rw [flatF_length, HD.out.len]
          obtain ⟨F1, hr⟩ := ho.get 1 rfl
          have hth : w2.there gg (i' * 8) 8 := hr.there (by rw [hfl]; omega)
          have HTH : Hid (w2.there gg (i' * 8) (encF x').size) := Lib.hid hth
          have HALL : Hid ((encF x').all (·.oneCell') = true) := Lib.hid (all_oneCell_toArray (cs := (encF x').toList) (fun v hv => by simp at hv; rcases hv with rfl | rfl | rfl | rfl | rfl | rfl | rfl | rfl <;> rfl))
          have HINF : Hid ((Try.prog.info? 59).map (·.size) = some (encF x').size) := Lib.hid (by kernel_rfl)
          have HPUT : Hid (In F0 w0 (w2.setCells gg (i' * 8) (encF x').toList) (RowA 59 8 (.slice (some ⟨gg, 0, none⟩) A.length cap) A.length (flatF (B.set i' x')) :: Cells g #[.int .i64 b] 3 :: R)) := Lib.hid (by
            have h5 := row_put ho 1 rfl (o := i' * 8) (us := (encF x').toList) (by rw [hfl]; simp; omega)
            rw [flatF_set x' (by rw [HD.out.len]; exact hin)] at h5
            exact h5.drop)
          clear ho hr hth hfl hin HP
          go_wp2_with (refine wpList_store_mid (op := ⟨none, Op.store 59 (.tmp 33) (.tmp 32), _, _, _, _⟩) (by rfl) 59 (.tmp 33) (.tmp 32) rfl gg (i' * 8) (encF x') (by rfl) (by rfl) HTH.out HINF.out HALL.out ?_)
          have HS : Hid (DelRel b g gg cap A F0 w0 R (.int .i64 (i' + 1)) (.int .i64 (j + 1)) (w2.setCells gg (i' * 8) (encF x').toList)) := Lib.hid ⟨i' + 1, j + 1, _, by congr 1, by congr 1, HR.out, HPUT.out⟩
          go_roundw
          case rel => exact HS.out
          case measure => simp [intOf]; omega
      · have hge : (A.length : Int) ≤ (j : Int) := by omega
        have hjn : j = A.length := by have := hd.jn; omega
        subst hjn
        have hin : i' < A.length := hd.ij
        have hfl : (flatF B).length = A.length * 8 := by rw [flatF_length, hd.len]
        have hsuf : ∀ W, (Instr.slice 51 (.slice (some ⟨gg, 0, none⟩) A.length cap) (some (.int .i64 i')) none none).run Try.prog W = .ok (.slice (some ⟨gg, i' * 8, none⟩) (A.length - i') (cap - i')) W := fun W => by
          rw [run_suffix Try.underlying51 infoFlow _ _ _ _ (by omega) W, sufA_in gg cap i' (by omega)]
        have hpre : ∀ W, (Instr.slice 51 (.slice (some ⟨gg, 0, none⟩) A.length cap) none (some (.int .i64 i')) none).run Try.prog W = .ok (.slice (some ⟨gg, 0, none⟩) i' cap) W := fun W => run_prefix Try.underlying51 infoFlow _ _ _ _ (by omega) W
        obtain ⟨F1, hr⟩ := ho.get 0 rfl
        have hzl : (Builtin.zeroCells (Value.agg (encF zF)).cells (A.length - i')).toList = flatF (List.replicate (A.length - i') zF) := zeros_flat _
        have hcl : ∀ ty, (Builtin.clear_ #[51] ty #[.slice (some ⟨gg, i' * 8, none⟩) (A.length - i') (cap - i')]).run Try.prog wr = .ok (.tuple #[]) (wr.setCells gg (i' * 8) (flatF (List.replicate (A.length - i') zF))) := fun ty => by
          have h6 := clear_run (ty := ty) Try.underlying51 zero_flowF wr gg (i' * 8) (A.length - i') (cap - i') (by
            rw [hzl]; intro v hv
            obtain ⟨l, hl, hv⟩ := List.mem_flatten.1 hv
            obtain ⟨y, _, rfl⟩ := List.mem_map.1 hl
            simp at hv; rcases hv with rfl | rfl | rfl | rfl | rfl | rfl | rfl | rfl <;> rfl) (by rw [hzl]; exact hr.there (by rw [hfl, flatF_length, List.length_replicate]; omega))
          rw [if_neg (by omega), hzl] at h6
          exact h6
        have HF : Hid (DelPost b A F0 w0 g R (.returned (.slice (some ⟨gg, 0, none⟩) i' cap)) (wr.setCells gg (i' * 8) (flatF (List.replicate (A.length - i') zF)))) := Lib.hid ⟨_, rfl, by
          have h7 := row_put ho 0 rfl (o := i' * 8) (us := flatF (List.replicate (A.length - i') zF)) (by rw [hfl, flatF_length, List.length_replicate]; omega)
          have hM : (A.filter (keepF b)).length = i' := by rw [← hd.done, List.length_take, hd.len]; omega
          rw [hM]
          refine h7.imp 0 rfl (RowA.framed _ _ _ _ _) (fun F hF => ?_)
          have h8 := hF.pre (m := i') (by omega)
          have e9 : (putAt (flatF B) (i' * 8) (flatF (List.replicate (A.length - i') zF))).take (i' * 8) = flatF (A.filter (keepF b)) := by
            unfold putAt
            rw [List.append_assoc, List.take_append_of_le_length (by rw [List.length_take, hfl]; omega), List.take_take, Nat.min_self, flatF_take, hd.done]
          rw [e9] at h8
          exact h8⟩
        clear ho hr hzl hfl hd hlt hin
        generalize wr.setCells gg (i' * 8) (flatF (List.replicate (A.length - i') zF)) = w3 at *
        go_wp2_with (simp only [hcl])
        go_ret
        exact HF.out
/-- 'Of'. -/
def ofF (b : Int) (L : List Fl) : List Fl := (sortF L).filter (keepF b)
set_option maxHeartbeats 2000000 in
theorem fof {w : World} {bt : Nat} {most idle : Int} {L : List Fl} {F : List Nat} (h : FA bt most idle L w F) (b : Int) :
    Calls Try.prog 39 #[.pointer (some ⟨bt, 0, none⟩), .int .i64 b] w (Gives w F (fun v => Star [FA bt most idle L, RowA 59 8 v (ofF b L).length (flatF (ofF b L))])) := by
  have hs0 : Star [FA bt most idle L] w F := ⟨F, [], h, rfl, fun b _ => by simp, by simp⟩
  have h0 := In.start (R := [FA bt most idle L]) (by simp; exact FA.framed _ _ _ _) hs0
  have hL : (sortF L).length ≤ 1000000 := by
    rw [sortF_length]
    have := (h0.okF 0 rfl).room; have := (h0.okF 0 rfl).most; omega
  have h1 := h0.cells #[.int .i64 b] 3
  have H1 := Lib.hid h1
  have HA := Lib.hid (o_fall h1 1 rfl)
  clear h h0 h1 hs0
  go_enter Try.func39, Try.ntmps39
  go_wp2_with fail
  generalize w.heap.size = gb at *
  refine HA.out.mono ?_
  rintro e w1 ⟨v, rfl, ho⟩
  have HD := Lib.hid (del_call (g := gb) (b := b) ho hL)
  clear ho HA H1 hL
  go_wp2_with fail
  refine HD.out.mono ?_
  rintro e w2 ⟨v2, rfl, ho⟩
  have HF : Hid (Gives w F (fun v => Star [FA bt most idle L, RowA 59 8 v (ofF b L).length (flatF (ofF b L))]) (.returned v2) w2) := Lib.hid (by
    have h3 := (ho.perm (List.Perm.swap _ _ _)).drop
    have h4 := h3.perm (List.Perm.swap _ _ _)
    exact h4.gives v2 _ (fun F hF => hF))
  clear ho HD
  go_wp2_with fail
  go_ret
  exact HF.out
section
variable {F0 : List Nat} {w0 w : World} {R : List Asrt} {bt : Nat} {most idle : Int} {L : List Fl}
theorem o_fof (h : In F0 w0 w R) (i : Nat) (hA : R[i]? = some (FA bt most idle L)) (b : Int) :
    Calls Try.prog 39 #[.pointer (some ⟨bt, 0, none⟩), .int .i64 b] w fun e w' => ∃ v, e = .returned v ∧ In F0 w0 w' (RowA 59 8 v (ofF b L).length (flatF (ofF b L)) :: R.set i (FA bt most idle L)) :=
  own_two h i hA (FA.framed _ _ _ _) (fun v => RowA.framed _ _ _ _ _) fun F hF => fof hF b
end
end Go.Proofs.Ytcakgponofbhkaa
