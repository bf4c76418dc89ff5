/- The document's queue: 'Due'; the calls beside other things. -/
import Derived.Test.YtijkfcapooldiaaRQueueSet
namespace Go.Proofs.Ytijkfcapooldiaa
open Go.RowKit
set_option linter.unusedVariables false
set_option maxRecDepth 100000

theorem infoStr1 : (Try.prog.info? 9).map (fun i => (i.zero.map (fun z => z.cells.size), i.size, i.bytes)) = some (some 1, 1, 16) := by kernel_rfl
def isDueK (now : Int) (x : KT) : Bool := decide (x.2 ≤ now)
def RQDueRel (br : Nat) (L : List KT) (now : Int) (w : World) (F : List Nat) (u : Value) (wr : World) : Prop :=
  ∃ (i : Nat) (v : Value), i ≤ L.length ∧ (∀ y ∈ L.take i, y.2 ≤ now) ∧ In F w wr (RowA 9 1 u i ((L.map (fun x => Value.string x.1)).take i) :: RQr br v (L.drop i))
theorem due_at {L : List KT} {now : Int} : ∀ {i : Nat}, i ≤ L.length → (∀ y ∈ L.take i, y.2 ≤ now) → (∀ y, L[i]? = some y → now < y.2) → dueK L now = (L.take i).map (·.1) ∧ dueR L now = L.drop i := by
  induction L with
  | nil => intro i _ _ _; simp [dueK, dueR]
  | cons z r ih =>
    intro i hi h1 h2
    cases i with
    | zero =>
      have := h2 z rfl
      simp [dueK, dueR, List.takeWhile_cons, List.dropWhile_cons, Int.not_le.2 this]
    | succ i =>
      have hz : z.2 ≤ now := h1 z (by simp)
      obtain ⟨e1, e2⟩ := ih (i := i) (by simpa using hi) (fun y hy => h1 y (by simp [hy])) (fun y hy => h2 y (by simpa using hy))
      unfold dueK dueR at *
      simp [List.takeWhile_cons, List.dropWhile_cons, hz, e1, e2]
theorem rest_len (wr : World) (v : Value) (F : List Nat) (L : List KT) (i : Nat) (h : ViewA 2 v (L.drop i).length (flatQ (L.drop i)) wr F) : True := trivial

set_option maxHeartbeats 8000000 in
theorem rqdue {w : World} {br : Nat} {L : List KT} {F : List Nat} (h : RQA br L w F) (hL : L.length ≤ 4096) (now : Int) :
    Calls Try.prog 20 #[.pointer (some ⟨br, 0, none⟩), .int .i64 now] w (Gives w F (fun v => Star [RQA br (dueR L now), StrsA v (dueK L now)])) := by
  have HG : Hid (∀ i v u wz, i ≤ L.length → (∀ y ∈ L.take i, y.2 ≤ now) → (∀ y, L[i]? = some y → now < y.2) → In F w wz (RowA 9 1 u i ((L.map (fun x => Value.string x.1)).take i) :: [Cells br #[v] 50, ViewA 2 v (L.length - i) (flatQ (L.drop i))]) → Gives w F (fun v => Star [RQA br (dueR L now), StrsA v (dueK L now)]) (.returned u) wz) :=
    Lib.hid fun i v u wz hi h1 h2 hz => by
      obtain ⟨e1, e2⟩ := due_at hi h1 h2
      rw [e1, e2]
      rw [← List.length_drop] at hz
      have a1 := hz.sel [1, 2, 0] (by decide) rfl
      have a2 := (In.join (A1 := [_, _]) (R := [_]) a1).imp (A' := RQA br (L.drop i)) 0 rfl (RQA.framed _ _) (fun F hF => ⟨_, hF⟩)
      have a3 := a2.imp (A' := StrsA u ((L.take i).map (·.1))) 1 rfl (StrsA.framed _ _) (fun F hF => by
        obtain ⟨q1, q2⟩ := hF
        refine ⟨q1, ?_⟩
        unfold Strs
        rw [List.length_map, List.length_take, Nat.min_eq_left hi, List.map_map]
        rw [← List.map_take] at q2
        exact q2)
      exact a3.gives u _ (fun F' hs => hs)
  obtain ⟨v, h⟩ := h
  have HS : Hid (RQDueRel br L now w F (.slice none 0 0) w) := Lib.hid ⟨0, v, Nat.zero_le _, by simp, by simpa using (In.start RQr.framed h).rownil 9 1⟩
  clear h
  go_enter Try.func20, Try.ntmps20
  go_wp2_with fail
  go_loopw [5] (RQDueRel br L now w F) (fun u _ => match u with | .slice _ n _ => L.length - n | _ => 0)
  case atStart => exact HS.out
  case round =>
    obtain ⟨i, v, hi, hdue, ho⟩ := hrel
    clear HS
    have hln : (L.drop i).length = L.length - i := List.length_drop
    unfold RQr at ho
    rw [hln] at ho
    obtain ⟨Fr, hr⟩ := ho.get 2 rfl
    obtain ⟨a, cap, rfl, hcap, hcm⟩ := hr.shape
    obtain ⟨Fu, hu⟩ := ho.get 0 rfl
    obtain ⟨au, cu, rfl, -, -, -⟩ := hu.shape
    have c0 : wr.cell? ⟨br, 0, none⟩ = some (.slice a (L.length - i) cap) := cell_of (ho.block 1 rfl) rfl
    by_cases hlt : i < L.length
    · obtain ⟨x, hx⟩ : ∃ x, L[i]? = some x := ⟨L[i], List.getElem?_eq_getElem hlt⟩
      have hx0 : (L.drop i)[0]? = some x := by rw [List.getElem?_drop]; simpa using hx
      obtain ⟨ba, oo, rfl, hq⟩ := hr.at (by omega) (by omega)
      have r0 : wr.cell? ⟨ba, oo, none⟩ = some (.string x.1) := by simpa using hq _ _ (flatQ_at hx0).1
      have r1 : wr.cell? ⟨ba, oo + 1, none⟩ = some (.int .i64 x.2) := by simpa using hq _ _ (flatQ_at hx0).2
      have f0 : wr.frozen? ⟨br, 0, none⟩ = false := free_of (ho.block 1 rfl)
      have i1 : 0 < L.length - i := by omega
      have i2 : (0 : Int) < ((L.length - i : Nat) : Int) := by omega
      by_cases hd : x.2 ≤ now
      · have hsuf := run_suffix Try.underlying48 infoEntry (some ⟨ba, oo, none⟩) (L.length - i) cap 1 (by omega)
        have HO := Lib.hid ho
        have HR : Hid (∀ u wz, In F w wz (RowA 9 1 u (i + 1) ((L.map (fun x => Value.string x.1)).take i ++ [Value.string x.1]) :: Cells br #[.slice (sufA (some ⟨ba, oo, none⟩) cap 1 2) (L.length - i - 1) (cap - 1)] 50 :: [ViewA 2 (.slice (some ⟨ba, oo, none⟩) (L.length - i) cap) (L.length - i) (flatQ (L.drop i))]) → RQDueRel br L now w F u wz) :=
          Lib.hid fun u wz hz => by
            refine ⟨i + 1, .slice (sufA (some ⟨ba, oo, none⟩) cap 1 2) (L.length - i - 1) (cap - 1), by omega, fun y hy => ?_, ?_⟩
            · rw [List.take_add_one, hx] at hy
              rcases List.mem_append.1 hy with hy | hy
              · exact hdue y hy
              · simp at hy; subst hy; exact hd
            · have e : (L.map (fun x => Value.string x.1)).take (i + 1) = (L.map (fun x => Value.string x.1)).take i ++ [Value.string x.1] := by
                rw [List.take_add_one, List.getElem?_map, hx]; rfl
              rw [e]
              have := hz.imp (A' := ViewA 2 (.slice (sufA (some ⟨ba, oo, none⟩) cap 1 2) (L.length - i - 1) (cap - 1)) (L.drop (i + 1)).length (flatQ (L.drop (i + 1)))) 2 rfl (ViewA.framed _ _ _ _) (fun F hF => by
                have hc := hF.cut (i := 1) (by omega)
                have e2 : (flatQ (L.drop i)).drop (1 * 2) = flatQ (L.drop (i + 1)) := by rw [flatQ_drop, List.drop_drop]
                have e3 : L.length - i - 1 = (L.drop (i + 1)).length := by simp; omega
                rw [e2, e3] at hc
                rw [e3]
                exact hc)
              exact this
        clear ho hr hx hx0 hlt hu hq HG hdue hln
        go_wp2_with (at_builtin; refine append_elem' (HO.out.alloc _) 0 rfl rfl (.tmp 23) (.tmp 31) 30 rfl Try.underlying30 infoStr1 (by decide) (by decide) rfl _ #[.string x.1] rfl hp_alloc_new rfl (fun u hu => by simp at hu; subst hu; rfl) (by omega) ?_)
        intro v' w3 ho
        have c1 : w3.cell? ⟨br, 0, none⟩ = some (.slice (some ⟨ba, oo, none⟩) (L.length - i) cap) := cell_of (ho.block 1 rfl) rfl
        have f1 : w3.frozen? ⟨br, 0, none⟩ = false := free_of (ho.block 1 rfl)
        have HE := Lib.hid (HR.out v' _ (ho.put 1 rfl 0 (.slice (sufA (some ⟨ba, oo, none⟩) cap 1 2) (L.length - i - 1) (cap - 1))))
        obtain ⟨F3, hr3⟩ := ho.get 0 rfl
        obtain ⟨a3, cap3, rfl, -, -, -⟩ := hr3.shape
        clear ho hr3 HO HR
        go_wp2_with fail
        go_roundw
        case rel => exact HE.out
        case measure => simp; omega
      · have hd' : decide (x.2 ≤ now) = false := by simp; omega
        have HE := Lib.hid (HG.out i _ _ wr hi hdue (fun y hy => by rw [hx] at hy; cases hy; omega) ho)
        clear ho hr hx hx0 hlt hu hq HG hdue hd hln
        go_wp2_with fail
        go_ret
        exact HE.out
    · have hil : i = L.length := by omega
      have HE := Lib.hid (HG.out i _ _ wr hi hdue (fun y hy => by have := (List.getElem?_eq_some_iff.1 hy).1; omega) ho)
      rw [show L.length - i = 0 by omega] at c0
      clear ho hr hlt hu HG hdue hil hln
      go_wp2_with fail
      go_ret
      exact HE.out

section
variable {F0 : List Nat} {w0 w : World} {R : List Asrt} {br : Nat} {S : List KT}
theorem o_rqdue (h : In F0 w0 w R) (i : Nat) (hA : R[i]? = some (RQA br S)) (hl : S.length ≤ 4096) (now : Int) :
    Calls Try.prog 20 #[.pointer (some ⟨br, 0, none⟩), .int .i64 now] w fun e w' => ∃ v, e = .returned v ∧ In F0 w0 w' (StrsA v (dueK S now) :: R.set i (RQA br (dueR S now))) := by
  have fr : ∀ v, Framed (Star [RQA br (dueR S now), StrsA v (dueK S now)]) := fun v => Framed.star (fun A hA => by
    simp only [List.mem_cons, List.not_mem_nil, or_false] at hA
    rcases hA with rfl | rfl
    · exact RQA.framed _ _
    · exact StrsA.framed _ _)
  refine (h.call (A' := fun v => Star [RQA br (dueR S now), StrsA v (dueK S now)]) i hA fr fun F hF => rqdue hF hl now).mono fun e w' ⟨v, he, ho⟩ => ⟨v, he, ?_⟩
  have hi := (List.getElem?_eq_some_iff.1 hA).1
  have := ho.split (A := RQA br (dueR S now)) (B := StrsA v (dueK S now)) i (by simp [hi]) (RQA.framed _ _) (StrsA.framed _ _)
  rwa [List.set_set] at this
set_option maxHeartbeats 4000000 in
theorem rqset_full {w : World} {br : Nat} {L : List KT} {F : List Nat} (h : RQA br L w F) (hL : L.length ≤ 2048) {b : ByteArray} {t : Int} (ht : 0 ≤ t ∧ t ≤ 1099511627776) (hno : atS L b = none) (hfull : 1024 ≤ L.length) :
    Calls Try.prog 18 #[.pointer (some ⟨br, 0, none⟩), .string b, .int .i64 t] w (GV (.int .i64 9) (RQA br L) w F) := by
  have HU := o_rqat (in_one (RQA.framed br L) h) 0 rfl (by omega) b
  rw [hno] at HU
  have HU' := Lib.hid HU
  have hti := time_true ht w
  clear h ht hno HU
  go_enter Try.func18, Try.ntmps18
  go_wp2_with fail
  refine hti.mono ?_
  rintro e w1 ⟨rfl, rfl⟩
  go_wp2_with fail
  refine HU'.out.mono ?_
  rintro e w1 ⟨rfl, ho⟩
  obtain ⟨v1, ho1⟩ := In.open1 (G := fun v => RQr br v L) (fun v => RQr.framed) ho
  obtain ⟨Fr, hr⟩ := ho1.get 1 rfl
  obtain ⟨a, cap, rfl, -, -⟩ := hr.shape
  have c1 : w1.cell? ⟨br, 0, none⟩ = some (.slice a L.length cap) := cell_of (ho1.block 0 rfl) rfl
  have HG : Hid (GV (.int .i64 9) (RQA br L) w F (.returned (.int .i64 9)) w1) := Lib.hid (GV.mk ho1 (fun F' hs => ⟨_, hs⟩))
  have hfull' : (1024 : Int) ≤ (L.length : Int) := by omega
  clear ho ho1 hr HU' hti
  go_wp2_with fail
  go_ret
  exact HG.out
theorem rqset_arg {w : World} {br : Nat} {b : ByteArray} {t : Int} (ht : ¬ (0 ≤ t ∧ t ≤ 1099511627776)) :
    Calls Try.prog 18 #[.pointer (some ⟨br, 0, none⟩), .string b, .int .i64 t] w fun e w' => e = .returned (.int .i64 1) ∧ w = w' := by
  have hti := time_false ht w
  clear ht
  go_enter Try.func18, Try.ntmps18
  go_wp2_with fail
  refine hti.mono ?_
  rintro e w1 ⟨rfl, rfl⟩
  go_wp2_with fail
  go_ret
  exact ⟨rfl, rfl⟩
theorem o_rqset (h : In F0 w0 w R) (i : Nat) (hA : R[i]? = some (RQA br S)) (hl : S.length ≤ 1024) (hk : Keys1 S) (b : ByteArray) (t : Int) :
    Calls Try.prog 18 #[.pointer (some ⟨br, 0, none⟩), .string b, .int .i64 t] w fun e w' => e = .returned (.int .i64 (setS S b t).2) ∧ In F0 w0 w' (R.set i (RQA br (setS S b t).1)) := by
  refine own_val h i hA (RQA.framed _ _) fun F hF => ?_
  show Calls _ _ _ _ (GV (.int .i64 (setS S b t).2) (RQA br (setS S b t).1) w F)
  unfold setS
  split
  · rename_i ha
    exact (rqset_arg (by omega)).mono fun e w' ⟨he, hw⟩ => by subst he; subst hw; exact ⟨_, rfl, F, ⟨rfl, hF⟩, Grew.refl _ _, Mod.refl _ _⟩
  · rename_i ha
    split
    · rename_i hf
      exact rqset_full hF (by omega) (by omega) hf.1 hf.2
    · rename_i hf
      exact rqset_ok hF (by omega) hk (by omega) hf
end
end Go.Proofs.Ytijkfcapooldiaa
