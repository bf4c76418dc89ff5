/- Backends that drain: the calls beside other things; those that every program must know. -/
import Derived.Test.YtcakgponofbhkaaDrainsDue
namespace Go.Proofs.Ytcakgponofbhkaa
open Go.RowKit
set_option linter.unusedVariables false
set_option maxRecDepth 100000

/-- 'Put', whatever the backend. -/
def putB (M : List BT) (b t : Int) : List BT × Int := if 0 ≤ b ∧ b ≤ 65535 then putD M b t else (M, 1)
section
variable {F0 : List Nat} {w0 w : World} {R : List Asrt} {bs : Nat} {M : List BT}
theorem o_dput (h : In F0 w0 w R) (i : Nat) (hA : R[i]? = some (DrA bs M)) (b t : Int) :
    Calls Try.prog 14 #[.pointer (some ⟨bs, 0, none⟩), .int .i64 b, .int .i64 t] w fun e w' => e = .returned (.int .i64 (putB M b t).2) ∧ In F0 w0 w' (R.set i (DrA bs (putB M b t).1)) := by
  unfold putB
  split
  · rename_i hb
    exact own_val h i hA (DrA.framed _ _) fun F hF => dput hF hb t
  · rename_i hb
    exact own_val h i hA (DrA.framed _ _) fun F hF => (dput_arg hb t w).mono fun e w' ⟨he, hw⟩ => ⟨_, he, F, ⟨rfl, hw ▸ hF⟩, Grew.refl _ _, hw ▸ Mod.refl _ _⟩
theorem o_dclear (h : In F0 w0 w R) (i : Nat) (hA : R[i]? = some (DrA bs M)) (b : Int) :
    Calls Try.prog 21 #[.pointer (some ⟨bs, 0, none⟩), .int .i64 b] w fun e w' => e = .returned (.bool (atD M b).isSome) ∧ In F0 w0 w' (R.set i (DrA bs (delD b M))) :=
  own_val h i hA (DrA.framed _ _) fun F hF => dclear hF b
theorem o_duntil (h : In F0 w0 w R) (i : Nat) (hA : R[i]? = some (DrA bs M)) (b : Int) :
    Calls Try.prog 24 #[.pointer (some ⟨bs, 0, none⟩), .int .i64 b] w fun e w' => e = .returned (.tuple #[.int .i64 ((atD M b).getD 0), .bool (atD M b).isSome]) ∧ In F0 w0 w' (R.set i (DrA bs M)) :=
  own_val h i hA (DrA.framed _ _) fun F hF => duntil hF b
theorem o_dis (h : In F0 w0 w R) (i : Nat) (hA : R[i]? = some (DrA bs M)) (b : Int) :
    Calls Try.prog 26 #[.pointer (some ⟨bs, 0, none⟩), .int .i64 b] w fun e w' => e = .returned (.bool (atD M b).isSome) ∧ In F0 w0 w' (R.set i (DrA bs M)) :=
  own_val h i hA (DrA.framed _ _) fun F hF => dis hF b
theorem o_dlen (h : In F0 w0 w R) (i : Nat) (hA : R[i]? = some (DrA bs M)) :
    Calls Try.prog 18 #[.pointer (some ⟨bs, 0, none⟩)] w fun e w' => e = .returned (.int .i64 M.length) ∧ w = w' := by
  obtain ⟨F, hF⟩ := h.get i hA
  exact dlen hF
theorem o_ddue (h : In F0 w0 w R) (i : Nat) (hA : R[i]? = some (DrA bs M)) (now : Int) :
    Calls Try.prog 16 #[.pointer (some ⟨bs, 0, none⟩), .int .i64 now] w fun e w' => ∃ v, e = .returned v ∧ In F0 w0 w' (RowA 3 1 v (dueD M now).length ((dueD M now).map (fun x => Value.int .i64 x.1)) :: R.set i (DrA bs (dueDR M now))) := by
  have fr : ∀ v, Framed (Star [DrA bs (dueDR M now), RowA 3 1 v (dueD M now).length ((dueD M now).map (fun x => Value.int .i64 x.1))]) := fun v => Framed.star (fun A hA => by
    simp only [List.mem_cons, List.not_mem_nil, or_false] at hA
    rcases hA with rfl | rfl
    · exact DrA.framed _ _
    · exact RowA.framed _ _ _ _ _)
  refine (h.call (A' := fun v => Star [DrA bs (dueDR M now), RowA 3 1 v (dueD M now).length ((dueD M now).map (fun x => Value.int .i64 x.1))]) i hA fr fun F hF => ddue hF now).mono fun e w' ⟨v, he, ho⟩ => ⟨v, he, ?_⟩
  have hi := (List.getElem?_eq_some_iff.1 hA).1
  have := ho.split (A := DrA bs (dueDR M now)) (B := RowA 3 1 v (dueD M now).length ((dueD M now).map (fun x => Value.int .i64 x.1))) i (by simp [hi]) (DrA.framed _ _) (RowA.framed _ _ _ _ _)
  rwa [List.set_set] at this
end
theorem put1 : putB [] 2 9 = ([(2, 9)], 0) := by decide +kernel
theorem put2 : putB [(2, 9)] 1 10 = ([(2, 9), (1, 10)], 0) := by decide +kernel
theorem due1 : dueD [(2, 9), (1, 10)] 9 = [(2, 9)] ∧ dueDR [(2, 9), (1, 10)] 9 = [(1, 10)] := by decide +kernel
theorem at1 : atD [(1, 10)] 1 = some 10 ∧ atD [(1, 10)] 2 = none := by decide +kernel

set_option maxHeartbeats 1000000 in
theorem d12awake (w : World) : Calls Try.prog 19 #[] w (TruePost w) := by
  go_enter Try.func19, Try.ntmps19
  go_wp2_with fail
  refine (dnew (Own.nil w)).mono ?_
  rintro e w1 ⟨bs, rfl, ho⟩
  have P1 := o_dput ho 0 rfl 2 9
  rw [put1] at P1
  have P1 := Lib.hid P1
  clear ho
  go_wp2_with fail
  refine P1.out.mono ?_
  rintro e w2 ⟨rfl, ho⟩
  have P2 := o_dput ho 0 rfl 1 10
  rw [put2] at P2
  have P2 := Lib.hid P2
  clear ho P1
  go_wp2_with fail
  refine P2.out.mono ?_
  rintro e w3 ⟨rfl, ho⟩
  have P3 := o_ddue ho 0 rfl 9
  rw [due1.1, due1.2] at P3
  have P3 := Lib.hid P3
  clear ho P2
  go_wp2_with fail
  refine P3.out.mono ?_
  rintro e w4 ⟨v, rfl, ho⟩
  obtain ⟨F, hF⟩ := ho.get 0 rfl
  obtain ⟨a, cap, rfl, hcap, -, hr⟩ := hF.shape
  obtain ⟨b, rfl, c0⟩ := hr 0 (.int .i64 2) rfl
  have P4 := o_dis ho 1 rfl 1
  rw [at1.1] at P4
  have P4 := Lib.hid P4
  clear ho hF hr P3
  go_wp2_with fail
  refine P4.out.mono ?_
  rintro e w5 ⟨rfl, ho⟩
  have P5 := o_dis ho 1 rfl 2
  rw [at1.2] at P5
  have P5 := Lib.hid P5
  clear ho P4
  go_wp2_with fail
  refine P5.out.mono ?_
  rintro e w6 ⟨rfl, ho⟩
  have H6 := Lib.hid ho
  clear ho
  go_wp2_with fail
  go_ret
  exact ⟨rfl, H6.out.mod⟩
theorem o_d12awake {F0 : List Nat} {w0 w : World} {R : List Asrt} (h : In F0 w0 w R) : Calls Try.prog 19 #[] w fun e w' => e = .returned (.bool true) ∧ In F0 w0 w' R := by
  refine (d12awake w).mono fun e w' ⟨he, hm⟩ => ⟨he, ?_⟩
  obtain ⟨F, hs, hF⟩ := h.star
  have fr := Framed.star h.framed
  exact ⟨h.framed, ⟨F, fr.keep hs (fun b hb => hm.block b (fr.lt hs b hb) (by simp)), hF⟩, h.mod.trans hm (fun x hx => by simp at hx)⟩
theorem dall_nil (w : World) : Calls Try.prog 17 #[.pointer none] w fun e w' => e = .returned (.slice none 0 0) ∧ w = w' := by
  go_enter Try.func17, Try.ntmps17
  go_wp2_with fail
  go_ret
  exact ⟨rfl, rfl⟩
end Go.Proofs.Ytcakgponofbhkaa
