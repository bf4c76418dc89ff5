/- The document's row of backends that drain: the calls beside other things. -/
import Derived.Test.YtcakgponofbhkaaRDrainsSame
namespace Go.Proofs.Ytcakgponofbhkaa
open Go.RowKit
set_option linter.unusedVariables false
set_option maxRecDepth 100000

set_option maxHeartbeats 4000000 in
theorem rdput_full {w : World} {br : Nat} {L : List BT} {F : List Nat} (h : RDA br L w F) (hL : L.length ≤ 2048) {b t : Int} (hb : MayB b) (ht : 0 ≤ t ∧ t ≤ 1099511627776) (hno : atD L b = none) (hfull : 1024 ≤ L.length) :
    Calls Try.prog 20 #[.pointer (some ⟨br, 0, none⟩), .int .i64 b, .int .i64 t] w (GV (.int .i64 9) (RDA br L) w F) := by
  have HU := o_rduntil (in_one (RDA.framed br L) h) 0 rfl (by omega) b
  rw [hno] at HU
  have HU' := Lib.hid HU
  have hti := time_true ht w
  have b0 : 0 ≤ b := hb.1
  have b1 : b ≤ 65535 := hb.2
  have hd : decide ((1024 : Int) ≤ (L.length : Int)) = true := by simp; omega
  clear h hb ht hno HU
  go_enter Try.func20, Try.ntmps20
  go_wp2_with fail
  refine hti.mono ?_
  rintro e w1 ⟨rfl, rfl⟩
  go_wp2_with fail
  refine HU'.out.mono ?_
  rintro e w1 ⟨rfl, ho⟩
  obtain ⟨v1, ho1⟩ := In.open1 (G := fun v => RDr br v L) (fun v => RDr.framed) ho
  obtain ⟨Fr, hr⟩ := ho1.get 1 rfl
  obtain ⟨a, cap, rfl, -, -, -⟩ := hr.shape
  have c1 : w1.cell? ⟨br, 0, none⟩ = some (.slice a L.length cap) := cell_of (ho1.block 0 rfl) rfl
  have HG : Hid (GV (.int .i64 9) (RDA br L) w F (.returned (.int .i64 9)) w1) := Lib.hid (GV.mk ho1 (fun F' hs => ⟨_, hs⟩))
  have hfull' : (1024 : Int) ≤ (L.length : Int) := by omega
  clear ho ho1 hr HU' hti hd
  go_wp2_with fail
  go_ret
  exact HG.out
theorem rdput {w : World} {br : Nat} {L : List BT} {F : List Nat} (h : RDA br L w F) (hL : L.length ≤ 2048) (hk : KeysD L) (b t : Int) :
    Calls Try.prog 20 #[.pointer (some ⟨br, 0, none⟩), .int .i64 b, .int .i64 t] w (GV (.int .i64 (rputD L b t).2) (RDA br (rputD L b t).1) w F) := by
  unfold rputD
  split
  · rename_i ha
    exact (rdput_arg (by unfold MayB; omega)).mono fun e w' ⟨he, hw⟩ => by subst he; subst hw; exact ⟨_, rfl, F, ⟨rfl, h⟩, Grew.refl _ _, Mod.refl _ _⟩
  · rename_i ha
    split
    · rename_i hf
      exact rdput_full h hL (by unfold MayB; omega) (by omega) hf.1 hf.2
    · rename_i hf
      exact rdput_ok h hL hk (by unfold MayB; omega) (by omega) hf
section
variable {F0 : List Nat} {w0 w : World} {R : List Asrt} {br : Nat} {M : List BT}
theorem o_rdput (h : In F0 w0 w R) (i : Nat) (hA : R[i]? = some (RDA br (sortD M))) (hl : M.length ≤ 1024) (hk : KeysD M) (b t : Int) :
    Calls Try.prog 20 #[.pointer (some ⟨br, 0, none⟩), .int .i64 b, .int .i64 t] w fun e w' => e = .returned (.int .i64 (putB M b t).2) ∧ In F0 w0 w' (R.set i (RDA br (sortD (putB M b t).1))) := by
  have e := rput_sortD hk b t
  refine own_val h i hA (RDA.framed _ _) fun F hF => ?_
  have := rdput hF (by rw [sortD_length]; omega) (sortedB_nodup (sortD_sorted hk)) b t
  rw [e] at this
  exact this
theorem o_rduntilM (h : In F0 w0 w R) (i : Nat) (hA : R[i]? = some (RDA br (sortD M))) (hl : M.length ≤ 1024) (hk : KeysD M) (b : Int) :
    Calls Try.prog 25 #[.pointer (some ⟨br, 0, none⟩), .int .i64 b] w fun e w' => e = .returned (.tuple #[.int .i64 ((atD M b).getD 0), .bool (atD M b).isSome]) ∧ In F0 w0 w' (R.set i (RDA br (sortD M))) := by
  have := o_rduntil h i hA (by rw [sortD_length]; omega) b
  rwa [atD_sortD hk] at this
theorem o_rdclearM (h : In F0 w0 w R) (i : Nat) (hA : R[i]? = some (RDA br (sortD M))) (hl : M.length ≤ 1024) (hk : KeysD M) (b : Int) :
    Calls Try.prog 22 #[.pointer (some ⟨br, 0, none⟩), .int .i64 b] w fun e w' => e = .returned (.bool (atD M b).isSome) ∧ In F0 w0 w' (R.set i (RDA br (sortD (delD b M)))) := by
  have := o_rdclear h i hA (by rw [sortD_length]; omega) (sortedB_nodup (sortD_sorted hk)) b
  rwa [atD_sortD hk, delD_sortD hk] at this
theorem o_rddue (h : In F0 w0 w R) (i : Nat) (hA : R[i]? = some (RDA br (sortD M))) (hl : M.length ≤ 1024) (hk : KeysD M) (hM : M.Pairwise LtTB) (now : Int) :
    Calls Try.prog 23 #[.pointer (some ⟨br, 0, none⟩), .int .i64 now] w fun e w' => ∃ v, e = .returned v ∧ In F0 w0 w' (RowA 3 1 v (dueD M now).length ((dueD M now).map (fun x => Value.int .i64 x.1)) :: R.set i (RDA br (sortD (dueDR M now)))) := by
  have fr : ∀ v, Framed (Star [RDA br (sortD (dueDR M now)), RowA 3 1 v (dueD M now).length ((dueD M now).map (fun x => Value.int .i64 x.1))]) := fun v => Framed.star (fun A hA => by
    simp only [List.mem_cons, List.not_mem_nil, or_false] at hA
    rcases hA with rfl | rfl
    · exact RDA.framed _ _
    · exact RowA.framed _ _ _ _ _)
  refine (h.call (A' := fun v => Star [RDA br (sortD (dueDR M now)), RowA 3 1 v (dueD M now).length ((dueD M now).map (fun x => Value.int .i64 x.1))]) i hA fr fun F hF => rddue hF hk hM (by omega) now).mono fun e w' ⟨v, he, ho⟩ => ⟨v, he, ?_⟩
  have hi := (List.getElem?_eq_some_iff.1 hA).1
  have := ho.split (A := RDA br (sortD (dueDR M now))) (B := RowA 3 1 v (dueD M now).length ((dueD M now).map (fun x => Value.int .i64 x.1))) i (by simp [hi]) (RDA.framed _ _) (RowA.framed _ _ _ _ _)
  rwa [List.set_set] at this
end
theorem sortD_nil : sortD [] = [] := by simp [sortD]
theorem dueDR_keys {M : List BT} (h : KeysD M) (now : Int) : KeysD (dueDR M now) := h.sublist ((List.dropWhile_sublist _).map _)
end Go.Proofs.Ytcakgponofbhkaa
