/- As many as may be, and more. -/
import Derived.Test.YtcakgponofbhkaaFlowOf
namespace Go.Proofs.Ytcakgponofbhkaa
open Go.RowKit
set_option linter.unusedVariables false
set_option maxRecDepth 100000
attribute [-go_sem] run_eql_struct

/-- The table behind n flows, each of its own. -/
def mkL : Nat → List Fl
  | 0 => []
  | n + 1 => (insF (mkF n 3) (mkL n))
theorem mkL_mem : ∀ {n : Nat} {x : Fl}, x ∈ mkL n ↔ ∃ i : Nat, i < n ∧ x = mkF i 3
  | 0, x => by simp [mkL]
  | n + 1, x => by
    unfold mkL
    rw [(insF_perm _ _).mem_iff, List.mem_cons, mkL_mem]
    constructor
    · rintro (rfl | ⟨i, hi, rfl⟩)
      · exact ⟨n, by omega, rfl⟩
      · exact ⟨i, by omega, rfl⟩
    · rintro ⟨i, hi, rfl⟩
      by_cases h : i = n
      · left; rw [h]
      · exact Or.inr ⟨i, by omega, rfl⟩
theorem mkL_length : ∀ n, (mkL n).length = n
  | 0 => rfl
  | n + 1 => by unfold mkL; rw [(insF_perm _ _).length_eq, List.length_cons, mkL_length]
theorem mkF_t {i j : Nat} (hi : i < 1000) (hj : j < 1000) (h : (mkF i 3).t = (mkF j 3).t) : i = j := by
  have : (i : Int) % 4294967296 = (j : Int) % 4294967296 := by simpa [mkF] using h
  omega
theorem mkF_may (n : Int) : MayF (mkF n 3) := by
  refine ⟨⟨Or.inr rfl, ?_, ?_, ?_, ?_⟩, ?_, ?_, ?_, ?_, ?_, ?_⟩ <;> simp [mkF]
/-- What a put comes to: there is room, or there is none. -/
theorem put_many {room n : Nat} (hn : n < 300) : putF room (mkL (min n room)) (mkF n 3) = if n < room then (mkL (n + 1), true, 0) else (mkL room, false, 9) := by
  have hno : atF (mkL (min n room)) (mkF n 3).t = none := atF_none.2 (fun x hx e => by
    obtain ⟨i, hi, rfl⟩ := mkL_mem.1 hx
    have := mkF_t (by omega) (by omega) e
    omega)
  unfold putF
  rw [if_neg (Decidable.not_not.2 (mkF_may n)), mkL_length]
  by_cases h : n < room
  · rw [if_neg (by rintro ⟨_, h2⟩; omega), if_pos h, hno, delF_none hno, Nat.min_eq_left (by omega)]
    rfl
  · rw [if_pos ⟨hno, by omega⟩, if_neg h, Nat.min_eq_right (by omega)]
def roomOf (most : Int) : Nat := (clampM most).toNat
theorem roomOf_eq (most : Int) : ((roomOf most : Nat) : Int) = clampM most ∧ roomOf most ≤ 256 := by unfold roomOf clampM; omega
def nine (x : Fl) : Fl := { x with bk := 9 }
theorem nine_put {room n : Nat} (h : 0 < n) (hn : n < 300) : ∃ L, putF room (mkL n) (nine (mkF 0 3)) = (L, false, 0) ∧ (ofF 9 L).length = 1 ∧ L.length = n := by
  have h0 : mkF (0 : Nat) 3 ∈ mkL n := mkL_mem.2 ⟨0, h, rfl⟩
  have hkeys : ((mkL n).map (·.t)).Nodup := by
    clear h h0
    induction n with
    | zero => simp [mkL]
    | succ n ih =>
      have : ((mkL (n + 1)).map (·.t)).Perm ((mkF n 3).t :: (mkL n).map (·.t)) := by
        rw [show mkL (n + 1) = insF (mkF n 3) (mkL n) from rfl]; exact (insF_perm _ _).map _
      refine this.nodup_iff.2 (List.nodup_cons.2 ⟨fun hm => ?_, ih (by omega)⟩)
      obtain ⟨x, hx, e⟩ := List.mem_map.1 hm
      obtain ⟨i, hi, rfl⟩ := mkL_mem.1 hx
      have := mkF_t (by omega) (by omega) e
      omega
  have hat : atF (mkL n) (nine (mkF 0 3)).t = some (mkF (0 : Nat) 3) := (atF_some hkeys).2 ⟨h0, rfl⟩
  have hmay : MayF (nine (mkF 0 3)) := by
    have := mkF_may 0
    exact ⟨this.t, by simp [nine], by simp [nine], this.g0, this.g1, this.t0, this.t1⟩
  have hdel := delF_length hkeys (nine (mkF 0 3)).t
  rw [hat] at hdel
  have hlen : (delF (nine (mkF 0 3)).t (mkL n)).length + 1 = n := by
    rw [mkL_length] at hdel
    simp at hdel; omega
  refine ⟨insF (nine (mkF 0 3)) (delF (nine (mkF 0 3)).t (mkL n)), ?_, ?_, ?_⟩
  · unfold putF
    rw [if_neg (Decidable.not_not.2 hmay), if_neg (by rintro ⟨e, _⟩; rw [hat] at e; cases e), hat]; rfl
  · unfold ofF
    have hp := ((sortF_perm (insF (nine (mkF 0 3)) (delF (nine (mkF 0 3)).t (mkL n)))).trans (insF_perm _ _)).filter (keepF 9)
    rw [hp.length_eq, List.filter_cons, if_pos (by rfl)]
    have : (delF (nine (mkF 0 3)).t (mkL n)).filter (keepF 9) = [] := List.filter_eq_nil_iff.2 (fun x hx => by
      obtain ⟨i, _, rfl⟩ := mkL_mem.1 (delF_mem.1 hx).1
      simp [keepF, bkNe, mkF])
    rw [this]; rfl
  · rw [(insF_perm _ _).length_eq, List.length_cons, hlen]
def ManyRel (w : World) (bt room N : Nat) (k : Value) (wr : World) : Prop := ∃ j : Nat, k = .int .i64 j ∧ j ≤ N ∧ In [] w wr [FA bt room 10 (mkL (min j room))]
theorem cut_nat (n : Int) {m : Int} (h0 : 0 < m) (h1 : m ≤ 1000000) : ∃ N : Nat, wrap64 ((IntKind.u64.wrap n).tmod m) = (N : Int) ∧ (N : Int) < m := by
  obtain ⟨a, b⟩ := cutU_bd n h0 h1
  exact ⟨(cutU n m).toNat, by show cutU n m = _; omega, by omega⟩
theorem room_nat (most : Int) : ∃ room : Nat, max 0 (min most 256) = (room : Int) ∧ room ≤ 256 := ⟨roomOf most, (roomOf_eq most).1.symm, (roomOf_eq most).2⟩
theorem mkL_zero : mkL 0 = [] := rfl
set_option maxHeartbeats 16000000 in
theorem walk_FlowsMany (w : World) (most : Int) (hm : (Lit.int .i64 most).wf = true) (n : Int) (hn : (Lit.int .i64 n).wf = true) : Calls Try.prog 9 #[.int .i64 most, .int .i64 n] w (TruePost w) := by
  obtain ⟨N, hN, hN2⟩ := cut_nat n (m := 270) (by omega) (by omega)
  obtain ⟨room, hr, hr2⟩ := room_nat most
  have HNE := Lib.hid hN
  have HRE := Lib.hid hr
  have HN := Lib.hid (o_fnew (Own.nil w) most 10)
  rw [show clampM most = (room : Int) from hr] at HN
  clear hm hn hN hr
  go_enter Try.func9, Try.ntmps9
  go_wp2_with fail
  refine HN.out.mono ?_
  rintro e w1 ⟨bt, rfl, ho⟩
  have HS : Hid (ManyRel w bt room N (.int .i64 0) w1) := Lib.hid ⟨0, rfl, Nat.zero_le _, by rw [Nat.min_eq_left (Nat.zero_le _)]; exact ho⟩
  clear ho HN
  go_wp2_with fail
  rw [HNE.out, HRE.out]
  clear HNE HRE
  generalize Value.int IntKind.i64 (min most 256) = u16 at *
  go_loopw [7, 8, 9, 23] (fun _ _ _ k wr => ManyRel w bt room N k wr) (fun _ _ _ k _ => N - (intOf k).toNat)
  case atStart => exact HS.out
  case round =>
    obtain ⟨j, rfl, hj, ho⟩ := hrel
    clear HS
    by_cases hlt : j < N
    · have i1 : (j : Int) < (N : Int) := by omega
      have hput := put_many (room := room) (n := j) (by omega)
      have HF := Lib.hid (o_f11flow ho (j : Int) 3)
      have HP : Hid (∀ w', In [] w w' [FA bt room 10 (mkL (min j room))] → Calls Try.prog 29 #[.pointer (some ⟨bt, 0, none⟩), .agg (encF (mkF j 3))] w' fun e w'' => e = .returned (.tuple #[.bool (putF room (mkL (min j room)) (mkF j 3)).2.1, .int .i64 (putF room (mkL (min j room)) (mkF j 3)).2.2]) ∧ In [] w w'' [FA bt room 10 (putF room (mkL (min j room)) (mkF j 3)).1]) := Lib.hid fun w' h => o_fput h 0 rfl (mkF_wf _ _)
      have HR : Hid (∀ w', In [] w w' [FA bt room 10 (putF room (mkL (min j room)) (mkF j 3)).1] → ManyRel w bt room N (.int .i64 (j + 1)) w') := Lib.hid fun w' h => ⟨j + 1, by congr 1, by omega, by
        rw [hput] at h
        by_cases hjr : j < room
        · rw [if_pos hjr] at h; rw [Nat.min_eq_left (by omega)]; exact h
        · rw [if_neg hjr] at h; rw [Nat.min_eq_right (by omega)]; exact h⟩
      have hcase : ((putF room (mkL (min j room)) (mkF j 3)).2 = (true, 0) ∧ j < room) ∨ ((putF room (mkL (min j room)) (mkF j 3)).2 = (false, 9) ∧ ¬ j < room) := by
        rw [hput]
        by_cases hjr : j < room
        · left; rw [if_pos hjr]; exact ⟨rfl, hjr⟩
        · right; rw [if_neg hjr]; exact ⟨rfl, hjr⟩
      clear ho hlt hput
      generalize putF room (mkL (min j room)) (mkF j 3) = P at *
      obtain ⟨PL, Pb, Pe⟩ := P
      simp only [Prod.mk.injEq] at hcase
      go_wp2_with fail
      refine HF.out.mono ?_
      rintro e w2 ⟨rfl, ho⟩
      have HP2 := Lib.hid (HP.out _ ho)
      clear ho HF HP
      go_wp2_with fail
      refine HP2.out.mono ?_
      rintro e w3 ⟨rfl, ho⟩
      have HE := Lib.hid (HR.out _ ho)
      clear ho HP2 HR
      rcases hcase with ⟨⟨rfl, rfl⟩, hc⟩ | ⟨⟨rfl, rfl⟩, hc⟩
      · have hc' : (j : Int) < (room : Int) := by omega
        clear hc
        go_wp2_with fail
        go_roundw
        case rel => exact HE.out
        case measure => simp [intOf]; omega
      · have hc' : decide (j < room) = false := by simp; omega
        clear hc
        go_wp2_with fail
        go_roundw
        case rel => exact HE.out
        case measure => simp [intOf]; omega
    · have hge : (N : Int) ≤ (j : Int) := by omega
      have hjn : j = N := by omega
      subst hjn
      have HL1 := Lib.hid (o_flen ho 0 rfl)
      have HO := Lib.hid ho
      rw [mkL_length] at HL1
      clear ho hlt
      by_cases h0 : j = 0 ∨ room = 0
      · have hmin : min j room = 0 := by omega
        rw [hmin] at HL1
        have hA : Hid (∀ w', Mod [] w w' → TruePost w (.returned (.bool true)) w') := Lib.hid fun w' h => ⟨rfl, h⟩
        have HW := Lib.hid (HO.out.mod)
        rcases h0 with h0 | h0
        · subst h0
          go_wp2_with fail
          refine HL1.out.mono ?_
          rintro e w2 ⟨rfl, rfl⟩
          go_wp2_with fail
          refine (f11awake _).mono ?_
          rintro e w3 ⟨rfl, hmod⟩
          have HM := Lib.hid (HW.out.trans hmod (fun x hx => by simp at hx))
          clear hmod
          go_wp2_with fail
          go_ret
          exact hA.out _ HM.out
        · subst h0
          by_cases hj0 : j = 0
          · subst hj0
            go_wp2_with fail
            refine HL1.out.mono ?_
            rintro e w2 ⟨rfl, rfl⟩
            go_wp2_with fail
            refine (f11awake _).mono ?_
            rintro e w3 ⟨rfl, hmod⟩
            have HM := Lib.hid (HW.out.trans hmod (fun x hx => by simp at hx))
            clear hmod
            go_wp2_with fail
            go_ret
            exact hA.out _ HM.out
          · have hj1 : ((j : Int) == 0) = false := beq_eq_false_iff_ne.2 (by omega)
            clear hj0
            go_wp2_with fail
            refine HL1.out.mono ?_
            rintro e w2 ⟨rfl, rfl⟩
            go_wp2_with fail
            refine (f11awake _).mono ?_
            rintro e w3 ⟨rfl, hmod⟩
            have HM := Lib.hid (HW.out.trans hmod (fun x hx => by simp at hx))
            clear hmod
            go_wp2_with fail
            go_ret
            exact hA.out _ HM.out
      · have hj1 : ((j : Int) == 0) = false := beq_eq_false_iff_ne.2 (by omega)
        have hr1 : ((room : Int) == 0) = false := beq_eq_false_iff_ne.2 (by omega)
        obtain ⟨L2, p1, p2, p3⟩ := nine_put (room := room) (n := min j room) (by omega) (by omega)
        have P := Lib.hid (And.intro p1 (And.intro p2 p3))
        have HF := Lib.hid (o_f11flow HO.out 0 3)
        have hmin : ((min j room : Nat) : Int) = min (j : Int) (room : Int) := by omega
        have HMIN := Lib.hid hmin
        clear h0 HL1 p1 p2 p3 hmin
        go_wp2_with fail
        refine HF.out.mono ?_
        rintro e w2 ⟨rfl, ho⟩
        have h5 := ho.cells (encF (nine (mkF 0 3))) 59
        have HP := Lib.hid (o_fput h5 1 rfl (f := nine (mkF 0 3)) (mkF_wf 0 3))
        clear h5 HF
        go_wp2_with fail
        refine HP.out.mono ?_
        rintro e w3 ⟨rfl, ho3⟩
        rw [P.out.1] at *
        have H3 := Lib.hid ho3
        have HOF := Lib.hid (o_fof ho3 1 rfl 9)
        rw [P.out.2.1] at HOF
        have HLEN := Lib.hid P.out.2.2
        clear ho ho3 HP P
        go_wp2_with fail
        refine HOF.out.mono ?_
        rintro e w4 ⟨v, rfl, ho4⟩
        obtain ⟨F4, hv4⟩ := ho4.get 0 rfl
        obtain ⟨a4, c4, rfl, l41, l42, -⟩ := hv4.shape
        have HL4 := Lib.hid (o_flen ho4 2 rfl)
        rw [HLEN.out, HMIN.out] at HL4
        have H4 := Lib.hid ho4.mod
        clear ho4 hv4 HOF H3
        go_wp2_with fail
        refine HL4.out.mono ?_
        rintro e w5 ⟨rfl, rfl⟩
        go_wp2_with fail
        refine (f11awake _).mono ?_
        rintro e w6 ⟨rfl, hmod⟩
        have HM := Lib.hid (H4.out.trans hmod (fun x hx => by simp at hx))
        clear hmod
        go_wp2_with fail
        go_ret
        exact ⟨rfl, HM.out⟩
end Go.Proofs.Ytcakgponofbhkaa
