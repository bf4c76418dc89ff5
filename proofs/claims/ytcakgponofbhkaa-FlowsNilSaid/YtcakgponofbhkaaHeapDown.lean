/- The library's heap: an item sinks; it is put right; one is put in; one is taken out. -/
import Derived.Test.YtcakgponofbhkaaHeapUp
namespace Go.Proofs.Ytcakgponofbhkaa
open Go.RowKit
set_option linter.unusedVariables false
set_option maxRecDepth 100000

def DownRel (bq ba n cap N i0 : Nat) (L : List It) (w : World) (v : Value) (wr : World) : Prop :=
  ∃ (k : Nat) (L' : List It), v = .int .i64 k ∧ i0 ≤ k ∧ k < N ∧ HP bq ba n cap N L w L' wr ∧ ExceptP N (gk L') k ∧ (k ≠ i0 → ParP (gk L') k)
def DownPost (bq ba n cap N i0 : Nat) (L : List It) (w : World) (e : Ending) (w' : World) : Prop :=
  ∃ (b : Bool) (L' : List It), e = .returned (.bool b) ∧ HP bq ba n cap N L w L' w' ∧ (b = true → HeapP N (gk L')) ∧ (b = false → ExceptP N (gk L') i0 ∧ KidsP N (gk L') i0)

theorem down_end {bq ba n cap N i0 k : Nat} {L L' : List It} {w wr : World} (hp : HP bq ba n cap N L w L' wr) (hx : ExceptP N (gk L') k) (hpar : k ≠ i0 → ParP (gk L') k) (hk : KidsP N (gk L') k) (hi : i0 ≤ k)
    {b : Bool} (hb : b = decide (i0 < k)) (m : Nat) : DownPost bq ba n cap N i0 L w (.returned (.bool b)) (wr.drewN m) := by
  refine ⟨_, L', rfl, hp.drewN m, fun h => ?_, fun h => ?_⟩
  · have : i0 < k := by rw [hb] at h; simpa using h
    exact heap_of hx hk (hpar (by omega))
  · have : k = i0 := by rw [hb] at h; simp at h; omega
    subst this; exact ⟨hx, hk⟩
theorem kids_none {N k : Nat} {g : Nat → KT} (h : N ≤ 2 * k + 1) : KidsP N g k := fun c h0 h1 h2 => by unfold par at h2; omega
theorem kids_stop {N k j : Nat} {g : Nat → KT} (hmin : ∀ c, 0 < c → c < N → par c = k → kle (g j) (g c)) (h : klt (g j) (g k) = false) : KidsP N g k :=
  fun c h0 h1 h2 => kle_trans h (hmin c h0 h1 h2)
theorem min_one {N k : Nat} {g : Nat → KT} (h : N ≤ 2 * k + 2) : ∀ c, 0 < c → c < N → par c = k → kle (g (2 * k + 1)) (g c) := fun c h0 h1 h2 => by
  obtain rfl : c = 2 * k + 1 := by unfold par at h2; omega
  exact kle_refl _
theorem min_left {N k : Nat} {g : Nat → KT} (h : klt (g (2 * k + 2)) (g (2 * k + 1)) = false) : ∀ c, 0 < c → c < N → par c = k → kle (g (2 * k + 1)) (g c) := fun c h0 h1 h2 => by
  have : c = 2 * k + 1 ∨ c = 2 * k + 2 := by unfold par at h2; omega
  rcases this with rfl | rfl
  · exact kle_refl _
  · exact h
theorem min_right {N k : Nat} {g : Nat → KT} (h : klt (g (2 * k + 2)) (g (2 * k + 1)) = true) : ∀ c, 0 < c → c < N → par c = k → kle (g (2 * k + 2)) (g c) := fun c h0 h1 h2 => by
  have : c = 2 * k + 1 ∨ c = 2 * k + 2 := by unfold par at h2; omega
  rcases this with rfl | rfl
  · exact kle_of_lt h
  · exact kle_refl _

set_option maxHeartbeats 1600000 in
theorem down_hs {w : World} {bq ba n cap N : Nat} {L : List It} (h : HS w bq ba n cap L) (hN : N ≤ n) (i0 : Nat) (hi0 : i0 < N) (hx : ExceptP N (gk L) i0) :
    Calls Try.prog 93 #[.iface 126 (.pointer (some ⟨bq, 0, none⟩)), .int .i64 i0, .int .i64 N] w (DownPost bq ba n cap N i0 L w) := by
  have hm := h.most
  go_enter Try.func93, Try.ntmps93
  go_wp2_with fail
  go_loopw [7] (DownRel bq ba n cap N i0 L w) (fun v _ => N - (intOf v).toNat)
  case atStart => exact ⟨i0, L, rfl, Nat.le_refl _, hi0, HP.refl h, hx, fun h => absurd rfl h⟩
  case round =>
    obtain ⟨k, L', rfl, hik, hkN, hp, hx', hpar⟩ := hrel
    clear hx h hi0
    have hlen1 : n ≤ L'.length := Nat.le_of_eq hp.hs.len
    have hlen2 : L'.length ≤ n := Nat.le_of_eq hp.hs.len.symm
    by_cases hk0 : N ≤ 2 * k + 1
    · have E := Lib.hid (fun b hb => down_end (b := b) hp hx' hpar (kids_none hk0) hik hb 0)
      have h1 : (N : Int) ≤ 2 * (k : Int) + 1 := by omega
      clear hp hx' hpar
      go_wp2_with fail
      go_ret
      exact E.out _ rfl
    · have h1 : ¬ (N : Int) ≤ 2 * (k : Int) + 1 := by omega
      have h1a : decide ((N : Int) ≤ 2 * (k : Int) + 1) = false := by simp; omega
      have h1b : decide (2 * (k : Int) + 1 < 0) = false := by simp; omega
      have hm1 : ∀ m, (method 304 126 (.pointer (some ⟨bq, 0, none⟩)) "Less").run Try.prog (wr.drewN m) = .ok (153, .slice (some ⟨ba, 0, none⟩) n cap) (wr.drewN m) := fun m => m_Less (hp.drewN m).hs.cell
      have hm0 := m_Less hp.hs.cell
      have hm2 : ∀ m, (method 304 126 (.pointer (some ⟨bq, 0, none⟩)) "Swap").run Try.prog (wr.drewN m) = .ok (154, .slice (some ⟨ba, 0, none⟩) n cap) (wr.drewN m) := fun m => m_Swap (hp.drewN m).hs.cell
      by_cases h2 : N ≤ 2 * k + 2
      · have h2a : decide (2 * (k : Int) + 1 + 1 < (N : Int)) = false := by simp; omega
        cases hb : klt (gk L' (2 * k + 1)) (gk L' k) with
        | false =>
          have cl := less_at hp.hs (2 * k + 1) k (x := 2 * (k : Int) + 1) (y := (k : Int)) (by omega) rfl (by omega) (by omega)
          rw [hb] at cl
          have hb0 := hb
          have E := Lib.hid (fun b hb m => down_end (b := b) hp hx' hpar (kids_stop (min_one h2) hb0) hik hb m)
          clear hb hb0
          have cl := Lib.hid cl
          clear hp hx' hpar
          go_wp2_with fail
          refine cl.out.mono ?_
          rintro e w2 ⟨rfl, m2, rfl⟩
          go_wp2_with fail
          go_ret
          exact E.out _ rfl _
        | true =>
          have cl := less_at hp.hs (2 * k + 1) k (x := 2 * (k : Int) + 1) (y := (k : Int)) (by omega) rfl (by omega) (by omega)
          rw [hb] at cl
          have cs : ∀ m, Calls Try.prog 154 #[.slice (some ⟨ba,0,none⟩) n cap, .int .i64 k, .int .i64 (2 * (k : Int) + 1)] (wr.drewN m) (SwapPost bq ba n cap k (2 * k + 1) L' (wr.drewN m)) :=
            fun m => swap_at (hp.drewN m).hs k (2 * k + 1) rfl (by omega) (by omega) (by omega) (by omega)
          have E : ∀ m w2, SwapPost bq ba n cap k (2 * k + 1) L' (wr.drewN m) (.returned (.tuple #[])) w2 → DownRel bq ba n cap N i0 L w (.int .i64 (2 * (k : Int) + 1)) w2 := by
            rintro m w2 ⟨_, g1, g2⟩
            have hu := down_step (j := 2 * k + 1) hx' (by omega) (by omega) (by unfold par; omega) (min_one h2) hb hpar
            rw [← gk_swl (by omega) (by omega)] at hu
            exact ⟨2 * k + 1, swl L' k (2 * k + 1), by congr 1, by omega, by omega, (hp.drewN m).swap (by omega) (by omega) hN g1 g2, hu.1, hu.2⟩
          have E := Lib.hid E
          have cs := Lib.hid cs
          clear hb
          have cl := Lib.hid cl
          clear hp hx' hpar
          go_wp2_with fail
          refine cl.out.mono ?_
          rintro e w2 ⟨rfl, m2, rfl⟩
          go_wp2_with fail
          refine (cs.out _).mono ?_
          rintro e w3 hs
          obtain rfl : e = .returned (.tuple #[]) := hs.1
          have hs := E.out _ w3 hs
          go_wp2_with fail
          go_roundw
          case rel => exact hs
          case measure => simp [intOf]; omega
      · have h2a : 2 * (k : Int) + 1 + 1 < (N : Int) := by omega
        have c1 := less_at hp.hs (2 * k + 2) (2 * k + 1) (x := 2 * (k : Int) + 1 + 1) (y := 2 * (k : Int) + 1) (by omega) (by omega) (by omega) (by omega)
        cases hb1 : klt (gk L' (2 * k + 2)) (gk L' (2 * k + 1)) with
        | false =>
          rw [hb1] at c1
          cases hb : klt (gk L' (2 * k + 1)) (gk L' k) with
          | false =>
            have cl : ∀ m, Calls Try.prog 153 #[.slice (some ⟨ba,0,none⟩) n cap, .int .i64 (2 * (k : Int) + 1), .int .i64 k] (wr.drewN m) fun e w' => e = .returned (.bool false) ∧ ∃ m', w' = (wr.drewN m).drewN m' := fun m => by
              have := less_at (hp.drewN m).hs (2 * k + 1) k (x := 2 * (k : Int) + 1) (y := (k : Int)) (by omega) rfl (by omega) (by omega)
              rwa [hb] at this
            have hb0 := hb
            have E := Lib.hid (fun b hb m => down_end (b := b) hp hx' hpar (kids_stop (min_left hb1) hb0) hik hb m)
            clear hb hb0
            have cl := Lib.hid cl
            clear hp hx' hpar hb1
            go_wp2_with fail
            refine c1.mono ?_
            rintro e w2 ⟨rfl, m1, rfl⟩
            go_wp2_with fail
            refine (cl.out m1).mono ?_
            rintro e w2 ⟨rfl, m2, rfl⟩
            go_wp2_with fail
            go_ret
            exact E.out _ rfl _
          | true =>
            have cl : ∀ m, Calls Try.prog 153 #[.slice (some ⟨ba,0,none⟩) n cap, .int .i64 (2 * (k : Int) + 1), .int .i64 k] (wr.drewN m) fun e w' => e = .returned (.bool true) ∧ ∃ m', w' = (wr.drewN m).drewN m' := fun m => by
              have := less_at (hp.drewN m).hs (2 * k + 1) k (x := 2 * (k : Int) + 1) (y := (k : Int)) (by omega) rfl (by omega) (by omega)
              rwa [hb] at this
            have cs : ∀ m, Calls Try.prog 154 #[.slice (some ⟨ba,0,none⟩) n cap, .int .i64 k, .int .i64 (2 * (k : Int) + 1)] (wr.drewN m) (SwapPost bq ba n cap k (2 * k + 1) L' (wr.drewN m)) :=
              fun m => swap_at (hp.drewN m).hs k (2 * k + 1) rfl (by omega) (by omega) (by omega) (by omega)
            have E : ∀ m w2, SwapPost bq ba n cap k (2 * k + 1) L' (wr.drewN m) (.returned (.tuple #[])) w2 → DownRel bq ba n cap N i0 L w (.int .i64 (2 * (k : Int) + 1)) w2 := by
              rintro m w2 ⟨_, g1, g2⟩
              have hu := down_step (j := 2 * k + 1) hx' (by omega) (by omega) (by unfold par; omega) (min_left hb1) hb hpar
              rw [← gk_swl (by omega) (by omega)] at hu
              exact ⟨2 * k + 1, swl L' k (2 * k + 1), by congr 1, by omega, by omega, (hp.drewN m).swap (by omega) (by omega) hN g1 g2, hu.1, hu.2⟩
            have E := Lib.hid E
            have cs := Lib.hid cs
            clear hb
            have cl := Lib.hid cl
            clear hp hx' hpar hb1
            go_wp2_with fail
            refine c1.mono ?_
            rintro e w2 ⟨rfl, m1, rfl⟩
            go_wp2_with fail
            refine (cl.out m1).mono ?_
            rintro e w2 ⟨rfl, m2, rfl⟩
            go_wp2_with fail
            refine (cs.out _).mono ?_
            rintro e w3 hs
            obtain rfl : e = .returned (.tuple #[]) := hs.1
            have hs := E.out _ w3 hs
            go_wp2_with fail
            go_roundw
            case rel => exact hs
            case measure => simp [intOf]; omega
        | true =>
          rw [hb1] at c1
          cases hb : klt (gk L' (2 * k + 2)) (gk L' k) with
          | false =>
            have cl : ∀ m, Calls Try.prog 153 #[.slice (some ⟨ba,0,none⟩) n cap, .int .i64 (2 * (k : Int) + 1 + 1), .int .i64 k] (wr.drewN m) fun e w' => e = .returned (.bool false) ∧ ∃ m', w' = (wr.drewN m).drewN m' := fun m => by
              have := less_at (hp.drewN m).hs (2 * k + 2) k (x := 2 * (k : Int) + 1 + 1) (y := (k : Int)) (by omega) rfl (by omega) (by omega)
              rwa [hb] at this
            have hb0 := hb
            have E := Lib.hid (fun b hb m => down_end (b := b) hp hx' hpar (kids_stop (min_right hb1) hb0) hik hb m)
            clear hb hb0
            have cl := Lib.hid cl
            clear hp hx' hpar hb1
            go_wp2_with fail
            refine c1.mono ?_
            rintro e w2 ⟨rfl, m1, rfl⟩
            go_wp2_with fail
            refine (cl.out m1).mono ?_
            rintro e w2 ⟨rfl, m2, rfl⟩
            go_wp2_with fail
            go_ret
            exact E.out _ rfl _
          | true =>
            have cl : ∀ m, Calls Try.prog 153 #[.slice (some ⟨ba,0,none⟩) n cap, .int .i64 (2 * (k : Int) + 1 + 1), .int .i64 k] (wr.drewN m) fun e w' => e = .returned (.bool true) ∧ ∃ m', w' = (wr.drewN m).drewN m' := fun m => by
              have := less_at (hp.drewN m).hs (2 * k + 2) k (x := 2 * (k : Int) + 1 + 1) (y := (k : Int)) (by omega) rfl (by omega) (by omega)
              rwa [hb] at this
            have cs : ∀ m, Calls Try.prog 154 #[.slice (some ⟨ba,0,none⟩) n cap, .int .i64 k, .int .i64 (2 * (k : Int) + 1 + 1)] (wr.drewN m) (SwapPost bq ba n cap k (2 * k + 2) L' (wr.drewN m)) :=
              fun m => swap_at (hp.drewN m).hs k (2 * k + 2) rfl (by omega) (by omega) (by omega) (by omega)
            have E : ∀ m w2, SwapPost bq ba n cap k (2 * k + 2) L' (wr.drewN m) (.returned (.tuple #[])) w2 → DownRel bq ba n cap N i0 L w (.int .i64 (2 * (k : Int) + 1 + 1)) w2 := by
              rintro m w2 ⟨_, g1, g2⟩
              have hu := down_step (j := 2 * k + 2) hx' (by omega) (by omega) (by unfold par; omega) (min_right hb1) hb hpar
              rw [← gk_swl (by omega) (by omega)] at hu
              exact ⟨2 * k + 2, swl L' k (2 * k + 2), by congr 1, by omega, by omega, (hp.drewN m).swap (by omega) (by omega) hN g1 g2, hu.1, hu.2⟩
            have E := Lib.hid E
            have cs := Lib.hid cs
            clear hb
            have cl := Lib.hid cl
            clear hp hx' hpar hb1
            go_wp2_with fail
            refine c1.mono ?_
            rintro e w2 ⟨rfl, m1, rfl⟩
            go_wp2_with fail
            refine (cl.out m1).mono ?_
            rintro e w2 ⟨rfl, m2, rfl⟩
            go_wp2_with fail
            refine (cs.out _).mono ?_
            rintro e w3 hs
            obtain rfl : e = .returned (.tuple #[]) := hs.1
            have hs := E.out _ w3 hs
            go_wp2_with fail
            go_roundw
            case rel => exact hs
            case measure => simp [intOf]; omega

end Go.Proofs.Ytcakgponofbhkaa
