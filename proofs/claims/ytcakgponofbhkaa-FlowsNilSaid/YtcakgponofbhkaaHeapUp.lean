/- The library's heap over these methods. -/
import Derived.Test.YtcakgponofbhkaaHeapWalk
namespace Go.Proofs.Ytcakgponofbhkaa
open Go.RowKit
set_option linter.unusedVariables false
set_option maxRecDepth 100000

theorem m_Less0 (a : Addr) (w : World) : (method 304 126 (.pointer (some a)) "Less").run Try.prog w =
    (match w.cell? a with | some v => .ok (153, v) w | none => match w.farLoad Try.prog a false with | .ok (v, _) => .ok (153, v) w | .error h => .halt h w) := by kernel_rfl
theorem m_Less {a : Addr} {w : World} {v : Value} (h : w.cell? a = some v) : (method 304 126 (.pointer (some a)) "Less").run Try.prog w = .ok (153, v) w := by rw [m_Less0, h]
theorem m_Swap0 (a : Addr) (w : World) : (method 304 126 (.pointer (some a)) "Swap").run Try.prog w =
    (match w.cell? a with | some v => .ok (154, v) w | none => match w.farLoad Try.prog a false with | .ok (v, _) => .ok (154, v) w | .error h => .halt h w) := by kernel_rfl
theorem m_Swap {a : Addr} {w : World} {v : Value} (h : w.cell? a = some v) : (method 304 126 (.pointer (some a)) "Swap").run Try.prog w = .ok (154, v) w := by rw [m_Swap0, h]
theorem m_Len0 (a : Addr) (w : World) : (method 304 126 (.pointer (some a)) "Len").run Try.prog w =
    (match w.cell? a with | some v => .ok (152, v) w | none => match w.farLoad Try.prog a false with | .ok (v, _) => .ok (152, v) w | .error h => .halt h w) := by kernel_rfl
theorem m_Len {a : Addr} {w : World} {v : Value} (h : w.cell? a = some v) : (method 304 126 (.pointer (some a)) "Len").run Try.prog w = .ok (152, v) w := by rw [m_Len0, h]
theorem m_Pop (a : Addr) (w : World) : (method 304 126 (.pointer (some a)) "Pop").run Try.prog w = .ok (155, .pointer (some a)) w := by kernel_rfl
theorem m_Push (a : Addr) (w : World) : (method 304 126 (.pointer (some a)) "Push").run Try.prog w = .ok (156, .pointer (some a)) w := by kernel_rfl
section
variable {w : World} {bq ba n cap : Nat} {L : List It}
theorem less_hs (h : HS w bq ba n cap L) {i j : Nat} (hi : i < n) (hj : j < n) :
    Calls Try.prog 153 #[.slice (some ⟨ba,0,none⟩) n cap, .int .i64 i, .int .i64 j] w fun e w' => e = .returned (.bool (klt (gk L i) (gk L j))) ∧ ∃ m, w' = w.drewN m := by
  have hm := h.most
  rcases Int.lt_trichotomy (ith L i).tm (ith L j).tm with h1 | h1 | h1
  · rw [klt_of_lt (a := gk L i) (b := gk L j) h1]
    exact less_lt hi hj (by omega) (h.ptr hi) (h.ptr hj) (h.tm hi) (h.tm hj) h1
  · rw [klt_of_eq (a := gk L i) (b := gk L j) h1]
    have := less_eq (cap := cap) hi hj (by omega) (h.ptr hi) (h.ptr hj) (h.tm hi) (by rw [h1]; exact h.tm hj) (h.key hi) (h.key hj)
    rw [toList_data, toList_data] at this
    exact this
  · rw [klt_of_gt (a := gk L i) (b := gk L j) h1]
    exact less_gt hi hj (by omega) (h.ptr hi) (h.ptr hj) (h.tm hi) (h.tm hj) h1

theorem swap_hs (h : HS w bq ba n cap L) {i j : Nat} (hi : i < n) (hj : j < n) (hij : i ≠ j) :
    Calls Try.prog 154 #[.slice (some ⟨ba,0,none⟩) n cap, .int .i64 i, .int .i64 j] w fun e w' => e = .returned (.tuple #[]) ∧ HS w' bq ba n cap (swl L i j) ∧ Mod (ba :: blks L) w w' := by
  have hm := h.most
  have hl := h.len
  have hiL : i < L.length := by omega
  have hjL : j < L.length := by omega
  refine (swap_raw hi hj hij (by omega) (h.ptr hi) (h.ptr hj) (h.afree i) (h.afree j) (h.ix hi) (h.ix hj) (h.ifree hi 2) (h.ifree hj 2) (blk_ne h.nb hiL hjL hij)
    (fun e => h.ab (e ▸ blk_mem hiL)) (fun e => h.ab (e ▸ blk_mem hjL))).mono fun e w' ⟨he, m, hw⟩ => ?_
  subst hw
  refine ⟨he, (h.swap hi hj hij).drewN m, ?_⟩
  have m1 := blk_mem hiL
  have m2 := blk_mem hjL
  exact (((((Mod.refl _ _).setCell (Or.inl (by simp)) _).setCell (Or.inl (by simp)) _).setCell (Or.inl (List.mem_cons_of_mem _ m2)) _).setCell (Or.inl (List.mem_cons_of_mem _ m1)) _).drewN m

end


/-- What the heap is behind a call: the same items, in another order; from N on nothing has turned. -/
structure HP (bq ba n cap N : Nat) (L : List It) (w : World) (L' : List It) (w' : World) : Prop where
  hs : HS w' bq ba n cap L'
  perm : L'.Perm L
  mod : Mod (ba :: blks L) w w'
  above : ∀ k, N ≤ k → ith L' k = ith L k

theorem HP.refl {bq ba n cap N : Nat} {L : List It} {w : World} (h : HS w bq ba n cap L) : HP bq ba n cap N L w L w := ⟨h, List.Perm.refl _, Mod.refl _ _, fun _ _ => rfl⟩
theorem HP.drewN {bq ba n cap N : Nat} {L L' : List It} {w w' : World} (h : HP bq ba n cap N L w L' w') (m : Nat) : HP bq ba n cap N L w L' (w'.drewN m) :=
  ⟨h.hs.drewN m, h.perm, h.mod.drewN m, h.above⟩
theorem HP.swap {bq ba n cap N : Nat} {L L' : List It} {w w' w2 : World} (h : HP bq ba n cap N L w L' w') {i j : Nat} (hi : i < N) (hj : j < N) (hN : N ≤ n)
    (h2 : HS w2 bq ba n cap (swl L' i j)) (m : Mod (ba :: blks L') w' w2) : HP bq ba n cap N L w (swl L' i j) w2 := by
  have hl := h.hs.len
  refine ⟨h2, (swl_perm (by omega) (by omega)).trans h.perm, h.mod.trans m (fun x hx => Or.inl ?_), fun k hk => ?_⟩
  · rcases List.mem_cons.1 hx with rfl | hx
    · simp
    · exact List.mem_cons_of_mem _ ((h.perm.map It.blk).mem_iff.1 hx)
  · rw [ith_swl (by omega) (by omega), if_neg (by omega), if_neg (by omega)]; exact h.above k hk

theorem less_at {w : World} {bq ba n cap : Nat} {L : List It} (h : HS w bq ba n cap L) (i j : Nat) {x y : Int} (hx : x = i) (hy : y = j) (hi : i < n) (hj : j < n) :
    Calls Try.prog 153 #[.slice (some ⟨ba,0,none⟩) n cap, .int .i64 x, .int .i64 y] w fun e w' => e = .returned (.bool (klt (gk L i) (gk L j))) ∧ ∃ m, w' = w.drewN m := by
  subst hx; subst hy; exact less_hs h hi hj
def SwapPost (bq ba n cap i j : Nat) (L : List It) (w : World) (e : Ending) (w' : World) : Prop := e = .returned (.tuple #[]) ∧ HS w' bq ba n cap (swl L i j) ∧ Mod (ba :: blks L) w w'
theorem swap_at {w : World} {bq ba n cap : Nat} {L : List It} (h : HS w bq ba n cap L) (i j : Nat) {x y : Int} (hx : x = i) (hy : y = j) (hi : i < n) (hj : j < n) (hij : i ≠ j) :
    Calls Try.prog 154 #[.slice (some ⟨ba,0,none⟩) n cap, .int .i64 x, .int .i64 y] w (SwapPost bq ba n cap i j L w) := by
  subst hx; subst hy; exact swap_hs h hi hj hij

def UpRel (bq ba n cap N : Nat) (L : List It) (w : World) (v : Value) (wr : World) : Prop :=
  ∃ (k : Nat) (L' : List It), v = .int .i64 k ∧ k < N ∧ HP bq ba n cap N L w L' wr ∧ ExceptP N (gk L') k ∧ KidsP N (gk L') k
def UpPost (bq ba n cap N : Nat) (L : List It) (w : World) (e : Ending) (w' : World) : Prop :=
  e = .returned (.tuple #[]) ∧ ∃ L', HP bq ba n cap N L w L' w' ∧ HeapP N (gk L')

set_option maxHeartbeats 1000000 in
set_option maxRecDepth 100000 in
theorem up_hs {w : World} {bq ba n cap N : Nat} {L : List It} (h : HS w bq ba n cap L) (hN : N ≤ n) (j : Nat) (hj : j < N) (hx : ExceptP N (gk L) j) (hk : KidsP N (gk L) j) :
    Calls Try.prog 94 #[.iface 126 (.pointer (some ⟨bq, 0, none⟩)), .int .i64 j] w (UpPost bq ba n cap N L w) := by
  have hm := h.most
  go_enter Try.func94, Try.ntmps94
  go_wp2_with fail
  go_loopw [1] (UpRel bq ba n cap N L w) (fun v _ => (intOf v).toNat)
  case atStart => exact ⟨j, L, rfl, hj, HP.refl h, hx, hk⟩
  case round =>
    obtain ⟨k, L', rfl, hkN, hp, hx', hk'⟩ := hrel
    clear hx hk h hj j
    by_cases hk0 : k = 0
    · subst hk0
      have E : UpPost bq ba n cap N L w (.returned (.tuple #[])) wr := ⟨rfl, L', hp, up_stop hx' hk' (Or.inl rfl)⟩
      go_wp2_with fail
      go_end0
      exact E
    · have h1 : (((k : Int) - 1) / 2 == (k : Int)) = false := by simp; omega
      have h2 : (0 : Int) ≤ (k : Int) - 1 := by omega
      have hm1 := m_Less hp.hs.cell
      cases hb : klt (gk L' k) (gk L' (par k)) with
      | false =>
        have cl := less_at hp.hs k (par k) rfl (x := (k : Int)) (y := ((k : Int) - 1) / 2) (by unfold par; omega) (by omega) (by unfold par; omega)
        rw [hb] at cl
        have E : ∀ m, UpPost bq ba n cap N L w (.returned (.tuple #[])) (wr.drewN m) := fun m => ⟨rfl, L', hp.drewN m, up_stop hx' hk' (Or.inr hb)⟩
        clear hb
        go_wp2_with fail
        refine cl.mono ?_
        rintro e w2 ⟨rfl, m, rfl⟩
        go_wp2_with fail
        go_end0
        exact E m
      | true =>
        have cl := less_at hp.hs k (par k) rfl (x := (k : Int)) (y := ((k : Int) - 1) / 2) (by unfold par; omega) (by omega) (by unfold par; omega)
        rw [hb] at cl
        have hpk : par k < k := by unfold par; omega
        have cs : ∀ m, Calls Try.prog 154 #[.slice (some ⟨ba,0,none⟩) n cap, .int .i64 (((k : Int) - 1) / 2), .int .i64 k] (wr.drewN m) (SwapPost bq ba n cap (par k) k L' (wr.drewN m)) :=
          fun m => swap_at (hp.drewN m).hs (par k) k (by unfold par; omega) rfl (by omega) (by omega) (by omega)
        have hm2 : ∀ m, (method 304 126 (.pointer (some ⟨bq, 0, none⟩)) "Swap").run Try.prog (wr.drewN m) = .ok (154, .slice (some ⟨ba, 0, none⟩) n cap) (wr.drewN m) := fun m => m_Swap (hp.drewN m).hs.cell
        have E : ∀ m w2, SwapPost bq ba n cap (par k) k L' (wr.drewN m) (.returned (.tuple #[])) w2 → UpRel bq ba n cap N L w (.int .i64 (((k : Int) - 1) / 2)) w2 := by
          rintro m w2 ⟨_, h1, h2⟩
          have hl := hp.hs.len
          have hu := up_step hx' hk' (by omega) hkN hb
          rw [← gk_swl (by omega) (by omega)] at hu
          exact ⟨par k, swl L' (par k) k, by simp only [par]; congr 1; omega, by omega, (hp.drewN m).swap (by omega) hkN hN h1 h2, hu.1, hu.2⟩
        have E := Lib.hid E
        have cs := Lib.hid cs
        clear hb
        go_wp2_with fail
        refine cl.mono ?_
        rintro e w2 ⟨rfl, m, rfl⟩
        go_wp2_with fail
        refine (cs.out m).mono ?_
        rintro e w3 hs
        obtain rfl : e = .returned (.tuple #[]) := hs.1
        have hs := E.out m w3 hs
        go_wp2_with fail
        go_roundw
        case rel => exact hs
        case measure => simp [intOf]; omega
end Go.Proofs.Ytcakgponofbhkaa
