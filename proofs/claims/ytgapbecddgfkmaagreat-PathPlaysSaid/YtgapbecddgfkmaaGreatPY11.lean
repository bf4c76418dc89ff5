/- Rows.PathPlaysSaid -/
import Derived.Test.YtgapbecddgfkmaaGreatPY2
import Derived.Deep.MidRow
import Derived.Lib.SliceRun
import Derived.Test.YtgapbecddgfkmaaGreatPY10
namespace Go.Proofs.YtgapbecddgfkmaaGreat
open Go.RowKit
set_option linter.unusedVariables false
set_option maxHeartbeats 64000000
set_option maxRecDepth 100000
theorem setCells_heap : ∀ (us : List Value) (w : World) (g o : Nat) (C : Array Value) (T : TypeId) (fz : Nat × Nat), w.heap[g]? = some (.cells C T fz) → o + us.length ≤ C.size →
    ∃ C', (w.setCells g o us).heap[g]? = some (.cells C' T fz) ∧ C'.toList = C.toList.take o ++ us ++ C.toList.drop (o + us.length) ∧ Mod [g] w (w.setCells g o us)
  | [], w, g, o, C, T, fz, h, _ => ⟨C, h, by simp, Mod.refl _ _⟩
  | v :: r, w, g, o, C, T, fz, h, hl => by
    have hl' : o + 1 + r.length ≤ C.size := by simp at hl; omega
    have h1 := hp_setCell_same (o := o) (v := v) h
    obtain ⟨C', e1, e2, e3⟩ := setCells_heap r (w.setCell ⟨g, o, none⟩ v) g (o + 1) _ T fz h1 (by simpa using hl')
    refine ⟨C', e1, ?_, ((Mod.refl [g] w).setCell (p := ⟨g, o, none⟩) (Or.inl (by simp)) v).trans' e3⟩
    rw [e2]
    have ho : o < C.toList.length := by rw [Array.length_toList]; omega
    rw [Array.toList_setIfInBounds, List.take_set, List.drop_set, if_pos (by omega), List.take_add_one]
    rw [show (C.toList[o]?).toList = [C.toList[o]] by rw [List.getElem?_eq_getElem ho]; rfl]
    rw [List.set_append_right _ _ (by simp; omega)]
    rw [show o - (C.toList.take o).length = 0 by simp; omega]
    simp only [List.set_cons_zero, List.append_assoc, List.cons_append, List.nil_append, List.length_cons]
    rw [show o + 1 + r.length = o + (r.length + 1) by omega]
def putAt (xs : List Value) (o : Nat) (us : List Value) : List Value := xs.take o ++ us ++ xs.drop (o + us.length)
theorem putAt_length {xs us : List Value} {o : Nat} (h : o + us.length ≤ xs.length) : (putAt xs o us).length = xs.length := by unfold putAt; simp; omega
theorem RowA.put {T : TypeId} {k : Nat} {g n' n cap : Nat} {xs : List Value} {w : World} {F : List Nat} (h : RowA T k (.slice (some ⟨g, 0, none⟩) n' cap) n xs w F) {o : Nat} {us : List Value} (ho : o + us.length ≤ xs.length) :
    RowA T k (.slice (some ⟨g, 0, none⟩) n' cap) n (putAt xs o us) (w.setCells g o us) F ∧ Mod F w (w.setCells g o us) := by
  obtain ⟨h0, h1, h2⟩ := h
  rcases h2 with ⟨e, h3⟩ | ⟨g', cap', cur, e, h3, h4, h5, h6, h7, h8⟩
  · cases e
  · cases e
    have hlen : xs.length ≤ cur.size := by
      have := congrArg List.length h8
      simp at this; omega
    obtain ⟨C', e1, e2, e3⟩ := setCells_heap us w g o cur T (0, 0) h4 (by omega)
    refine ⟨⟨h0, by rw [putAt_length ho, h1], Or.inr ⟨g, cap, C', rfl, h3, e1, h5, h6, ?_, ?_⟩⟩, e3.mono (fun b hb => by rw [h0]; simpa [Value.ownBlock] using hb)⟩
    · rw [← Array.length_toList, e2]; simp; omega
    · rw [e2]
      obtain ⟨D, e4⟩ : ∃ D, cur.toList = xs ++ D := ⟨cur.toList.drop (n' * k), by rw [← h8, List.take_append_drop]⟩
      have hx : xs.length = n' * k := h1
      rw [e4]
      unfold putAt
      have a1 : (xs ++ D).take o = xs.take o := List.take_append_of_le_length (by omega)
      have a2 : (xs ++ D).drop (o + us.length) = xs.drop (o + us.length) ++ D := List.drop_append_of_le_length (by omega)
      rw [a1, a2, ← List.append_assoc, List.take_append_of_le_length (by simp; omega), List.take_of_length_le (by simp; omega)]
theorem RowA.there {T : TypeId} {k : Nat} {g n' n cap : Nat} {xs : List Value} {w : World} {F : List Nat} (h : RowA T k (.slice (some ⟨g, 0, none⟩) n' cap) n xs w F) {o m : Nat} (ho : o + m ≤ xs.length) : w.there g o m := by
  obtain ⟨h0, h1, h2⟩ := h
  rcases h2 with ⟨e, h3⟩ | ⟨g', cap', cur, e, h3, h4, h5, h6, h7, h8⟩
  · cases e
  · cases e
    have hlen : xs.length ≤ cur.size := by
      have := congrArg List.length h8
      simp at this; omega
    intro j hj
    refine ⟨?_, free_of h4⟩
    rw [cell_of h4 (v := cur[o + j]'(by omega)) (Array.getElem?_eq_getElem _)]; rfl
theorem row_put {F0 : List Nat} {w0 w : World} {R : List Asrt} {T : TypeId} {k g n' n cap : Nat} {xs : List Value} (h : In F0 w0 w R) (i : Nat) (hA : R[i]? = some (RowA T k (.slice (some ⟨g, 0, none⟩) n' cap) n xs)) {o : Nat} {us : List Value} (ho : o + us.length ≤ xs.length) :
    In F0 w0 (w.setCells g o us) (R.set i (RowA T k (.slice (some ⟨g, 0, none⟩) n' cap) n (putAt xs o us))) :=
  h.step i hA (RowA.framed _ _ _ _ _) fun F hF => ⟨F, (hF.put ho).1, Grew.refl _ _, (hF.put ho).2⟩
theorem RowA.pre {T : TypeId} {k : Nat} {g n' n cap m : Nat} {xs : List Value} {w : World} {F : List Nat} (h : RowA T k (.slice (some ⟨g, 0, none⟩) n' cap) n xs w F) (hm : m ≤ n) : RowA T k (.slice (some ⟨g, 0, none⟩) m cap) m (xs.take (m * k)) w F := by
  obtain ⟨h0, h1, h2⟩ := h
  rcases h2 with ⟨e, h3⟩ | ⟨g', cap', cur, e, h3, h4, h5, h6, h7, h8⟩
  · cases e
  · cases e
    have hle : m * k ≤ n' * k := Nat.mul_le_mul_right _ hm
    refine ⟨by rw [h0]; rfl, by rw [List.length_take, h1]; exact Nat.min_eq_left hle, Or.inr ⟨g, cap, cur, rfl, h3, h4, by omega, h6, h7, ?_⟩⟩
    rw [← h8, List.take_take, Nat.min_eq_left hle]
theorem clear_run {P : Program} {t e ty : TypeId} {z : Value} (ht : P.underlying t = some (.slice e)) (hv : ∀ w, (zeroValue e).run P w = .ok z w) (w : World) (b o n c : Nat) (h1 : ∀ v ∈ (Builtin.zeroCells z.cells n).toList, v.oneCell' = true)
    (hc : w.there b o (Builtin.zeroCells z.cells n).toList.length) : (Builtin.clear_ #[t] ty #[.slice (some ⟨b, o, none⟩) n c]).run P w = .ok (.tuple #[]) (if n = 0 then w else w.setCells b o (Builtin.zeroCells z.cells n).toList) := by
  by_cases hn : n = 0
  · subst hn; rw [if_pos rfl]; simp [Builtin.clear_, run_underlying ht]
  · have hst := run_storeCells_cells (P := P) b o (Builtin.zeroCells z.cells n).toList 0 w (fun j hj => by simpa using (hc j hj).1) (fun j hj => by simpa using (hc j hj).2) h1
    simp only [Nat.add_zero] at hst
    obtain ⟨m, rfl⟩ : ∃ m, n = m + 1 := ⟨n - 1, by omega⟩
    rw [if_neg hn]
    simp [Builtin.clear_, run_underlying ht, hv, hst]
def iV (t : List Int) : List Value := t.map (fun n => Value.int .i64 n)
theorem iV_length (t : List Int) : (iV t).length = t.length := List.length_map _
abbrev IR (v : Value) (t : List Int) : Asrt := RowA 3 1 v t.length (iV t)
abbrev mC (id at' skip : Int) : Array Value := #[.int .i64 id, .int .i64 at', .int .i64 skip]
def stepsF (t : List Int) (skip : Nat) : Nat → Nat → Nat
  | 0, _ => 0
  | f + 1, a => if t.getD a 0 = -1 then 0 else stepsF t skip f ((a + skip) % t.length) + 1
theorem stepsF_eq {t : List Int} {skip : Nat} (hm : 0 < t.length) : ∀ (d f a : Nat), d < f → a < t.length → (∀ i, i < d → t.getD ((a + i * skip) % t.length) 0 ≠ -1) → t.getD ((a + d * skip) % t.length) 0 = -1 → stepsF t skip f a = d
  | 0, f + 1, a, _, ha, _, h => by
    rw [Nat.zero_mul, Nat.add_zero, Nat.mod_eq_of_lt ha] at h
    rw [stepsF, if_pos h]
  | d + 1, f + 1, a, hd, ha, hn, h => by
    have h0 := hn 0 (by omega)
    rw [Nat.zero_mul, Nat.add_zero, Nat.mod_eq_of_lt ha] at h0
    have e : ∀ j, ((a + skip) % t.length + j * skip) % t.length = (a + (j + 1) * skip) % t.length := fun j => by
      rw [Nat.mod_add_mod, Nat.add_mul, Nat.one_mul, Nat.add_assoc, Nat.add_comm skip]
    rw [stepsF, if_neg h0, stepsF_eq hm d f ((a + skip) % t.length) (by omega) (Nat.mod_lt _ hm) (fun i hi => by rw [e]; exact hn (i + 1) (by omega)) (by rw [e]; exact h)]
def posOf (gr : Nat) (w : World) : Nat := match w.cell? ⟨gr, 1, none⟩ with | some (.int _ n) => n.toNat | _ => 0
section
variable {F0 : List Nat} {w0 w : World} {R : List Asrt}
theorem row_int {g n cap k : Nat} {t : List Int} (h : In F0 w0 w R) (i : Nat) (hA : R[i]? = some (IR (.slice (some ⟨g, 0, none⟩) n cap) t)) (hk : k < t.length) : w.cell? ⟨g, k, none⟩ = some (.int .i64 (t.getD k 0)) ∧ w.frozen? ⟨g, k, none⟩ = false := by
  obtain ⟨F, r⟩ := h.get i hA
  obtain ⟨ad, e, hc⟩ := r.all.at' (by omega)
  cases e
  have := hc k (.int .i64 (t.getD k 0)) (by simp [iV, List.getD_eq_getElem?_getD, hk])
  rw [add_at, Nat.zero_add] at this
  exact ⟨this, ((RowA.there r (o := k) (m := 1) (by rw [iV_length]; omega)) 0 (by omega)).2⟩
theorem row_seti {g n cap k : Nat} {t : List Int} (h : In F0 w0 w R) (i : Nat) (hA : R[i]? = some (IR (.slice (some ⟨g, 0, none⟩) n cap) t)) (hk : k < t.length) (x : Int) :
    In F0 w0 (w.setCell ⟨g, k, none⟩ (.int .i64 x)) (R.set i (IR (.slice (some ⟨g, 0, none⟩) n cap) (t.set k x))) := by
  have h1 := row_put h i hA (o := k) (us := [.int .i64 x]) (by rw [iV_length]; simp; omega)
  have e : putAt (iV t) k [.int .i64 x] = iV (t.set k x) := by
    unfold putAt iV
    rw [List.map_set, List.set_eq_take_append_cons_drop, if_pos (by simpa using hk)]; simp
  rw [e] at h1
  unfold IR
  rw [List.length_set]
  exact h1
def NextRel (t : List Int) (gt m cap gr skip a0 K : Nat) (id : Int) (F0 : List Nat) (w0 : World) (R : List Asrt) (wr : World) : Prop :=
  ∃ j : Nat, j ≤ K ∧ In F0 w0 wr (IR (.slice (some ⟨gt, 0, none⟩) m cap) t :: Cells gr (mC id ((a0 + j * skip) % m : Nat) skip) 137 :: R)
theorem o_manext {gt m cap gr skip a0 : Nat} {t : List Int} {id : Int} (h : In F0 w0 w (IR (.slice (some ⟨gt, 0, none⟩) m cap) t :: Cells gr (mC id a0 skip) 137 :: R)) (hm : t.length = m) (hm1 : 0 < m) (hm2 : m ≤ 251) (ha : a0 < m) (hsk : skip ≤ 251) (hfree : ∃ k, k < m ∧ t.getD ((a0 + k * skip) % m) 0 = -1) :
    Calls Tryz.prog 69 #[.pointer (some ⟨gr, 0, none⟩), .slice (some ⟨gt, 0, none⟩) m cap] w fun e w' => e = .returned (.tuple #[]) ∧ In F0 w0 w' (IR (.slice (some ⟨gt, 0, none⟩) m cap) (nextT t ⟨id, a0, skip⟩) :: Cells gr (mC id (freeAt t ⟨id, a0, skip⟩) skip) 137 :: R) := by
  obtain ⟨k, hk, hkf⟩ := hfree
  obtain ⟨K, K1, K2, K3, K4⟩ := goFree_spec (t := t) (skip := skip) (by omega) k m a0 hk (by rw [hm]; exact hkf) (by omega)
  rw [hm] at K2 K3 K4
  have HK : Hid (freeAt t ⟨id, a0, skip⟩ = (a0 + K * skip) % m) := Lib.hid (by unfold freeAt; rw [hm]; exact K2)
  have HKm : Hid (K < m) := Lib.hid (by omega)
  have HN := Lib.hid K3
  have HF := Lib.hid K4
  have HS0 : Hid (NextRel t gt m cap gr skip a0 K id F0 w0 R w) := Lib.hid ⟨0, Nat.zero_le _, by rw [Nat.zero_mul, Nat.add_zero, Nat.mod_eq_of_lt ha]; exact h⟩
  have HM := Lib.hid (And.intro hm (And.intro hm1 (And.intro hm2 hsk)))
  clear h hk hkf K1 K2 K3 K4 hm hm1 hm2 ha hsk
  go_enter Tryz.func69, Tryz.ntmps69
  go_wp2_with fail
  go_loopw [] (NextRel t gt m cap gr skip a0 K id F0 w0 R) (fun wr => stepsF t skip m (posOf gr wr))
  case atStart => exact HS0.out
  case round =>
    obtain ⟨j, hj, ho⟩ := hrel
    clear HS0
    obtain ⟨hm, hm1, hm2, hsk⟩ := HM.out
    obtain ⟨p, hp⟩ : ∃ p, p = (a0 + j * skip) % m := ⟨_, rfl⟩
    rw [← hp] at ho
    have hpm : p < m := by rw [hp]; exact Nat.mod_lt _ hm1
    have c0 : wr.cell? ⟨gr, 0, none⟩ = some (.int .i64 id) := cell_of (ho.block 1 rfl) rfl
    have c1 : wr.cell? ⟨gr, 1, none⟩ = some (.int .i64 p) := cell_of (ho.block 1 rfl) rfl
    have c2 : wr.cell? ⟨gr, 2, none⟩ = some (.int .i64 skip) := cell_of (ho.block 1 rfl) rfl
    have f1 : wr.frozen? ⟨gr, 1, none⟩ = false := free_of (ho.block 1 rfl)
    obtain ⟨ct, ft⟩ := row_int ho 0 rfl (k := p) (by omega)
    have hix : (p : Int) < (m : Int) := by omega
    have hadd : ∀ i, (p + i * skip) % m = (a0 + (j + i) * skip) % m := fun i => by
      rw [hp, Nat.mod_add_mod, Nat.add_mul, Nat.add_assoc]
    have hd0 : wr.drew.cell? ⟨gr, 0, none⟩ = some (.int .i64 id) ∧ wr.drew.cell? ⟨gr, 1, none⟩ = some (.int .i64 p) ∧ wr.drew.cell? ⟨gr, 2, none⟩ = some (.int .i64 skip) := ⟨c0, c1, c2⟩
    have hdt : wr.drew.cell? ⟨gt, p, none⟩ = some (.int .i64 (t.getD p 0)) := ct
    have hdf : wr.drew.frozen? ⟨gt, p, none⟩ = false := ft
    have hdf1 : wr.drew.frozen? ⟨gr, 1, none⟩ = false := f1
    by_cases hjK : j = K
    · have hval : t.getD p 0 = -1 := by rw [hp, hjK]; exact HF.out
      have G : Hid (In F0 w0 (wr.setCell ⟨gt, p, none⟩ (.int .i64 id)).drew (IR (.slice (some ⟨gt, 0, none⟩) m cap) (nextT t ⟨id, a0, skip⟩) :: Cells gr (mC id (freeAt t ⟨id, a0, skip⟩) skip) 137 :: R)) := Lib.hid (by
        have h1 := (row_seti ho 0 rfl (k := p) (by omega) id).drewN 1
        have e : freeAt t ⟨id, a0, skip⟩ = p := by rw [HK.out, hp, hjK]
        unfold nextT
        rw [e]
        exact h1)
      rw [hval] at ct hdt
      clear ho hp hadd hval HN HF HM hm hm1 hm2 hsk hj hjK HK HKm hpm
      go_upto_region 2 with fail
      refine e_start (fun w' => w'.cell? ⟨gr, 0, none⟩ = some (.int .i64 id) ∧ w'.cell? ⟨gr, 1, none⟩ = some (.int .i64 p) ∧ w'.cell? ⟨gr, 2, none⟩ = some (.int .i64 skip)) (by kernel_rfl) hd0 (fun hS => ?_)
      clear hd0
      refine e_take (i := 0) (v := ?_) rfl (by kernel_rfl) (fun _ _ _ h => h) (by rfl) ?_ hS ?_
      rotate_left
      · (intro w hSw; (try dsimp only at hSw); go_simp; try with_reducible rfl)
      try simp only [Act.put, List.setIfInBounds_toArray, List.set_cons_zero, List.set_cons_succ]
      refine e_take (i := 1) (v := ?_) rfl (by kernel_rfl) (fun _ _ _ h => h) (by rfl) ?_ hS ?_
      rotate_left
      · (intro w hSw; (try dsimp only at hSw); go_simp; try with_reducible rfl)
      try simp only [Act.put, List.setIfInBounds_toArray, List.set_cons_zero, List.set_cons_succ]
      refine e_take (i := 2) (v := ?_) rfl (by kernel_rfl) (fun _ _ _ h => h) (by rfl) ?_ hS ?_
      rotate_left
      · (intro w hSw; (try dsimp only at hSw); go_simp; try with_reducible rfl)
      try simp only [Act.put, List.setIfInBounds_toArray, List.set_cons_zero, List.set_cons_succ]
      refine e_take (i := 3) (v := ?_) rfl (by kernel_rfl) (fun _ _ _ h => h) (by rfl) ?_ hS ?_
      rotate_left
      · (intro w hSw; (try dsimp only at hSw); go_simp; try with_reducible rfl)
      try simp only [Act.put, List.setIfInBounds_toArray, List.set_cons_zero, List.set_cons_succ]
      refine e_take (i := 4) (v := ?_) rfl (by kernel_rfl) (fun _ _ _ h => h) (by rfl) ?_ hS ?_
      rotate_left
      · (intro w hSw; (try dsimp only at hSw); go_simp; try with_reducible rfl)
      try simp only [Act.put, List.setIfInBounds_toArray, List.set_cons_zero, List.set_cons_succ]
      refine e_take (i := 5) (v := ?_) rfl (by kernel_rfl) (fun _ _ _ h => h) (by rfl) ?_ hS ?_
      rotate_left
      · (intro w hSw; (try dsimp only at hSw); go_simp; try with_reducible rfl)
      try simp only [Act.put, List.setIfInBounds_toArray, List.set_cons_zero, List.set_cons_succ]
      refine e_take (i := 6) (v := ?_) rfl (by kernel_rfl) (fun _ _ _ h => h) (by rfl) ?_ hS ?_
      rotate_left
      · (intro w hSw; (try dsimp only at hSw); go_simp; try with_reducible rfl)
      try simp only [Act.put, List.setIfInBounds_toArray, List.set_cons_zero, List.set_cons_succ]
      refine e_take (i := 7) (v := ?_) rfl (by kernel_rfl) (fun _ _ _ h => h) (by rfl) ?_ hS ?_
      rotate_left
      · (intro w hSw; (try dsimp only at hSw); go_simp; try with_reducible rfl)
      try simp only [Act.put, List.setIfInBounds_toArray, List.set_cons_zero, List.set_cons_succ]
      refine e_take (i := 8) (v := ?_) rfl (by kernel_rfl) (fun _ _ _ h => h) (by rfl) ?_ hS ?_
      rotate_left
      · (intro w hSw; (try dsimp only at hSw); go_simp; try with_reducible rfl)
      try simp only [Act.put, List.setIfInBounds_toArray, List.set_cons_zero, List.set_cons_succ]
      refine e_take (i := 9) (v := ?_) rfl (by kernel_rfl) (fun _ _ _ h => h) (by rfl) ?_ hS ?_
      rotate_left
      · (intro w hSw; (try dsimp only at hSw); go_simp; try with_reducible rfl)
      try simp only [Act.put, List.setIfInBounds_toArray, List.set_cons_zero, List.set_cons_succ]
      clear hS
      refine e_last (i := 10) rfl (by kernel_rfl) (fun K' hK => ?_)
      go_simp
      refine hK.out _ _ ?_
      clear hK K'
      go_wp2_with fail
      go_end0
      exact ⟨rfl, G.out⟩
    · have hval : t.getD p 0 ≠ -1 := by rw [hp]; exact HN.out j (by omega)
      have hne : (t.getD p 0 != -1) = true := by rw [bne_iff_ne]; exact hval
      obtain ⟨s, hs⟩ : ∃ s, s = p + skip := ⟨_, rfl⟩
      have hsum : IntKind.i64.wrap ((p : Int) + (skip : Int)) = (s : Int) := by rw [IntWalk.i64_in _ (by omega)]; omega
      obtain ⟨r, hr⟩ : ∃ r, r = s % m := ⟨_, rfl⟩
      have hrem : Int.tmod (s : Int) (m : Int) = (r : Int) := by rw [Int.tmod_eq_emod_of_nonneg (by omega), hr, Int.natCast_emod]
      have hm0 : ¬ ((m : Int) = 0) := by omega
      have hm0' : ¬ (m = 0) := by omega
      have hr2 : r = (a0 + (j + 1) * skip) % m := by rw [hr, hs, ← hadd 1, Nat.one_mul]
      have HR : Hid (NextRel t gt m cap gr skip a0 K id F0 w0 R ((wr.setCell ⟨gr, 1, none⟩ (.int .i64 r)).drew)) := Lib.hid ⟨j + 1, by omega, by
        rw [← hr2]; exact (ho.put 1 rfl 1 (.int .i64 r)).drewN 1⟩
      have HMS : Hid (stepsF t skip m (posOf gr ((wr.setCell ⟨gr, 1, none⟩ (.int .i64 r)).drew)) < stepsF t skip m (posOf gr wr)) := Lib.hid (by
        have e1 : posOf gr wr = p := by unfold posOf; rw [c1]; rfl
        have e2 : posOf gr ((wr.setCell ⟨gr, 1, none⟩ (.int .i64 r)).drew) = r := by
          unfold posOf; rw [show ((wr.setCell ⟨gr, 1, none⟩ (.int .i64 r)).drew).cell? ⟨gr, 1, none⟩ = some (.int .i64 r) from set_cell_same (ho.block 1 rfl) (by simp) _]; rfl
        have hrm : r < m := by rw [hr]; exact Nat.mod_lt _ hm1
        have haddr : ∀ i, (r + i * skip) % m = (a0 + (j + 1 + i) * skip) % m := fun i => by
          rw [hr2, Nat.mod_add_mod, Nat.add_mul (j + 1) i skip, Nat.add_assoc]
        have hK := HKm.out
        have s1 := stepsF_eq (t := t) (skip := skip) (by omega) (K - j) m p (by omega) (by omega) (fun i hi => by rw [hm, hadd]; exact HN.out _ (by omega)) (by rw [hm, hadd, show j + (K - j) = K by omega]; exact HF.out)
        have s2 := stepsF_eq (t := t) (skip := skip) (by omega) (K - j - 1) m r (by omega) (by omega) (fun i hi => by rw [hm, haddr]; exact HN.out _ (by omega)) (by rw [hm, haddr, show j + 1 + (K - j - 1) = K by omega]; exact HF.out)
        rw [e1, e2, s1, s2]; omega)
      clear ho hp hadd hval HN HF hm hm1 hm2 hsk hj hjK HK HKm hpm hs hr hr2 HM
      generalize t.getD p 0 = x at *
      go_upto_region 1 with fail
      refine e_start (fun w' => w'.cell? ⟨gr, 0, none⟩ = some (.int .i64 id) ∧ w'.cell? ⟨gr, 1, none⟩ = some (.int .i64 p) ∧ w'.cell? ⟨gr, 2, none⟩ = some (.int .i64 skip)) (by kernel_rfl) hd0 (fun hS => ?_)
      clear hd0
      refine e_take (i := 0) (v := ?_) rfl (by kernel_rfl) (fun _ _ _ h => h) (by rfl) ?_ hS ?_
      rotate_left
      · (intro w hSw; (try dsimp only at hSw); go_simp; try with_reducible rfl)
      try simp only [Act.put, List.setIfInBounds_toArray, List.set_cons_zero, List.set_cons_succ]
      refine e_take (i := 1) (v := ?_) rfl (by kernel_rfl) (fun _ _ _ h => h) (by rfl) ?_ hS ?_
      rotate_left
      · (intro w hSw; (try dsimp only at hSw); go_simp; try with_reducible rfl)
      try simp only [Act.put, List.setIfInBounds_toArray, List.set_cons_zero, List.set_cons_succ]
      refine e_take (i := 2) (v := ?_) rfl (by kernel_rfl) (fun _ _ _ h => h) (by rfl) ?_ hS ?_
      rotate_left
      · (intro w hSw; (try dsimp only at hSw); go_simp; try with_reducible rfl)
      try simp only [Act.put, List.setIfInBounds_toArray, List.set_cons_zero, List.set_cons_succ]
      refine e_take (i := 3) (v := ?_) rfl (by kernel_rfl) (fun _ _ _ h => h) (by rfl) ?_ hS ?_
      rotate_left
      · (intro w hSw; (try dsimp only at hSw); go_simp; try with_reducible rfl)
      try simp only [Act.put, List.setIfInBounds_toArray, List.set_cons_zero, List.set_cons_succ]
      refine e_take (i := 4) (v := ?_) rfl (by kernel_rfl) (fun _ _ _ h => h) (by rfl) ?_ hS ?_
      rotate_left
      · (intro w hSw; (try dsimp only at hSw); go_simp; try with_reducible rfl)
      try simp only [Act.put, List.setIfInBounds_toArray, List.set_cons_zero, List.set_cons_succ]
      refine e_take (i := 5) (v := ?_) rfl (by kernel_rfl) (fun _ _ _ h => h) (by rfl) ?_ hS ?_
      rotate_left
      · (intro w hSw; (try dsimp only at hSw); go_simp; try with_reducible rfl)
      try simp only [Act.put, List.setIfInBounds_toArray, List.set_cons_zero, List.set_cons_succ]
      refine e_take (i := 6) (v := ?_) rfl (by kernel_rfl) (fun _ _ _ h => h) (by rfl) ?_ hS ?_
      rotate_left
      · (intro w hSw; (try dsimp only at hSw); go_simp; try with_reducible rfl)
      try simp only [Act.put, List.setIfInBounds_toArray, List.set_cons_zero, List.set_cons_succ]
      refine e_take (i := 7) (v := ?_) rfl (by kernel_rfl) (fun _ _ _ h => h) (by rfl) ?_ hS ?_
      rotate_left
      · (intro w hSw; (try dsimp only at hSw); go_simp; try with_reducible rfl)
      try simp only [Act.put, List.setIfInBounds_toArray, List.set_cons_zero, List.set_cons_succ]
      refine e_take (i := 8) (v := ?_) rfl (by kernel_rfl) (fun _ _ _ h => h) (by rfl) ?_ hS ?_
      rotate_left
      · (intro w hSw; (try dsimp only at hSw); go_simp; try with_reducible rfl)
      try simp only [Act.put, List.setIfInBounds_toArray, List.set_cons_zero, List.set_cons_succ]
      refine e_take (i := 9) (v := ?_) rfl (by kernel_rfl) (fun _ _ _ h => h) (by rfl) ?_ hS ?_
      rotate_left
      · (intro w hSw; (try dsimp only at hSw); go_simp; try with_reducible rfl)
      try simp only [Act.put, List.setIfInBounds_toArray, List.set_cons_zero, List.set_cons_succ]
      refine e_take (i := 10) (v := ?_) rfl (by kernel_rfl) (fun _ _ _ h => h) (by rfl) ?_ hS ?_
      rotate_left
      · (intro w hSw; (try dsimp only at hSw); go_simp; try with_reducible rfl)
      try simp only [Act.put, List.setIfInBounds_toArray, List.set_cons_zero, List.set_cons_succ]
      refine e_take (i := 11) (v := ?_) rfl (by kernel_rfl) (fun _ _ _ h => h) (by rfl) ?_ hS ?_
      rotate_left
      · (intro w hSw; (try dsimp only at hSw); go_simp; try with_reducible rfl)
      try simp only [Act.put, List.setIfInBounds_toArray, List.set_cons_zero, List.set_cons_succ]
      refine e_take (i := 12) (v := ?_) rfl (by kernel_rfl) (fun _ _ _ h => h) (by rfl) ?_ hS ?_
      rotate_left
      · (intro w hSw; (try dsimp only at hSw); go_simp; try with_reducible rfl)
      try simp only [Act.put, List.setIfInBounds_toArray, List.set_cons_zero, List.set_cons_succ]
      refine e_take (i := 13) (v := ?_) rfl (by kernel_rfl) (fun _ _ _ h => h) (by rfl) ?_ hS ?_
      rotate_left
      · (intro w hSw; (try dsimp only at hSw); go_simp; try with_reducible rfl)
      try simp only [Act.put, List.setIfInBounds_toArray, List.set_cons_zero, List.set_cons_succ]
      refine e_take (i := 14) (v := ?_) rfl (by kernel_rfl) (fun _ _ _ h => h) (by rfl) ?_ hS ?_
      rotate_left
      · (intro w hSw; (try dsimp only at hSw); go_simp; try with_reducible rfl)
      try simp only [Act.put, List.setIfInBounds_toArray, List.set_cons_zero, List.set_cons_succ]
      clear hS
      refine e_last (i := 15) rfl (by kernel_rfl) (fun K' hK => ?_)
      go_simp
      refine hK.out _ _ ?_
      clear hK K'
      go_wp2_with fail
      go_roundw
      case rel => exact HR.out
      case measure => exact HMS.out
end
theorem takesM_snoc : ∀ (l : List Bk) (b : Bk) (j : Nat), takesM (l ++ [b]) j = takesM l j ++ List.replicate b.weight.toNat (j + l.length)
  | [], b, j => by simp [takesM]
  | a :: r, b, j => by
    have := takesM_snoc r b (j + 1)
    simp only [List.cons_append, takesM, this, List.append_assoc, List.length_cons]
    rw [show j + 1 + r.length = j + (r.length + 1) by omega]
theorem takesM_lt : ∀ (l : List Bk) (j : Nat), ∀ k ∈ takesM l j, k < j + l.length
  | [], j, k, h => by simp [takesM] at h
  | a :: r, j, k, h => by
    simp only [takesM, List.mem_append] at h
    rcases h with h | h
    · have := List.eq_of_mem_replicate h; simp; omega
    · have := takesM_lt r (j + 1) k h; simp; omega
theorem takesM_len : ∀ (l : List Bk) (j : Nat), (∀ b ∈ l, mayBk b = true) → (takesM l j).length ≤ l.length * 10
  | [], j, _ => by simp [takesM]
  | a :: r, j, h => by
    have h1 := takesM_len r (j + 1) (fun b hb => h b (List.mem_cons_of_mem _ hb))
    have h2 := h a (by simp)
    unfold mayBk at h2
    simp only [Bool.and_eq_true, decide_eq_true_eq] at h2
    simp only [takesM, List.length_append, List.length_replicate, List.length_cons]
    omega
theorem takesM_pos {l : List Bk} (h : l ≠ []) (hb : ∀ b ∈ l, mayBk b = true) : 0 < (takesM l 0).length := by
  match l, h with
  | a :: r, _ =>
    have h2 := hb a (by simp)
    unfold mayBk at h2
    simp only [Bool.and_eq_true, decide_eq_true_eq] at h2
    simp only [takesM, List.length_append, List.length_replicate]
    omega
structure FillOk (m : Nat) (n : Nat) (s : List Int × List MRow) (i : Nat) : Prop where
  tl : s.1.length = m
  rl : s.2.length = n
  rows : ∀ r ∈ s.2, 0 ≤ r.id ∧ r.at' < m ∧ 1 ≤ r.skip ∧ r.skip < m
  cnt : s.1.count (-1) = m - i
theorem FillOk.free {m n i : Nat} {s : List Int × List MRow} (h : FillOk m n s i) (hi : i < m) (hc : ∀ s, 1 ≤ s → s < m → Cov m s) {r : MRow} (hr : r ∈ s.2) : ∃ k, k < m ∧ s.1.getD ((r.at' + k * r.skip) % m) 0 = -1 := by
  obtain ⟨_, h2, h3, h4⟩ := h.rows r hr
  have hpos : 0 < s.1.count (-1) := by rw [h.cnt]; omega
  obtain ⟨p, hp, he⟩ := List.mem_iff_getElem.1 (List.count_pos_iff.1 hpos)
  obtain ⟨k, hk, e⟩ := hc r.skip h3 h4 r.at' h2 p (by rw [← h.tl]; exact hp)
  exact ⟨k, hk, by rw [e, List.getD_eq_getElem?_getD, List.getElem?_eq_getElem hp, he]; rfl⟩
theorem FillOk.step {m n i : Nat} {s : List Int × List MRow} (h : FillOk m n s i) (hi : i < m) (hc : ∀ s, 1 ≤ s → s < m → Cov m s) {ks : List Nat} {j : Nat} (hj : ks.getD (i % ks.length) 0 = j) (hn : j < n) : FillOk m n (stepM ks s i) (i + 1) := by
  have hjl : j < s.2.length := by rw [h.rl]; exact hn
  obtain ⟨r, hr⟩ : ∃ r, r = s.2.getD j default := ⟨_, rfl⟩
  have hr2 : s.2[j]? = some r := by rw [hr, List.getD_eq_getElem?_getD, List.getElem?_eq_getElem hjl]; rfl
  have hm : r ∈ s.2 := List.mem_of_getElem? hr2
  obtain ⟨k, hk, hf⟩ := h.free hi hc hm
  obtain ⟨q1, q2, q3, q4⟩ := h.rows r hm
  obtain ⟨d, _, d2, _, d4⟩ := goFree_spec (t := s.1) (skip := r.skip) (by rw [h.tl]; omega) k m r.at' hk (by rw [h.tl]; exact hf) (by rw [h.tl]; exact q2)
  have hfa : freeAt s.1 r = (r.at' + d * r.skip) % m := by unfold freeAt; rw [h.tl]; rw [h.tl] at d2; exact d2
  rw [h.tl] at d4
  rw [← hfa] at d4
  have hfl : freeAt s.1 r < m := by rw [hfa]; exact Nat.mod_lt _ (by omega)
  unfold stepM
  simp only [hj, ← hr]
  refine ⟨by unfold nextT; rw [List.length_set]; exact h.tl, by rw [List.length_set]; exact h.rl, fun x hx => ?_, ?_⟩
  · rcases List.mem_or_eq_of_mem_set hx with hx | hx
    · exact h.rows x hx
    · subst hx; exact ⟨q1, hfl, q3, q4⟩
  · unfold nextT
    have hlt : freeAt s.1 r < s.1.length := by rw [h.tl]; exact hfl
    have hv : s.1[freeAt s.1 r] = -1 := by
      rw [List.getD_eq_getElem?_getD, List.getElem?_eq_getElem hlt] at d4; exact d4
    have e2 : (r.id == (-1 : Int)) = false := beq_eq_false_iff_ne.2 (by omega)
    rw [List.count_set hlt, hv, h.cnt, e2]
    simp
    omega
theorem rowsM_ok {l : List Bk} (hb : ∀ b ∈ l, mayBk b = true) {m : Nat} (hm : 3 ≤ m) : ∀ r ∈ rowsM l m, 0 ≤ r.id ∧ r.at' < m ∧ 1 ≤ r.skip ∧ r.skip < m := by
  intro r hr
  obtain ⟨b, hbl, rfl⟩ := List.mem_map.1 hr
  have h2 := hb b hbl
  unfold mayBk at h2
  simp only [Bool.and_eq_true, decide_eq_true_eq] at h2
  refine ⟨h2.1.1, Nat.mod_lt _ (by omega), ?_, ?_⟩
  · simp only [skipN]; omega
  · have : mixN 2 (idB b.id) % (m - 1) < m - 1 := Nat.mod_lt _ (by omega)
    simp only [skipN]; omega
theorem FillOk.start {l : List Bk} (hb : ∀ b ∈ l, mayBk b = true) {m : Nat} (hm : 3 ≤ m) (ks : List Nat) : FillOk m l.length (fillM ks m (rowsM l m) 0) 0 :=
  ⟨by simp [fillM], by simp [fillM, rowsM], rowsM_ok hb hm, by simp [fillM]⟩
theorem fill_ok {l : List Bk} (hb : ∀ b ∈ l, mayBk b = true) (hl : l ≠ []) {m : Nat} (hm : 3 ≤ m) (hc : ∀ s, 1 ≤ s → s < m → Cov m s) : ∀ i, i ≤ m → FillOk m l.length (fillM (takesM l 0) m (rowsM l m) i) i
  | 0, _ => FillOk.start hb hm _
  | i + 1, h => by
    rw [fillM_succ]
    have hp := takesM_pos hl hb
    have hlt : i % (takesM l 0).length < (takesM l 0).length := Nat.mod_lt _ hp
    refine (fill_ok hb hl hm hc i (by omega)).step (by omega) hc rfl ?_
    have := takesM_lt l 0 ((takesM l 0).getD (i % (takesM l 0).length) 0) (by
      rw [List.getD_eq_getElem?_getD, List.getElem?_eq_getElem hlt]; exact List.getElem_mem _)
    omega
end Go.Proofs.YtgapbecddgfkmaaGreat
