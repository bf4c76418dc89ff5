/- Backends that drain: the calls. -/
import Derived.Test.YtcakgponofbhkaaDrainsMap
import Derived.Test.YtcakgponofbhkaaOwn
import Derived.Deep.RegionHeld3
import Derived.StillTailTactics
namespace Go.Proofs.Ytcakgponofbhkaa
open Go.RowKit
set_option linter.unusedVariables false
set_option maxRecDepth 100000

theorem dmay (b : Int) (w : World) : Calls Try.prog 51 #[.int .i64 b] w fun e w' => e = .returned (.bool (decide (0 ≤ b ∧ b ≤ 65535))) ∧ w = w' := by
  by_cases h0 : 0 ≤ b
  · by_cases h1 : b ≤ 65535
    · go_enter Try.func51, Try.ntmps51
      go_wp2_with fail
      go_ret
      simp [h0, h1]
    · have h1' : decide (b ≤ 65535) = false := by simp; omega
      go_enter Try.func51, Try.ntmps51
      go_wp2_with fail
      go_ret
      simp
  · have h0' : decide (0 ≤ b) = false := by simp; omega
    go_enter Try.func51, Try.ntmps51
    go_wp2_with fail
    go_ret
    simp
theorem dkey {b : Int} (hb : MayB b) (w : World) : Calls Try.prog 53 #[.int .i64 b] w fun e w' => e = .returned (.string (keyB b)) ∧ ∃ o : Obj, w' = w.alloc o := by
  unfold MayB at hb
  unfold keyB
  have hcv : (convert 129 9 (.slice (some ⟨w.heap.size, 0, none⟩) 2 2)).run Try.prog (w.alloc (.cells #[.int .u8 (b / 256), .int .u8 (b % 256)] 5)) = .ok (.string (key2 (b / 256) (b % 256))) (w.alloc (.cells #[.int .u8 (b / 256), .int .u8 (b % 256)] 5)) := conv2 (T := 5) hp_alloc_new
  go_enter Try.func53, Try.ntmps53
  go_wp2_with fail
  go_ret
  exact ⟨rfl, _, rfl⟩
theorem key_at (hi lo : Int) (h0 : 0 ≤ hi ∧ hi < 256) (h1 : 0 ≤ lo ∧ lo < 256) (w : World) :
    (Instr.index 9 (.string (key2 hi lo)) (.int .i64 0)).run Try.prog w = .ok (.int .u8 hi) w ∧ (Instr.index 9 (.string (key2 hi lo)) (.int .i64 1)).run Try.prog w = .ok (.int .u8 lo) w := by
  have s2 : (key2 hi lo).size = 2 := rfl
  constructor
  · rw [run_index_string w _ _ _ _ Try.underlying9, dif_pos (by rw [s2]; decide)]
    have e : ((key2 hi lo)[(0 : Int).toNat]'(by rw [s2]; decide)) = UInt8.ofNat hi.toNat := rfl
    rw [e]
    have : ((UInt8.ofNat hi.toNat).toNat : Int) = hi := by simp; omega
    rw [this]
  · rw [run_index_string w _ _ _ _ Try.underlying9, dif_pos (by rw [s2]; decide)]
    have e : ((key2 hi lo)[(1 : Int).toNat]'(by rw [s2]; decide)) = UInt8.ofNat lo.toNat := rfl
    rw [e]
    have : ((UInt8.ofNat lo.toNat).toNat : Int) = lo := by simp; omega
    rw [this]
theorem or_bytes {hi lo : Int} (h0 : 0 ≤ hi ∧ hi < 256) (h1 : 0 ≤ lo ∧ lo < 256) : bits .or .i64 (hi * 256) lo = hi * 256 + lo := by
  obtain ⟨a, rfl⟩ := Int.eq_ofNat_of_zero_le h0.1
  obtain ⟨b, rfl⟩ := Int.eq_ofNat_of_zero_le h1.1
  have e1 : (BitVec.ofInt 64 ((a : Int) * 256)).toNat = a * 256 := by
    rw [show (a : Int) * 256 = ((a * 256 : Nat) : Int) by push_cast; rfl, BitVec.ofInt_natCast, BitVec.toNat_ofNat]; exact Nat.mod_eq_of_lt (by omega)
  have e2 : (BitVec.ofInt 64 (b : Int)).toNat = b := by
    rw [BitVec.ofInt_natCast, BitVec.toNat_ofNat]; exact Nat.mod_eq_of_lt (by omega)
  show IntKind.i64.wrap ((BitVec.ofInt 64 ((a : Int) * 256) ||| BitVec.ofInt 64 (b : Int)).toNat : Int) = _
  have e3 : a * 256 ||| b = a * 256 + b := by
    have := Nat.shiftLeft_add_eq_or_of_lt (i := 8) (b := b) (by omega) a
    rw [Nat.shiftLeft_eq] at this
    exact this.symm
  rw [BitVec.toNat_or, e1, e2, e3, IntKind.wrap_i64]
  push_cast
  omega
theorem dof {b : Int} (hb : MayB b) (w : World) : Calls Try.prog 55 #[.string (keyB b)] w fun e w' => e = .returned (.int .i64 b) ∧ ∃ m, w' = w.drewN m := by
  unfold MayB at hb
  unfold keyB
  have h0 : ∀ w, (Instr.index 9 (.string (key2 (b / 256) (b % 256))) (.int .i64 0)).run Try.prog w = .ok (.int .u8 (b / 256)) w := fun w => (key_at _ _ (by omega) (by omega) w).1
  have h1 : ∀ w, (Instr.index 9 (.string (key2 (b / 256) (b % 256))) (.int .i64 1)).run Try.prog w = .ok (.int .u8 (b % 256)) w := fun w => (key_at _ _ (by omega) (by omega) w).2
  have h2 := or_bytes (hi := b / 256) (lo := b % 256) (by omega) (by omega)
  rw [show b / 256 * 256 + b % 256 = b by omega] at h2
  go_enter Try.func55, Try.ntmps55
  go_wp2_with fail
  go_quiet (fail)
  go_wp2_with fail
  go_ret
  exact ⟨rfl, _, rfl⟩

theorem keyB_size (b : Int) : (keyB b).size ≤ maxLen := key2_size _ _
theorem dkey_in {F0 : List Nat} {w0 w : World} {R : List Asrt} (h : In F0 w0 w R) {b : Int} (hb : MayB b) : Calls Try.prog 53 #[.int .i64 b] w fun e w' => e = .returned (.string (keyB b)) ∧ In F0 w0 w' R :=
  (dkey hb w).mono fun e w' ⟨he, o, hw⟩ => ⟨he, hw ▸ h.alloc o⟩
theorem keysD_of {M : List BT} (h : Keys1 (M.map encB)) : KeysD M := by
  unfold KeysD
  unfold Keys1 at h
  have : (M.map Prod.fst).map keyB = (M.map encB).map (·.1) := by rw [List.map_map, List.map_map]; rfl
  rw [← this] at h
  unfold List.Nodup at *
  exact List.Pairwise.imp (fun hab e => hab (by rw [e])) (List.pairwise_map.1 h)
theorem may_lit {b : Int} (hb : MayB b) : (Lit.int .i64 b).wf = true := by
  unfold MayB at hb
  simp only [Lit.wf, IntKind.min, IntKind.max, IntKind.signed, IntKind.bits, Bool.and_eq_true, decide_eq_true_eq, if_true]
  omega

theorem out_may {M : List BT} (hM : ∀ x ∈ M, MayB x.1) {b : Int} (hb : ¬ MayB b) : atD M b = none ∧ delD b M = M := by
  have h1 : ∀ x ∈ M, x.1 ≠ b := fun x hx e => hb (e ▸ hM x hx)
  exact ⟨atD_none.2 h1, List.filter_eq_self.2 (fun x hx => by simpa using h1 x hx)⟩
theorem may_true {b : Int} (hb : MayB b) (w : World) : Calls Try.prog 51 #[.int .i64 b] w fun e w' => e = .returned (.bool true) ∧ w = w' := by
  have := dmay b w
  rwa [show decide (0 ≤ b ∧ b ≤ 65535) = true by unfold MayB at hb; simpa using hb] at this
theorem may_false {b : Int} (hb : ¬ MayB b) (w : World) : Calls Try.prog 51 #[.int .i64 b] w fun e w' => e = .returned (.bool false) ∧ w = w' := by
  have := dmay b w
  rwa [show decide (0 ≤ b ∧ b ≤ 65535) = false by unfold MayB at hb; simp only [decide_eq_false_iff_not]; exact hb] at this

/-! ### Put -/
theorem dput_nil (b t : Int) (w : World) : Calls Try.prog 14 #[.pointer none, .int .i64 b, .int .i64 t] w fun e w' => e = .returned (.int .i64 1) ∧ w = w' := by
  go_enter Try.func14, Try.ntmps14
  go_wp2_with fail
  go_ret
  exact ⟨rfl, rfl⟩
theorem dput_arg {bs : Nat} {b : Int} (hb : ¬ MayB b) (t : Int) (w : World) : Calls Try.prog 14 #[.pointer (some ⟨bs, 0, none⟩), .int .i64 b, .int .i64 t] w fun e w' => e = .returned (.int .i64 1) ∧ w = w' := by
  have hc := may_false hb w
  go_enter Try.func14, Try.ntmps14
  go_wp2_with fail
  refine hc.mono ?_
  rintro e w1 ⟨rfl, rfl⟩
  go_wp2_with fail
  go_ret
  exact ⟨rfl, rfl⟩
theorem putD_case (M : List BT) (b t : Int) : ((putD M b t).2 = 0 ∧ (putD M b t).1 = insD (b, t) (delD b M)) ∨ ((putD M b t).2 ≠ 0 ∧ (putD M b t).1 = M) := by
  unfold putD
  split
  · exact Or.inr ⟨by simp, rfl⟩
  · split
    · exact Or.inr ⟨by simp, rfl⟩
    · exact Or.inl ⟨rfl, rfl⟩

theorem cell_bs {F0 : List Nat} {w0 w : World} {R : List Asrt} {bs bq bm : Nat} (h : In F0 w0 w (Cells bs #[.pointer (some ⟨bq, 0, none⟩), .map (some bm)] 90 :: R)) :
    w.cell? ⟨bs, 0, none⟩ = some (.pointer (some ⟨bq, 0, none⟩)) ∧ w.cell? ⟨bs, 1, none⟩ = some (.map (some bm)) := by
  have := h.block 0 rfl
  exact ⟨cell_of this rfl, cell_of this rfl⟩
theorem set_keys {F0 : List Nat} {w0 w : World} {bs bq bm : Nat} {M : List BT} (h : In F0 w0 w (DrR bs bq bm M)) : Keys1 (M.map encB) := by
  obtain ⟨F', hq⟩ := h.get 2 rfl; exact IsQ.keys hq

set_option maxHeartbeats 2000000 in
theorem dput {w : World} {bs : Nat} {M : List BT} {F : List Nat} (h : DrA bs M w F) {b : Int} (hb : MayB b) (t : Int) :
    Calls Try.prog 14 #[.pointer (some ⟨bs, 0, none⟩), .int .i64 b, .int .i64 t] w (Gives w F (fun v => Val (.int .i64 (putD M b t).2) v (DrA bs (putD M b t).1))) := by
  obtain ⟨bq, bm, hM, h⟩ := h
  have HB := Lib.hid (In.start DrR.framed h)
  have hc0 : w.cell? ⟨bs, 0, none⟩ = some (.pointer (some ⟨bq, 0, none⟩)) := (cell_bs HB.out).1
  have hk : Hid (KeysD M) := Lib.hid (keysD_of (set_keys HB.out))
  have hmay := may_true hb w
  have hp := putD_enc (t := t) hb hM
  have Hset : Hid (∀ w1, In F w w1 (DrR bs bq bm M) → Calls Try.prog 52 #[.pointer (some ⟨bq, 0, none⟩), .string (keyB b), .int .i64 t] w1 fun e w' => e = .returned (.int .i64 (putD M b t).2) ∧ In F w w' ((DrR bs bq bm M).set 2 (QA bq ((putD M b t).1.map encB)))) :=
    Lib.hid fun w1 h1 => by have := o_set h1 2 rfl (keyB_size b) t; rwa [hp] at this
  have HM := Lib.hid (putD_may (t := t) hb hM)
  have Hc := Lib.hid (putD_case M b t)
  have Hb := Lib.hid hb
  clear h hM hb hp
  generalize putD M b t = r at *
  obtain ⟨M', n⟩ := r
  go_enter Try.func14, Try.ntmps14
  go_wp2_with fail
  refine hmay.mono ?_
  rintro e w1 ⟨rfl, rfl⟩
  go_wp2_with fail
  clear hmay
  go_region_held3 (fun w' => w'.cell? ⟨bs, 0, none⟩ = some (.pointer (some ⟨bq, 0, none⟩))) (first | exact hc2 | exact hc1 | exact hc0)
    (first
      | (go_at_call 53
         refine (dkey_in (HB.out.drewN 1) Hb.out).mono ?_
         rintro e w1 ⟨rfl, ho⟩
         have hc1 : w1.cell? ⟨bs, 0, none⟩ = some (.pointer (some ⟨bq, 0, none⟩)) := (cell_bs ho).1
         have HO := Lib.hid ho
         clear ho)
      | (go_at_call 52
         refine (Hset.out _ HO.out).mono ?_
         rintro e w2 ⟨rfl, ho⟩
         have hc2 : w2.cell? ⟨bs, 0, none⟩ = some (.pointer (some ⟨bq, 0, none⟩)) := (cell_bs ho).1
         have HP := Lib.hid ho
         clear ho))
  have hc3 : w2.cell? ⟨bs, 1, none⟩ = some (.map (some bm)) := (cell_bs HP.out).2
  rcases Hc.out with ⟨hn, hm⟩ | ⟨hn, hm⟩
  · obtain ⟨w3, hr, ho⟩ := o_bput HP.out 1 rfl hk.out Try.underlying26 (may_lit Hb.out) t
    have HQ := Lib.hid ho
    have hn0 : n = 0 := hn
    subst hn0
    have Hm := Lib.hid hm
    clear ho hn hm
    go_wp2_with fail
    go_ret
    have ho := o_bperm HQ.out 1 rfl (M' := M') (by rw [show M' = _ from Hm.out]; exact put_perm _ _ _)
    exact ho.gives _ _ (fun F' hs => ⟨rfl, bq, bm, HM.out, hs⟩)
  · have hn0 : (n == 0) = false := beq_eq_false_iff_ne.2 hn
    have hm' : M' = M := hm
    subst hm'
    clear hn hm
    go_wp2_with fail
    go_ret
    exact HP.out.gives _ _ (fun F' hs => ⟨rfl, bq, bm, HM.out, hs⟩)

/-! ### Clear -/
theorem dclear_nil (b : Int) (w : World) : Calls Try.prog 21 #[.pointer none, .int .i64 b] w fun e w' => e = .returned (.bool false) ∧ ∃ m, w' = w.drewN m := by
  go_enter Try.func21, Try.ntmps21
  go_wp2_with fail
  go_quiet (fail)
  go_wp2_with fail
  go_ret
  exact ⟨rfl, _, rfl⟩
set_option maxHeartbeats 2000000 in
theorem dclear {w : World} {bs : Nat} {M : List BT} {F : List Nat} (h : DrA bs M w F) (b : Int) :
    Calls Try.prog 21 #[.pointer (some ⟨bs, 0, none⟩), .int .i64 b] w (Gives w F (fun v => Val (.bool (atD M b).isSome) v (DrA bs (delD b M)))) := by
  obtain ⟨bq, bm, hM, h⟩ := h
  have HB := Lib.hid (In.start DrR.framed h)
  have hc0 : w.cell? ⟨bs, 0, none⟩ = some (.pointer (some ⟨bq, 0, none⟩)) := (cell_bs HB.out).1
  by_cases hb : MayB b
  · have hk : Hid (KeysD M) := Lib.hid (keysD_of (set_keys HB.out))
    have hmay := may_true hb w.drew
    have Hdrop : Hid (∀ w1, In F w w1 (DrR bs bq bm M) → Calls Try.prog 60 #[.pointer (some ⟨bq, 0, none⟩), .string (keyB b)] w1 fun e w' => e = .returned (.bool (atD M b).isSome) ∧ In F w w' ((DrR bs bq bm M).set 2 (QA bq ((delD b M).map encB)))) :=
      Lib.hid fun w1 h1 => by have := o_drop h1 2 rfl (keyB_size b); rwa [atD_enc hb hM, ← delD_enc hb hM] at this
    have HM : Hid (∀ x ∈ delD b M, MayB x.1) := Lib.hid fun x hx => hM x (delD_mem.1 hx).1
    have Hb := Lib.hid hb
    have Hn : Hid (atD M b = none → delD b M = M) := Lib.hid fun hn => List.filter_eq_self.2 (fun x hx => by simpa using atD_none.1 hn x hx)
    clear h hM hb
    have HD : Hid (∃ q : Bool, q = (atD M b).isSome) := Lib.hid ⟨_, rfl⟩
    generalize hq : (atD M b).isSome = q at *
    have Hq := Lib.hid hq
    clear hq
    go_enter Try.func21, Try.ntmps21
    go_wp2_with fail
    go_region_held3 (fun w' => w'.cell? ⟨bs, 0, none⟩ = some (.pointer (some ⟨bq, 0, none⟩))) (first | exact hc2 | exact hc1 | exact hc0)
      (first
        | (go_at_call 51
           refine hmay.mono ?_
           rintro e w1 ⟨rfl, rfl⟩)
        | (go_at_call 53
           refine (dkey_in (HB.out.drewN 1) Hb.out).mono ?_
           rintro e w1 ⟨rfl, ho⟩
           have hc1 : w1.cell? ⟨bs, 0, none⟩ = some (.pointer (some ⟨bq, 0, none⟩)) := (cell_bs ho).1
           have HO := Lib.hid ho
           clear ho)
        | (go_at_call 60
           refine (Hdrop.out _ HO.out).mono ?_
           rintro e w2 ⟨rfl, ho⟩
           have hc2 : w2.cell? ⟨bs, 0, none⟩ = some (.pointer (some ⟨bq, 0, none⟩)) := (cell_bs ho).1
           have HP := Lib.hid ho
           clear ho))
    have hc3 : w2.cell? ⟨bs, 1, none⟩ = some (.map (some bm)) := (cell_bs HP.out).2
    obtain ⟨w3, hr, ho⟩ := o_bdel HP.out 1 rfl hk.out Try.underlying26 (may_lit Hb.out) 3 0
    have HQ := Lib.hid ho
    clear ho
    cases q with
    | true =>
      go_wp2_with fail
      go_ret
      exact HQ.out.gives _ _ (fun F' hs => ⟨rfl, bq, bm, HM.out, hs⟩)
    | false =>
      go_wp2_with fail
      go_ret
      have e := Hn.out (by have := Hq.out; simpa using this)
      refine HP.out.gives _ _ (fun F' hs => ⟨rfl, bq, bm, HM.out, ?_⟩)
      rw [e] at hs ⊢
      exact hs
  · have hmay : Hid (∀ w, Calls Try.prog 51 #[.int .i64 b] w fun e w' => e = .returned (.bool false) ∧ w' = w) := Lib.hid fun w => (may_false hb w).mono fun _ _ ⟨h1, h2⟩ => ⟨h1, h2.symm⟩
    obtain ⟨e1, e2⟩ := out_may hM hb
    rw [e1, e2]
    have HM := Lib.hid hM
    clear h hM hb e1 e2
    go_enter Try.func21, Try.ntmps21
    go_wp2_with fail
    go_quiet (first
      | (go_at_call 51; exact Calls.quiet_of_same (hmay.out _)))
    go_wp2_with fail
    go_ret
    exact (HB.out.drewN _).gives _ _ (fun F' hs => ⟨rfl, bq, bm, HM.out, hs⟩)

/-! ### Until, Is, Len, New -/
theorem duntil_nil (b : Int) (w : World) : Calls Try.prog 24 #[.pointer none, .int .i64 b] w fun e w' => e = .returned (.tuple #[.int .i64 0, .bool false]) ∧ w = w' := by
  go_enter Try.func24, Try.ntmps24
  go_wp2_with fail
  go_ret2
  exact ⟨rfl, rfl⟩
set_option maxHeartbeats 2000000 in
theorem duntil {w : World} {bs : Nat} {M : List BT} {F : List Nat} (h : DrA bs M w F) (b : Int) :
    Calls Try.prog 24 #[.pointer (some ⟨bs, 0, none⟩), .int .i64 b] w (Gives w F (fun v => Val (.tuple #[.int .i64 ((atD M b).getD 0), .bool (atD M b).isSome]) v (DrA bs M))) := by
  obtain ⟨bq, bm, hM, h⟩ := h
  have HB := Lib.hid (In.start DrR.framed h)
  have hc0 : w.cell? ⟨bs, 0, none⟩ = some (.pointer (some ⟨bq, 0, none⟩)) := (cell_bs HB.out).1
  by_cases hb : MayB b
  · have hmay := may_true hb w
    have Hat : Hid (∀ w1, In F w w1 (DrR bs bq bm M) → Calls Try.prog 61 #[.pointer (some ⟨bq, 0, none⟩), .string (keyB b)] w1 fun e w' => e = .returned (.tuple #[.int .i64 ((atD M b).getD 0), .bool (atD M b).isSome]) ∧ In F w w' (DrR bs bq bm M)) :=
      Lib.hid fun w1 h1 => by
        have := o_at h1 2 rfl (keyB_size b)
        rw [atD_enc hb hM] at this
        exact this.mono fun e w' ⟨h2, m, h3⟩ => ⟨h2, h3 ▸ h1.drewN m⟩
    have HM := Lib.hid hM
    have Hb := Lib.hid hb
    clear h hM hb
    generalize (atD M b).getD 0 = t at *
    generalize (atD M b).isSome = q at *
    go_enter Try.func24, Try.ntmps24
    go_wp2_with fail
    refine hmay.mono ?_
    rintro e w1 ⟨rfl, rfl⟩
    clear hmay
    go_wp2_with fail
    go_region_held3 (fun w' => w'.cell? ⟨bs, 0, none⟩ = some (.pointer (some ⟨bq, 0, none⟩))) (first | exact hc2 | exact hc1 | exact hc0)
      (first
        | (go_at_call 53
           refine (dkey_in (HB.out.drewN 1) Hb.out).mono ?_
           rintro e w1 ⟨rfl, ho⟩
           have hc1 : w1.cell? ⟨bs, 0, none⟩ = some (.pointer (some ⟨bq, 0, none⟩)) := (cell_bs ho).1
           have HO := Lib.hid ho
           clear ho)
        | (go_at_call 61
           refine (Hat.out _ HO.out).mono ?_
           rintro e w2 ⟨rfl, ho⟩
           have hc2 : w2.cell? ⟨bs, 0, none⟩ = some (.pointer (some ⟨bq, 0, none⟩)) := (cell_bs ho).1
           have HP := Lib.hid ho
           clear ho))
    go_wp2_with fail
    go_ret2
    exact HP.out.gives _ _ (fun F' hs => ⟨rfl, bq, bm, HM.out, hs⟩)
  · have hmay := may_false hb w
    obtain ⟨e1, -⟩ := out_may hM hb
    rw [e1]
    have HM := Lib.hid hM
    clear h hM hb e1
    go_enter Try.func24, Try.ntmps24
    go_wp2_with fail
    refine hmay.mono ?_
    rintro e w1 ⟨rfl, rfl⟩
    clear hmay
    go_wp2_with fail
    go_ret2
    exact HB.out.gives _ _ (fun F' hs => ⟨rfl, bq, bm, HM.out, hs⟩)
theorem dis_nil (b : Int) (w : World) : Calls Try.prog 26 #[.pointer none, .int .i64 b] w fun e w' => e = .returned (.bool false) ∧ w = w' := by
  go_enter Try.func26, Try.ntmps26
  go_wp2_with fail
  refine (duntil_nil b w).mono ?_
  rintro e w1 ⟨rfl, rfl⟩
  go_wp2_with fail
  go_ret
  exact ⟨rfl, rfl⟩
theorem dis {w : World} {bs : Nat} {M : List BT} {F : List Nat} (h : DrA bs M w F) (b : Int) :
    Calls Try.prog 26 #[.pointer (some ⟨bs, 0, none⟩), .int .i64 b] w (Gives w F (fun v => Val (.bool (atD M b).isSome) v (DrA bs M))) := by
  have c := duntil h b
  have E : Hid (∀ e w', Gives w F (fun v => Val (.tuple #[.int .i64 ((atD M b).getD 0), .bool (atD M b).isSome]) v (DrA bs M)) e w' → e = .returned (.tuple #[.int .i64 ((atD M b).getD 0), .bool (atD M b).isSome]) ∧ Gives w F (fun v => Val (.bool (atD M b).isSome) v (DrA bs M)) (.returned (.bool (atD M b).isSome)) w') :=
    Lib.hid fun e w' ⟨v, he, F', ⟨hv, h1⟩, h2⟩ => ⟨by rw [he, hv], _, rfl, F', ⟨rfl, h1⟩, h2⟩
  clear h
  generalize (atD M b).getD 0 = t at *
  generalize (atD M b).isSome = q at *
  go_enter Try.func26, Try.ntmps26
  go_wp2_with fail
  refine c.mono ?_
  intro e w1 hg0
  obtain ⟨rfl, hg⟩ := E.out e w1 hg0
  have HG := Lib.hid hg
  clear hg hg0 c E
  go_wp2_with fail
  go_ret
  exact HG.out
theorem dlen_nil (w : World) : Calls Try.prog 18 #[.pointer none] w fun e w' => e = .returned (.int .i64 0) ∧ w = w' := by
  go_enter Try.func18, Try.ntmps18
  go_wp2_with fail
  go_ret
  exact ⟨rfl, rfl⟩
theorem dlen {w : World} {bs : Nat} {M : List BT} {F : List Nat} (h : DrA bs M w F) :
    Calls Try.prog 18 #[.pointer (some ⟨bs, 0, none⟩)] w fun e w' => e = .returned (.int .i64 M.length) ∧ w = w' := by
  obtain ⟨bq, bm, hM, h⟩ := h
  have HB := Lib.hid (In.start DrR.framed h)
  have hc0 : w.cell? ⟨bs, 0, none⟩ = some (.pointer (some ⟨bq, 0, none⟩)) := (cell_bs HB.out).1
  have c := o_len HB.out 2 rfl
  rw [List.length_map] at c
  clear h
  go_enter Try.func18, Try.ntmps18
  go_wp2_with fail
  refine c.mono ?_
  rintro e w1 ⟨rfl, rfl⟩
  go_wp2_with fail
  go_ret
  exact ⟨rfl, rfl⟩
theorem dnew {F0 : List Nat} {w0 w : World} {R : List Asrt} (h : In F0 w0 w R) :
    Calls Try.prog 13 #[] w fun e w' => ∃ bs, e = .returned (.pointer (some ⟨bs, 0, none⟩)) ∧ In F0 w0 w' (DrA bs [] :: R) := by
  have H := Lib.hid h
  clear h
  have hmm := @run_makeMap Try.prog
  go_enter Try.func13, Try.ntmps13
  go_wp2_with fail
  refine (o_new H.out).mono ?_
  rintro e w1 ⟨bq, rfl, ho⟩
  have H1 := Lib.hid ho
  clear ho
  have H2 := Lib.hid ((o_bmake H1.out).cells #[.pointer (some ⟨bq, 0, none⟩), .map (some w1.heap.size)] 90)
  go_wp2_with fail
  go_ret
  refine ⟨_, rfl, ?_⟩
  have hj := In.join (A1 := [_, _, _]) (R := R) H2.out
  have := hj.imp (A' := DrA (w1.alloc (Obj.map #[] 0)).heap.size []) 0 rfl (DrA.framed _ _) (fun F hF => ⟨bq, w1.heap.size, by simp, hF⟩)
  have e : (w1.alloc (Obj.map #[] 0)).heap.size = w1.heap.size + 1 := Array.size_push _
  rw [e] at this
  exact this
end Go.Proofs.Ytcakgponofbhkaa
