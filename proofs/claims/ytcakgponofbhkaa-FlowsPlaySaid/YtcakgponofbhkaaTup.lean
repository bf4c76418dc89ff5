/- Tuples and flows as plain data: which may be, their keys, their order. Tuples: the calls. -/
import Derived.Test.YtcakgponofbhkaaOct
import Derived.Test.YtcakgponofbhkaaBase
import Derived.Laws.BytesString
import Derived.Deep.RegionHeld3
namespace Go.Proofs.Ytcakgponofbhkaa
open Go.RowKit
set_option linter.unusedVariables false
set_option maxRecDepth 100000

structure Tup where
  src : Int
  dst : Int
  proto : Int
  sport : Int
  dport : Int
deriving DecidableEq
instance : Inhabited Tup := ⟨⟨0, 0, 0, 0, 0⟩⟩
structure Fl where
  t : Tup
  bk : Int
  gen : Int
  seen : Int
deriving DecidableEq
instance : Inhabited Fl := ⟨⟨default, 0, 0, 0⟩⟩
abbrev encT (t : Tup) : Array Value := #[.int .u32 t.src, .int .u32 t.dst, .int .i64 t.proto, .int .i64 t.sport, .int .i64 t.dport]
abbrev encF (f : Fl) : Array Value := #[.int .u32 f.t.src, .int .u32 f.t.dst, .int .i64 f.t.proto, .int .i64 f.t.sport, .int .i64 f.t.dport, .int .i64 f.bk, .int .i64 f.gen, .int .i64 f.seen]
/-- Its numbers are of their types. -/
structure WfT (t : Tup) : Prop where
  s0 : 0 ≤ t.src
  s1 : t.src < 4294967296
  d0 : 0 ≤ t.dst
  d1 : t.dst < 4294967296
  p0 : -9223372036854775808 ≤ t.proto
  p1 : t.proto ≤ 9223372036854775807
  sp0 : -9223372036854775808 ≤ t.sport
  sp1 : t.sport ≤ 9223372036854775807
  dp0 : -9223372036854775808 ≤ t.dport
  dp1 : t.dport ≤ 9223372036854775807
structure MayT (t : Tup) : Prop where
  proto : t.proto = 6 ∨ t.proto = 17
  sp0 : 0 ≤ t.sport
  sp1 : t.sport ≤ 65535
  dp0 : 0 ≤ t.dport
  dp1 : t.dport ≤ 65535
structure MayF (f : Fl) : Prop where
  t : MayT f.t
  b0 : 0 ≤ f.bk
  b1 : f.bk ≤ 65535
  g0 : 0 ≤ f.gen
  g1 : f.gen ≤ 1000000
  t0 : 0 ≤ f.seen
  t1 : f.seen ≤ 1099511627776
theorem mayT_iff (t : Tup) : MayT t ↔ (t.proto = 6 ∨ t.proto = 17) ∧ 0 ≤ t.sport ∧ t.sport ≤ 65535 ∧ 0 ≤ t.dport ∧ t.dport ≤ 65535 := ⟨fun h => ⟨h.1, h.2, h.3, h.4, h.5⟩, fun ⟨a, b, c, d, e⟩ => ⟨a, b, c, d, e⟩⟩
instance (t : Tup) : Decidable (MayT t) := decidable_of_iff _ (mayT_iff t).symm
theorem mayF_iff (f : Fl) : MayF f ↔ MayT f.t ∧ 0 ≤ f.bk ∧ f.bk ≤ 65535 ∧ 0 ≤ f.gen ∧ f.gen ≤ 1000000 ∧ 0 ≤ f.seen ∧ f.seen ≤ 1099511627776 := ⟨fun h => ⟨h.1, h.2, h.3, h.4, h.5, h.6, h.7⟩, fun ⟨a, b, c, d, e, f, g⟩ => ⟨a, b, c, d, e, f, g⟩⟩
instance (f : Fl) : Decidable (MayF f) := decidable_of_iff _ (mayF_iff f).symm

def keyL (t : Tup) : List UInt8 := be (u64 t.src) 4 ++ be (u64 t.dst) 4 ++ be (u64 t.proto) 1 ++ be (u64 t.sport) 2 ++ be (u64 t.dport) 2
def keyT (t : Tup) : ByteArray := ⟨(keyL t).toArray⟩
theorem keyL_length (t : Tup) : (keyL t).length = 13 := by simp [keyL, be, beTo_length]
theorem keyT_size (t : Tup) : (keyT t).size ≤ maxLen := by
  have : (keyT t).size = (keyL t).length := rfl
  rw [this, keyL_length]; unfold maxLen; omega

/-- The order of tuples. -/
def ltT (a b : Tup) : Bool :=
  decide (a.src < b.src) || (decide (a.src = b.src) && (decide (a.dst < b.dst) || (decide (a.dst = b.dst) && (decide (a.proto < b.proto) || (decide (a.proto = b.proto) && (decide (a.sport < b.sport) || (decide (a.sport = b.sport) && decide (a.dport < b.dport))))))))

theorem be_succ (n w : Nat) : be n (w + 1) = UInt8.ofNat (n / 256 ^ w) :: be n w := by
  unfold be beTo
  rw [List.range_succ_eq_map, List.map_cons, List.map_map]
  simp only [Nat.add_sub_cancel, Nat.sub_zero, List.cons.injEq, true_and]
  apply List.map_congr_left
  intro j hj
  have := List.mem_range.1 hj
  simp only [Function.comp]
  congr 3
  omega
theorem be_zero (n : Nat) : be n 0 = [] := rfl
theorem be_mod (n w : Nat) : ∀ v, v ≤ w → be (n % 256 ^ w) v = be n v
  | 0, _ => rfl
  | v + 1, h => by
    rw [be_succ, be_succ, be_mod n w v (by omega)]
    congr 1
    obtain ⟨k, rfl⟩ : ∃ k, w = v + 1 + k := ⟨w - (v + 1), by omega⟩
    have e : n % 256 ^ (v + 1 + k) / 256 ^ v = n / 256 ^ v % 256 ^ (1 + k) := by
      rw [show v + 1 + k = v + (1 + k) by omega, Nat.pow_add, Nat.mod_mul_right_div_self]
    rw [e]
    apply UInt8.toNat_inj.1
    simp only [UInt8.toNat_ofNat']
    rw [show (256 : Nat) ^ (1 + k) = 2 ^ 8 * 256 ^ k by rw [Nat.pow_add], Nat.mod_mul_right_mod]
theorem bl_append : ∀ {x x' : List UInt8} (y y' : List UInt8), x.length = x'.length → bl (x ++ y) (x' ++ y') = (bl x x' || (decide (x = x') && bl y y'))
  | [], [], y, y', _ => by simp [bl, Op.bytesLess]
  | a :: x, b :: x', y, y', h => by
    rw [List.cons_append, List.cons_append, bl_cons, bl_cons, bl_append y y' (by simpa using h)]
    by_cases h1 : a = b
    · subst h1; simp
    · have h2 : (a == b) = false := by simpa using h1
      simp [h1, h2]
theorem be_lt : ∀ (w : Nat) {n m : Nat}, n < 256 ^ w → m < 256 ^ w → bl (be n w) (be m w) = decide (n < m)
  | 0, n, m, hn, hm => by
    simp at hn hm; subst hn; subst hm; simp [be_zero, bl, Op.bytesLess]
  | w + 1, n, m, hn, hm => by
    rw [be_succ, be_succ, bl_cons]
    have hp : 0 < 256 ^ w := Nat.pos_of_ne_zero (by simp)
    have h1 : n / 256 ^ w < 256 := by rw [Nat.div_lt_iff_lt_mul hp, Nat.mul_comm, ← Nat.pow_succ]; exact hn
    have h2 : m / 256 ^ w < 256 := by rw [Nat.div_lt_iff_lt_mul hp, Nat.mul_comm, ← Nat.pow_succ]; exact hm
    have ih := be_lt w (Nat.mod_lt n hp) (Nat.mod_lt m hp)
    rw [be_mod n w w (Nat.le_refl _), be_mod m w w (Nat.le_refl _)] at ih
    rw [ih]
    have e1 : (UInt8.ofNat (n / 256 ^ w)).toNat = n / 256 ^ w := by simp; omega
    have e2 : (UInt8.ofNat (m / 256 ^ w)).toNat = m / 256 ^ w := by simp; omega
    have d1 := Nat.div_add_mod n (256 ^ w)
    have d2 := Nat.div_add_mod m (256 ^ w)
    have m1 := Nat.mod_lt n hp
    have m2 := Nat.mod_lt m hp
    rw [Bool.eq_iff_iff]
    simp only [Bool.or_eq_true, Bool.and_eq_true, decide_eq_true_eq, UInt8.lt_iff_toNat_lt, beq_iff_eq, e1, e2]
    generalize 256 ^ w = p at *
    generalize hA : n / p = A at *
    generalize hB : m / p = B at *
    constructor
    · rintro (h | ⟨h, h'⟩)
      · have : p * (A + 1) ≤ p * B := Nat.mul_le_mul_left _ h
        rw [Nat.mul_add, Nat.mul_one] at this
        omega
      · have h3 : A = B := by
          have := congrArg UInt8.toNat h; rw [e1, e2] at this; exact this
        subst h3; omega
    · intro h
      by_cases hc : A < B
      · exact Or.inl hc
      · right
        by_cases hd : A = B
        · subst hd; exact ⟨rfl, by omega⟩
        · have : p * (B + 1) ≤ p * A := Nat.mul_le_mul_left _ (by omega)
          rw [Nat.mul_add, Nat.mul_one] at this
          omega
theorem be_inj {w n m : Nat} (hn : n < 256 ^ w) (hm : m < 256 ^ w) (h : be n w = be m w) : n = m := by
  have h1 := be_lt w hn hm
  have h2 := be_lt w hm hn
  rw [h] at h1
  rw [← h] at h2
  have i1 : bl (be m w) (be m w) = false := bl_irrefl _
  rw [i1] at h1
  have i2 : bl (be n w) (be n w) = false := bl_irrefl _
  rw [h] at h2 i2
  rw [i2] at h2
  simp at h1 h2
  omega
theorem be_eq {w n m : Nat} (hn : n < 256 ^ w) (hm : m < 256 ^ w) : (be n w = be m w) ↔ n = m := ⟨be_inj hn hm, fun h => by rw [h]⟩
theorem u64_small {n : Int} (h0 : 0 ≤ n) {k : Nat} (h1 : n < k) (hk : k ≤ 18446744073709551616) : u64 n < k ∧ ((u64 n : Nat) : Int) = n := by
  have := u64_nat h0 (by omega)
  exact ⟨by omega, this⟩
/-- Keys stand in the order of their tuples. -/
theorem key_lt {a b : Tup} (wa : WfT a) (wb : WfT b) (ha : MayT a) (hb : MayT b) : bl (keyL a) (keyL b) = ltT a b := by
  obtain ⟨a1, a1'⟩ := u64_small (k := 256 ^ 4) wa.s0 wa.s1 (by decide)
  obtain ⟨b1, b1'⟩ := u64_small (k := 256 ^ 4) wb.s0 wb.s1 (by decide)
  obtain ⟨a2, a2'⟩ := u64_small (k := 256 ^ 4) wa.d0 wa.d1 (by decide)
  obtain ⟨b2, b2'⟩ := u64_small (k := 256 ^ 4) wb.d0 wb.d1 (by decide)
  obtain ⟨a3, a3'⟩ := u64_small (n := a.proto) (k := 256 ^ 1) (by have := ha.proto; omega) (by have := ha.proto; simp; omega) (by decide)
  obtain ⟨b3, b3'⟩ := u64_small (n := b.proto) (k := 256 ^ 1) (by have := hb.proto; omega) (by have := hb.proto; simp; omega) (by decide)
  obtain ⟨a4, a4'⟩ := u64_small (k := 256 ^ 2) ha.sp0 (by have := ha.sp1; simp; omega) (by decide)
  obtain ⟨b4, b4'⟩ := u64_small (k := 256 ^ 2) hb.sp0 (by have := hb.sp1; simp; omega) (by decide)
  obtain ⟨a5, a5'⟩ := u64_small (k := 256 ^ 2) ha.dp0 (by have := ha.dp1; simp; omega) (by decide)
  obtain ⟨b5, b5'⟩ := u64_small (k := 256 ^ 2) hb.dp0 (by have := hb.dp1; simp; omega) (by decide)
  unfold keyL ltT
  rw [← a1', ← b1', ← a2', ← b2', ← a3', ← b3', ← a4', ← b4', ← a5', ← b5']
  simp only [List.append_assoc]
  have hu : ∀ n : Nat, n < 18446744073709551616 → u64 (n : Int) = n := fun n hn => by unfold u64; omega
  rw [hu _ (u64_lt _), hu _ (u64_lt _), hu _ (u64_lt _), hu _ (u64_lt _), hu _ (u64_lt _), hu _ (u64_lt _), hu _ (u64_lt _), hu _ (u64_lt _), hu _ (u64_lt _), hu _ (u64_lt _)]
  rw [bl_append _ _ (by simp [be, beTo_length]), bl_append _ _ (by simp [be, beTo_length]), bl_append _ _ (by simp [be, beTo_length]), bl_append _ _ (by simp [be, beTo_length]),
    be_lt 4 a1 b1, be_lt 4 a2 b2, be_lt 1 a3 b3, be_lt 2 a4 b4, be_lt 2 a5 b5]
  simp only [be_eq a1 b1, be_eq a2 b2, be_eq a3 b3, be_eq a4 b4, Int.ofNat_lt, Int.natCast_inj]
theorem ltT_total {a b : Tup} (h1 : ltT a b = false) (h2 : ltT b a = false) : a = b := by
  obtain ⟨a1, a2, a3, a4, a5⟩ := a
  obtain ⟨b1, b2, b3, b4, b5⟩ := b
  simp only [ltT, Bool.or_eq_false_iff, Bool.and_eq_false_iff, decide_eq_false_iff_not] at h1 h2
  simp only [Tup.mk.injEq]
  omega
theorem ltT_irrefl (a : Tup) : ltT a a = false := by simp [ltT]
theorem ltT_trans {a b c : Tup} (h1 : ltT a b = true) (h2 : ltT b c = true) : ltT a c = true := by
  simp only [ltT, Bool.or_eq_true, Bool.and_eq_true, decide_eq_true_eq] at *
  omega
theorem keyT_inj {a b : Tup} (wa : WfT a) (wb : WfT b) (ha : MayT a) (hb : MayT b) (h : keyT a = keyT b) : a = b := by
  have hl : keyL a = keyL b := by
    have := congrArg (fun x : ByteArray => x.data.toList) h
    simpa [keyT] using this
  refine ltT_total ?_ ?_
  · rw [← key_lt wa wb ha hb, hl]; exact bl_irrefl _
  · rw [← key_lt wb wa hb ha, hl]; exact bl_irrefl _
end Go.Proofs.Ytcakgponofbhkaa
namespace Go.Proofs.Ytcakgponofbhkaa
open Go.RowKit
set_option linter.unusedVariables false
set_option maxRecDepth 100000

theorem tmay_true {t : Tup} (h : MayT t) (w : World) : Calls Try.prog 82 #[.agg (encT t)] w fun e w' => e = .returned (.bool true) ∧ w' = w.alloc (.cells (encT t) 57) := by
  obtain ⟨h1, h2, h3, h4, h5⟩ := h
  by_cases hp : t.proto = 6
  · have hp' : (t.proto == 6) = true := by simpa using hp
    clear h1 hp
    go_enter Try.func82, Try.ntmps82
    go_wp2_with fail
    go_ret
    exact ⟨rfl, rfl⟩
  · have hp' : (t.proto == 6) = false := by simpa using hp
    have hq' : (t.proto == 17) = true := by have := h1; simp; omega
    clear h1 hp
    go_enter Try.func82, Try.ntmps82
    go_wp2_with fail
    go_ret
    exact ⟨rfl, rfl⟩
theorem tmay_false {t : Tup} (h : ¬ MayT t) (w : World) : Calls Try.prog 82 #[.agg (encT t)] w fun e w' => e = .returned (.bool false) ∧ w' = w.alloc (.cells (encT t) 57) := by
  rw [mayT_iff] at h
  have hb : ((t.proto == 6) = false ∧ (t.proto == 17) = false) ∨ (((t.proto == 6) = true ∨ ((t.proto == 6) = false ∧ (t.proto == 17) = true)) ∧ (decide (0 ≤ t.sport) = false ∨ (0 ≤ t.sport ∧ (decide (t.sport ≤ 65535) = false ∨ (t.sport ≤ 65535 ∧ (decide (0 ≤ t.dport) = false ∨ (0 ≤ t.dport ∧ decide (t.dport ≤ 65535) = false))))))) := by
    simp only [beq_eq_false_iff_ne, beq_iff_eq, decide_eq_false_iff_not]; omega
  clear h
  rcases hb with ⟨p1, p2⟩ | ⟨p, q⟩
  · go_enter Try.func82, Try.ntmps82
    go_wp2_with fail
    go_ret
    exact ⟨rfl, rfl⟩
  · rcases p with p | ⟨p, p2⟩ <;> rcases q with q | ⟨q, q2 | ⟨q2, q3 | ⟨q3, q4⟩⟩⟩
    all_goals
      go_enter Try.func82, Try.ntmps82
      go_wp2_with fail
      go_ret
      exact ⟨rfl, rfl⟩

theorem set_at {R : List Asrt} {i : Nat} (hi : i < R.length) {X A : Asrt} : (X :: R.set i A)[i + 1]? = some A := by simp [hi]
section
variable {F0 : List Nat} {w0 w : World} {R : List Asrt} {bw : Nat} {l : List UInt8}
set_option maxHeartbeats 4000000 in
theorem o_twrite (h : In F0 w0 w R) (i : Nat) (hA : R[i]? = some (WA bw l)) (hl : l.length ≤ 900000) {t : Tup} (ht : WfT t) :
    Calls Try.prog 89 #[.pointer (some ⟨bw, 0, none⟩), .agg (encT t)] w fun e w' => e = .returned (.tuple #[]) ∧ In F0 w0 w' (R.set i (WA bw (l ++ keyL t))) := by
  obtain ⟨s0, s1, d0, d1, -, -, -, -, -, -⟩ := ht
  have hR : (Cells w.heap.size (encT t) 57 :: R)[i + 1]? = some (WA bw l) := by simpa using hA
  have hi := (List.getElem?_eq_some_iff.1 hA).1
  have H0 := Lib.hid (h.cells (encT t) 57)
  have HA := Lib.hid hR
  have C1 : Hid (∀ w1, In F0 w0 w1 (Cells w.heap.size (encT t) 57 :: R) → Calls Try.prog 102 #[.pointer (some ⟨bw, 0, none⟩), .int .u32 t.src] w1 fun e w' => e = .returned (.tuple #[]) ∧ In F0 w0 w' (Cells w.heap.size (encT t) 57 :: R.set i (WA bw (l ++ be (u64 t.src) 4)))) :=
    Lib.hid fun w1 h1 => o_wu32 h1 (i + 1) HA.out (by omega) s0 s1
  have C2 : Hid (∀ w1, In F0 w0 w1 (Cells w.heap.size (encT t) 57 :: R.set i (WA bw (l ++ be (u64 t.src) 4))) → Calls Try.prog 102 #[.pointer (some ⟨bw, 0, none⟩), .int .u32 t.dst] w1 fun e w' => e = .returned (.tuple #[]) ∧ In F0 w0 w' (Cells w.heap.size (encT t) 57 :: R.set i (WA bw (l ++ be (u64 t.src) 4 ++ be (u64 t.dst) 4)))) :=
    Lib.hid fun w1 h1 => by
      have := o_wu32 (n := t.dst) h1 (i + 1) (set_at hi) (by simp [be, beTo_length]; omega) d0 d1
      simpa only [List.set_cons_succ, List.set_set] using this
  have C3 : Hid (∀ w1, In F0 w0 w1 (Cells w.heap.size (encT t) 57 :: R.set i (WA bw (l ++ be (u64 t.src) 4 ++ be (u64 t.dst) 4))) → Calls Try.prog 103 #[.pointer (some ⟨bw, 0, none⟩), .int .i64 t.proto] w1 fun e w' => e = .returned (.tuple #[]) ∧ In F0 w0 w' (Cells w.heap.size (encT t) 57 :: R.set i (WA bw (l ++ be (u64 t.src) 4 ++ be (u64 t.dst) 4 ++ be (u64 t.proto) 1)))) :=
    Lib.hid fun w1 h1 => by
      have := o_wu8 h1 (i + 1) (set_at hi) (by simp [be, beTo_length]; omega) t.proto
      simpa only [List.set_cons_succ, List.set_set] using this
  have C4 : Hid (∀ w1, In F0 w0 w1 (Cells w.heap.size (encT t) 57 :: R.set i (WA bw (l ++ be (u64 t.src) 4 ++ be (u64 t.dst) 4 ++ be (u64 t.proto) 1))) → Calls Try.prog 104 #[.pointer (some ⟨bw, 0, none⟩), .int .i64 t.sport] w1 fun e w' => e = .returned (.tuple #[]) ∧ In F0 w0 w' (Cells w.heap.size (encT t) 57 :: R.set i (WA bw (l ++ be (u64 t.src) 4 ++ be (u64 t.dst) 4 ++ be (u64 t.proto) 1 ++ be (u64 t.sport) 2)))) :=
    Lib.hid fun w1 h1 => by
      have := o_wu16 h1 (i + 1) (set_at hi) (by simp [be, beTo_length]; omega) t.sport
      simpa only [List.set_cons_succ, List.set_set] using this
  have C5 : Hid (∀ w1, In F0 w0 w1 (Cells w.heap.size (encT t) 57 :: R.set i (WA bw (l ++ be (u64 t.src) 4 ++ be (u64 t.dst) 4 ++ be (u64 t.proto) 1 ++ be (u64 t.sport) 2))) → Calls Try.prog 104 #[.pointer (some ⟨bw, 0, none⟩), .int .i64 t.dport] w1 fun e w' => e = .returned (.tuple #[]) ∧ In F0 w0 w' (R.set i (WA bw (l ++ keyL t)))) :=
    Lib.hid fun w1 h1 => by
      have := o_wu16 h1 (i + 1) (set_at hi) (by simp [be, beTo_length]; omega) t.dport
      refine this.mono fun e w' ⟨he, ho⟩ => ⟨he, ?_⟩
      rw [List.set_cons_succ, List.set_set] at ho
      have h2 := ho.drop
      unfold keyL
      simpa only [List.append_assoc] using h2
  clear h hA hR hl hi s0 s1 d0 d1
  go_enter Try.func89, Try.ntmps89
  go_wp2_with fail
  refine (C1.out _ H0.out).mono ?_
  rintro e w1 ⟨rfl, ho⟩
  have f1 : w1.cell? ⟨w.heap.size, 1, none⟩ = some (.int .u32 t.dst) := cell_of (ho.block 0 rfl) rfl
  have H1 := Lib.hid ho
  clear ho C1 H0
  go_wp2_with fail
  refine (C2.out _ H1.out).mono ?_
  rintro e w2 ⟨rfl, ho⟩
  have f2 : w2.cell? ⟨w.heap.size, 2, none⟩ = some (.int .i64 t.proto) := cell_of (ho.block 0 rfl) rfl
  have H2 := Lib.hid ho
  clear ho C2 H1 f1
  go_wp2_with fail
  refine (C3.out _ H2.out).mono ?_
  rintro e w3 ⟨rfl, ho⟩
  have f3 : w3.cell? ⟨w.heap.size, 3, none⟩ = some (.int .i64 t.sport) := cell_of (ho.block 0 rfl) rfl
  have H3 := Lib.hid ho
  clear ho C3 H2 f2
  go_wp2_with fail
  refine (C4.out _ H3.out).mono ?_
  rintro e w4 ⟨rfl, ho⟩
  have f4 : w4.cell? ⟨w.heap.size, 4, none⟩ = some (.int .i64 t.dport) := cell_of (ho.block 0 rfl) rfl
  have H4 := Lib.hid ho
  clear ho C4 H3 f3
  go_wp2_with fail
  refine (C5.out _ H4.out).mono ?_
  rintro e w5 ⟨rfl, ho⟩
  have H5 := Lib.hid ho
  clear ho C5 H4 f4
  go_wp2_with fail
  go_end0
  exact ⟨rfl, H5.out⟩

/-- What a writer holds, as its slice. -/
theorem WA.read {F : List Nat} (h : WA bw l w F) : ∃ v, w.heap[bw]? = some (.cells #[v] 140 (0, 0)) ∧ ((v = .slice none 0 0 ∧ l = []) ∨ ∃ g cap, v = .slice (some ⟨g, 0, none⟩) l.length cap ∧ Src w (some ⟨g, 0, none⟩) l.length 1 (u8s l)) := by
  obtain ⟨v, F1, F2, h1, ⟨F3, F4, h3, _⟩, _⟩ := h
  refine ⟨v, h1.2, ?_⟩
  obtain ⟨a, cap, rfl, -, -, -⟩ := h3.shape
  have hs := h3.all
  obtain ⟨_, _, h4 | ⟨g, c, cur, e, _⟩⟩ := h3
  · left; exact ⟨h4.1, List.length_eq_zero_iff.1 h4.2⟩
  · right; cases e; exact ⟨g, cap, rfl, hs⟩
theorem o_wbytes (h : In F0 w0 w R) (i : Nat) (hA : R[i]? = some (WA bw l)) (hl : l.length ≤ 1000000) :
    Calls Try.prog 90 #[.pointer (some ⟨bw, 0, none⟩)] w fun e w' => ∃ v, e = .returned v ∧ In F0 w0 w' (RowA 5 1 v l.length (u8s l) :: R) := by
  obtain ⟨F, hF⟩ := h.get i hA
  obtain ⟨v, hb, hv⟩ := hF.read
  have c0 : w.cell? ⟨bw, 0, none⟩ = some v := cell_of hb rfl
  rcases hv with ⟨rfl, rfl⟩ | ⟨g, cap, rfl, hs⟩
  · have C := Lib.hid (clone_none h)
    clear h hF hb hA
    go_enter Try.func90, Try.ntmps90
    go_wp2_with fail
    refine C.out.mono ?_
    rintro e w1 ⟨v, rfl, ho⟩
    have HO := Lib.hid ho
    clear ho C
    go_wp2_with fail
    go_ret
    exact ⟨_, rfl, HO.out⟩
  · have C := Lib.hid (clone_some (c := cap) h hs (by omega))
    clear h hF hb hA hs
    go_enter Try.func90, Try.ntmps90
    go_wp2_with fail
    refine C.out.mono ?_
    rintro e w1 ⟨v, rfl, ho⟩
    have HO := Lib.hid ho
    clear ho C
    go_wp2_with fail
    go_ret
    exact ⟨_, rfl, HO.out⟩
theorem fold_bytes_aux : ∀ (l : List UInt8) (s : ByteArray), (l.map (fun b => (b.toNat : Int))).foldl (fun r n => r.push (UInt8.ofNat n.toNat)) s = ⟨s.data ++ l.toArray⟩
  | [], s => by simp
  | b :: r, s => by
    rw [List.map_cons, List.foldl_cons, fold_bytes_aux r]
    congr 1
    have : UInt8.ofNat ((b.toNat : Int)).toNat = b := by simp
    rw [this]
    show s.data.push b ++ r.toArray = _
    simp
theorem fold_bytes (l : List UInt8) : (l.map (fun b => (b.toNat : Int))).foldl (fun r n => r.push (UInt8.ofNat n.toNat)) ByteArray.empty = ⟨l.toArray⟩ := by
  rw [fold_bytes_aux]
  congr 1
  simp
/-- 'string(b)'. -/
theorem conv_str {a : Option Addr} {n cap : Nat} (hs : Src w a n 1 (u8s l)) (ha : a = none → n = 0) :
    (convert 129 9 (.slice a n cap)).run Try.prog w = .ok (.string ⟨l.toArray⟩) w := by
  have hl : l.length = n := by have := hs.len; rw [u8s_length] at this; omega
  rw [run_convert_bytes_string w 129 9 5 _ _ _ Try.underlying129 Try.underlying5 Try.underlying9]
  cases a with
  | none =>
    have h0 := ha rfl
    subst h0
    have : l = [] := List.length_eq_zero_iff.1 hl
    subst this
    simp [Conv.bytesToString]
    rfl
  | some ad =>
    rw [run_bytesToString w ad n cap (l.map (fun b => (b.toNat : Int)))]
    · rw [fold_bytes]
    · have e : (l.map (fun b => (b.toNat : Int))).map (Value.int .u8) = u8s l := by simp [u8s]
      rw [e, ← hl, ← u8s_length l]
      refine run_loadCells_list (P := Try.prog) w ad (u8s l) (fun j v hv => ?_)
      have h0 : 0 < n := by
        have := (List.getElem?_eq_some_iff.1 hv).1
        rw [u8s_length] at this; omega
      obtain ⟨ad', e', hc⟩ := hs.at' h0
      cases e'
      exact hc j v hv
end
end Go.Proofs.Ytcakgponofbhkaa
