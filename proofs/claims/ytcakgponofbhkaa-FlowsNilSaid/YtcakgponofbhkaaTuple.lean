/- Tuples: the calls. -/
import Derived.Test.YtcakgponofbhkaaTuplePlain
import Derived.Laws.BytesString
import Derived.Deep.RegionHeld3
namespace Go.Proofs.Ytcakgponofbhkaa
open Go.RowKit
set_option linter.unusedVariables false
set_option maxRecDepth 100000

theorem tmay_true {t : Tup} (h : MayT t) (w : World) : Calls Try.prog 82 #[.agg (encT t)] w fun e w' => e = .returned (.bool true) ∧ w' = w.alloc (.cells (encT t) 57) := by
  obtain ⟨h1, h2, h3, h4, h5⟩ := h
  by_cases hp : t.proto = 6
  · have hp' : (t.proto == 6) = true := by simpa using hp
    clear h1 hp
    go_enter Try.func82, Try.ntmps82
    go_wp2_with fail
    go_ret
    exact ⟨rfl, rfl⟩
  · have hp' : (t.proto == 6) = false := by simpa using hp
    have hq' : (t.proto == 17) = true := by have := h1; simp; omega
    clear h1 hp
    go_enter Try.func82, Try.ntmps82
    go_wp2_with fail
    go_ret
    exact ⟨rfl, rfl⟩
theorem tmay_false {t : Tup} (h : ¬ MayT t) (w : World) : Calls Try.prog 82 #[.agg (encT t)] w fun e w' => e = .returned (.bool false) ∧ w' = w.alloc (.cells (encT t) 57) := by
  rw [mayT_iff] at h
  have hb : ((t.proto == 6) = false ∧ (t.proto == 17) = false) ∨ (((t.proto == 6) = true ∨ ((t.proto == 6) = false ∧ (t.proto == 17) = true)) ∧ (decide (0 ≤ t.sport) = false ∨ (0 ≤ t.sport ∧ (decide (t.sport ≤ 65535) = false ∨ (t.sport ≤ 65535 ∧ (decide (0 ≤ t.dport) = false ∨ (0 ≤ t.dport ∧ decide (t.dport ≤ 65535) = false))))))) := by
    simp only [beq_eq_false_iff_ne, beq_iff_eq, decide_eq_false_iff_not]; omega
  clear h
  rcases hb with ⟨p1, p2⟩ | ⟨p, q⟩
  · go_enter Try.func82, Try.ntmps82
    go_wp2_with fail
    go_ret
    exact ⟨rfl, rfl⟩
  · rcases p with p | ⟨p, p2⟩ <;> rcases q with q | ⟨q, q2 | ⟨q2, q3 | ⟨q3, q4⟩⟩⟩
    all_goals
      go_enter Try.func82, Try.ntmps82
      go_wp2_with fail
      go_ret
      exact ⟨rfl, rfl⟩

theorem set_at {R : List Asrt} {i : Nat} (hi : i < R.length) {X A : Asrt} : (X :: R.set i A)[i + 1]? = some A := by simp [hi]
section
variable {F0 : List Nat} {w0 w : World} {R : List Asrt} {bw : Nat} {l : List UInt8}
set_option maxHeartbeats 4000000 in
theorem o_twrite (h : In F0 w0 w R) (i : Nat) (hA : R[i]? = some (WA bw l)) (hl : l.length ≤ 900000) {t : Tup} (ht : WfT t) :
    Calls Try.prog 89 #[.pointer (some ⟨bw, 0, none⟩), .agg (encT t)] w fun e w' => e = .returned (.tuple #[]) ∧ In F0 w0 w' (R.set i (WA bw (l ++ keyL t))) := by
  obtain ⟨s0, s1, d0, d1, -, -, -, -, -, -⟩ := ht
  have hR : (Cells w.heap.size (encT t) 57 :: R)[i + 1]? = some (WA bw l) := by simpa using hA
  have hi := (List.getElem?_eq_some_iff.1 hA).1
  have H0 := Lib.hid (h.cells (encT t) 57)
  have HA := Lib.hid hR
  have C1 : Hid (∀ w1, In F0 w0 w1 (Cells w.heap.size (encT t) 57 :: R) → Calls Try.prog 102 #[.pointer (some ⟨bw, 0, none⟩), .int .u32 t.src] w1 fun e w' => e = .returned (.tuple #[]) ∧ In F0 w0 w' (Cells w.heap.size (encT t) 57 :: R.set i (WA bw (l ++ be (u64 t.src) 4)))) :=
    Lib.hid fun w1 h1 => o_wu32 h1 (i + 1) HA.out (by omega) s0 s1
  have C2 : Hid (∀ w1, In F0 w0 w1 (Cells w.heap.size (encT t) 57 :: R.set i (WA bw (l ++ be (u64 t.src) 4))) → Calls Try.prog 102 #[.pointer (some ⟨bw, 0, none⟩), .int .u32 t.dst] w1 fun e w' => e = .returned (.tuple #[]) ∧ In F0 w0 w' (Cells w.heap.size (encT t) 57 :: R.set i (WA bw (l ++ be (u64 t.src) 4 ++ be (u64 t.dst) 4)))) :=
    Lib.hid fun w1 h1 => by
      have := o_wu32 (n := t.dst) h1 (i + 1) (set_at hi) (by simp [be, beTo_length]; omega) d0 d1
      simpa only [List.set_cons_succ, List.set_set] using this
  have C3 : Hid (∀ w1, In F0 w0 w1 (Cells w.heap.size (encT t) 57 :: R.set i (WA bw (l ++ be (u64 t.src) 4 ++ be (u64 t.dst) 4))) → Calls Try.prog 103 #[.pointer (some ⟨bw, 0, none⟩), .int .i64 t.proto] w1 fun e w' => e = .returned (.tuple #[]) ∧ In F0 w0 w' (Cells w.heap.size (encT t) 57 :: R.set i (WA bw (l ++ be (u64 t.src) 4 ++ be (u64 t.dst) 4 ++ be (u64 t.proto) 1)))) :=
    Lib.hid fun w1 h1 => by
      have := o_wu8 h1 (i + 1) (set_at hi) (by simp [be, beTo_length]; omega) t.proto
      simpa only [List.set_cons_succ, List.set_set] using this
  have C4 : Hid (∀ w1, In F0 w0 w1 (Cells w.heap.size (encT t) 57 :: R.set i (WA bw (l ++ be (u64 t.src) 4 ++ be (u64 t.dst) 4 ++ be (u64 t.proto) 1))) → Calls Try.prog 104 #[.pointer (some ⟨bw, 0, none⟩), .int .i64 t.sport] w1 fun e w' => e = .returned (.tuple #[]) ∧ In F0 w0 w' (Cells w.heap.size (encT t) 57 :: R.set i (WA bw (l ++ be (u64 t.src) 4 ++ be (u64 t.dst) 4 ++ be (u64 t.proto) 1 ++ be (u64 t.sport) 2)))) :=
    Lib.hid fun w1 h1 => by
      have := o_wu16 h1 (i + 1) (set_at hi) (by simp [be, beTo_length]; omega) t.sport
      simpa only [List.set_cons_succ, List.set_set] using this
  have C5 : Hid (∀ w1, In F0 w0 w1 (Cells w.heap.size (encT t) 57 :: R.set i (WA bw (l ++ be (u64 t.src) 4 ++ be (u64 t.dst) 4 ++ be (u64 t.proto) 1 ++ be (u64 t.sport) 2))) → Calls Try.prog 104 #[.pointer (some ⟨bw, 0, none⟩), .int .i64 t.dport] w1 fun e w' => e = .returned (.tuple #[]) ∧ In F0 w0 w' (R.set i (WA bw (l ++ keyL t)))) :=
    Lib.hid fun w1 h1 => by
      have := o_wu16 h1 (i + 1) (set_at hi) (by simp [be, beTo_length]; omega) t.dport
      refine this.mono fun e w' ⟨he, ho⟩ => ⟨he, ?_⟩
      rw [List.set_cons_succ, List.set_set] at ho
      have h2 := ho.drop
      unfold keyL
      simpa only [List.append_assoc] using h2
  clear h hA hR hl hi s0 s1 d0 d1
  go_enter Try.func89, Try.ntmps89
  go_wp2_with fail
  refine (C1.out _ H0.out).mono ?_
  rintro e w1 ⟨rfl, ho⟩
  have f1 : w1.cell? ⟨w.heap.size, 1, none⟩ = some (.int .u32 t.dst) := cell_of (ho.block 0 rfl) rfl
  have H1 := Lib.hid ho
  clear ho C1 H0
  go_wp2_with fail
  refine (C2.out _ H1.out).mono ?_
  rintro e w2 ⟨rfl, ho⟩
  have f2 : w2.cell? ⟨w.heap.size, 2, none⟩ = some (.int .i64 t.proto) := cell_of (ho.block 0 rfl) rfl
  have H2 := Lib.hid ho
  clear ho C2 H1 f1
  go_wp2_with fail
  refine (C3.out _ H2.out).mono ?_
  rintro e w3 ⟨rfl, ho⟩
  have f3 : w3.cell? ⟨w.heap.size, 3, none⟩ = some (.int .i64 t.sport) := cell_of (ho.block 0 rfl) rfl
  have H3 := Lib.hid ho
  clear ho C3 H2 f2
  go_wp2_with fail
  refine (C4.out _ H3.out).mono ?_
  rintro e w4 ⟨rfl, ho⟩
  have f4 : w4.cell? ⟨w.heap.size, 4, none⟩ = some (.int .i64 t.dport) := cell_of (ho.block 0 rfl) rfl
  have H4 := Lib.hid ho
  clear ho C4 H3 f3
  go_wp2_with fail
  refine (C5.out _ H4.out).mono ?_
  rintro e w5 ⟨rfl, ho⟩
  have H5 := Lib.hid ho
  clear ho C5 H4 f4
  go_wp2_with fail
  go_end0
  exact ⟨rfl, H5.out⟩

/-- What a writer holds, as its slice. -/
theorem WA.read {F : List Nat} (h : WA bw l w F) : ∃ v, w.heap[bw]? = some (.cells #[v] 140 (0, 0)) ∧ ((v = .slice none 0 0 ∧ l = []) ∨ ∃ g cap, v = .slice (some ⟨g, 0, none⟩) l.length cap ∧ Src w (some ⟨g, 0, none⟩) l.length 1 (u8s l)) := by
  obtain ⟨v, F1, F2, h1, ⟨F3, F4, h3, _⟩, _⟩ := h
  refine ⟨v, h1.2, ?_⟩
  obtain ⟨a, cap, rfl, -, -, -⟩ := h3.shape
  have hs := h3.all
  obtain ⟨_, _, h4 | ⟨g, c, cur, e, _⟩⟩ := h3
  · left; exact ⟨h4.1, List.length_eq_zero_iff.1 h4.2⟩
  · right; cases e; exact ⟨g, cap, rfl, hs⟩
theorem o_wbytes (h : In F0 w0 w R) (i : Nat) (hA : R[i]? = some (WA bw l)) (hl : l.length ≤ 1000000) :
    Calls Try.prog 90 #[.pointer (some ⟨bw, 0, none⟩)] w fun e w' => ∃ v, e = .returned v ∧ In F0 w0 w' (RowA 5 1 v l.length (u8s l) :: R) := by
  obtain ⟨F, hF⟩ := h.get i hA
  obtain ⟨v, hb, hv⟩ := hF.read
  have c0 : w.cell? ⟨bw, 0, none⟩ = some v := cell_of hb rfl
  rcases hv with ⟨rfl, rfl⟩ | ⟨g, cap, rfl, hs⟩
  · have C := Lib.hid (clone_none h)
    clear h hF hb hA
    go_enter Try.func90, Try.ntmps90
    go_wp2_with fail
    refine C.out.mono ?_
    rintro e w1 ⟨v, rfl, ho⟩
    have HO := Lib.hid ho
    clear ho C
    go_wp2_with fail
    go_ret
    exact ⟨_, rfl, HO.out⟩
  · have C := Lib.hid (clone_some (c := cap) h hs (by omega))
    clear h hF hb hA hs
    go_enter Try.func90, Try.ntmps90
    go_wp2_with fail
    refine C.out.mono ?_
    rintro e w1 ⟨v, rfl, ho⟩
    have HO := Lib.hid ho
    clear ho C
    go_wp2_with fail
    go_ret
    exact ⟨_, rfl, HO.out⟩
theorem fold_bytes_aux : ∀ (l : List UInt8) (s : ByteArray), (l.map (fun b => (b.toNat : Int))).foldl (fun r n => r.push (UInt8.ofNat n.toNat)) s = ⟨s.data ++ l.toArray⟩
  | [], s => by simp
  | b :: r, s => by
    rw [List.map_cons, List.foldl_cons, fold_bytes_aux r]
    congr 1
    have : UInt8.ofNat ((b.toNat : Int)).toNat = b := by simp
    rw [this]
    show s.data.push b ++ r.toArray = _
    simp
theorem fold_bytes (l : List UInt8) : (l.map (fun b => (b.toNat : Int))).foldl (fun r n => r.push (UInt8.ofNat n.toNat)) ByteArray.empty = ⟨l.toArray⟩ := by
  rw [fold_bytes_aux]
  congr 1
  simp
/-- 'string(b)'. -/
theorem conv_str {a : Option Addr} {n cap : Nat} (hs : Src w a n 1 (u8s l)) (ha : a = none → n = 0) :
    (convert 129 9 (.slice a n cap)).run Try.prog w = .ok (.string ⟨l.toArray⟩) w := by
  have hl : l.length = n := by have := hs.len; rw [u8s_length] at this; omega
  rw [run_convert_bytes_string w 129 9 5 _ _ _ Try.underlying129 Try.underlying5 Try.underlying9]
  cases a with
  | none =>
    have h0 := ha rfl
    subst h0
    have : l = [] := List.length_eq_zero_iff.1 hl
    subst this
    simp [Conv.bytesToString]
    rfl
  | some ad =>
    rw [run_bytesToString w ad n cap (l.map (fun b => (b.toNat : Int)))]
    · rw [fold_bytes]
    · have e : (l.map (fun b => (b.toNat : Int))).map (Value.int .u8) = u8s l := by simp [u8s]
      rw [e, ← hl, ← u8s_length l]
      refine run_loadCells_list (P := Try.prog) w ad (u8s l) (fun j v hv => ?_)
      have h0 : 0 < n := by
        have := (List.getElem?_eq_some_iff.1 hv).1
        rw [u8s_length] at this; omega
      obtain ⟨ad', e', hc⟩ := hs.at' h0
      cases e'
      exact hc j v hv
end
end Go.Proofs.Ytcakgponofbhkaa
