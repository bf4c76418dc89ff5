/- Bytes put together: a writer in memory, and its calls. Bytes put together: the other calls of a writer; a copy of bytes. -/
import Derived.Test.YtogclkhpbjfadaaGreatChecked
import Derived.Test.YtogclkhpbjfadaaGreatOwn
import Derived.Deep.RegionLaw
import Derived.WalkSpells
namespace Go.Proofs.YtogclkhpbjfadaaGreat
open Go.RowKit
set_option linter.unusedVariables false
set_option maxRecDepth 100000

def u8s (l : List UInt8) : List Value := l.map (fun b => Value.int .u8 b.toNat)
theorem u8s_length (l : List UInt8) : (u8s l).length = l.length := List.length_map _
theorem u8s_append (l l' : List UInt8) : u8s l ++ u8s l' = u8s (l ++ l') := by simp [u8s]
theorem u8s_take (l : List UInt8) (m : Nat) : (u8s l).take m = u8s (l.take m) := by simp [u8s, List.map_take]
theorem u8s_drop (l : List UInt8) (m : Nat) : (u8s l).drop m = u8s (l.drop m) := by simp [u8s, List.map_drop]
theorem u8s_one (l : List UInt8) : ∀ u ∈ u8s l, u.oneCell' = true := by
  intro u hu
  obtain ⟨b, _, rfl⟩ := List.mem_map.1 hu
  rfl
def WrR (bw : Nat) (v : Value) (l : List UInt8) : List Asrt := [Cells bw #[v] 216, RowA 5 1 v l.length (u8s l)]
theorem WrR.framed {bw : Nat} {v : Value} {l : List UInt8} : ∀ A ∈ WrR bw v l, Framed A := by
  intro A hA
  simp only [WrR, List.mem_cons, List.not_mem_nil, or_false] at hA
  rcases hA with rfl | rfl
  · exact Cells.framed _ _ _
  · exact RowA.framed _ _ _ _ _
/-- The writer at bw has put l together. -/
def WA (bw : Nat) (l : List UInt8) : Asrt := fun w F => ∃ v, Star (WrR bw v l) w F
theorem WA.framed (bw : Nat) (l : List UInt8) : Framed (WA bw l) := by
  refine ⟨?_, ?_⟩
  · rintro w w' F ⟨v, h⟩ hk; exact ⟨v, (Framed.star WrR.framed).keep h hk⟩
  · rintro w F ⟨v, h⟩; exact (Framed.star WrR.framed).lt h

/-- The first i of so many bytes of a number, the highest first. -/
def beTo (n width i : Nat) : List UInt8 := (List.range i).map (fun j => UInt8.ofNat (n / 256 ^ (width - 1 - j)))
def be (n width : Nat) : List UInt8 := beTo n width width
theorem beTo_length (n width i : Nat) : (beTo n width i).length = i := by simp [beTo]
theorem beTo_succ (n width i : Nat) : beTo n width (i + 1) = beTo n width i ++ [UInt8.ofNat (n / 256 ^ (width - 1 - i))] := by simp [beTo, List.range_succ]
theorem infoByte : (Tryz.prog.info? 5).map (fun i => (i.zero.map (fun z => z.cells.size), i.size, i.bytes)) = some (some 1, 1, 1) := by kernel_rfl

def WPutRel (bw : Nat) (l : List UInt8) (n width : Nat) (w : World) (F : List Nat) (k : Value) (wr : World) : Prop :=
  ∃ (i : Nat) (v : Value), k = .int .i64 i ∧ i ≤ width ∧ In F w wr (WrR bw v (l ++ beTo n width i))
theorem pow_256 (s : Nat) : (2 : Int) ^ (8 * s) = ((256 ^ s : Nat) : Int) := by
  rw [Int.pow_mul]; simp
theorem byte_eq (n s : Nat) : IntKind.u8.wrap ((n : Int) / 2 ^ (8 * s)) = ((UInt8.ofNat (n / 256 ^ s)).toNat : Int) := by
  rw [pow_256, ← Int.natCast_ediv]
  show ((n / 256 ^ s : Nat) : Int) % 256 = _
  simp
set_option maxHeartbeats 4000000 in
theorem wput {w : World} {bw : Nat} {l : List UInt8} {F : List Nat} (h : WA bw l w F) (hl : l.length ≤ 1000000) (n width : Nat) (hn : n < 18446744073709551616) (hw1 : width ≤ 8) :
    Calls Tryz.prog 222 #[.pointer (some ⟨bw, 0, none⟩), .int .u64 n, .int .i64 width] w (GV (.tuple #[]) (WA bw (l ++ be n width)) w F) := by
  obtain ⟨v, h⟩ := h
  have HS : Hid (WPutRel bw l n width w F (.int .i64 0) w) := Lib.hid ⟨0, v, rfl, Nat.zero_le _, by simpa [beTo] using In.start WrR.framed h⟩
  clear h
  go_enter Tryz.func222, Tryz.ntmps222
  go_wp2_with fail
  go_loopw [10] (WPutRel bw l n width w F) (fun k _ => width - (intOf k).toNat)
  case atStart => exact HS.out
  case round =>
    obtain ⟨i, v, rfl, hi, ho⟩ := hrel
    clear HS
    by_cases hlt : i < width
    · have hlt' : (i : Int) < (width : Int) := by omega
      obtain ⟨Fr, hr⟩ := ho.get 1 rfl
      obtain ⟨a, cap, rfl, -, -, -⟩ := hr.shape
      have hlen : (l ++ beTo n width i).length ≤ 1000008 := by rw [List.length_append, beTo_length]; omega
      have HR : Hid (∀ v wz, In F w wz (WrR bw v (l ++ beTo n width i ++ [UInt8.ofNat (n / 256 ^ (width - 1 - i))])) → WPutRel bw l n width w F (.int .i64 (i + 1)) wz) :=
        Lib.hid fun v wz hz => ⟨i + 1, v, by congr 1, by omega, by rw [beTo_succ, ← List.append_assoc]; exact hz⟩
      generalize l ++ beTo n width i = m at *
      have HO := Lib.hid ho
      have c0 : wr.cell? ⟨bw, 0, none⟩ = some (.slice a m.length cap) := cell_of (ho.block 0 rfl) rfl
      have c1 : ∀ o, (wr.alloc o).cell? ⟨bw, 0, none⟩ = some (.slice a m.length cap) := fun o => cell_of ((ho.alloc o).block 0 rfl) rfl
      have e1 : IntKind.i64.wrap ((width : Int) - 1) = (width : Int) - 1 := by rw [IntKind.wrap_i64]; omega
      have e2 : IntKind.i64.wrap ((width : Int) - 1 - (i : Int)) = (width : Int) - 1 - (i : Int) := by rw [IntKind.wrap_i64]; omega
      have e3 : IntKind.i64.wrap (8 * ((width : Int) - 1 - (i : Int))) = 8 * ((width : Int) - 1 - (i : Int)) := by rw [IntKind.wrap_i64]; omega
      have e4 : (8 * ((width : Int) - 1 - (i : Int))).toNat = 8 * (width - 1 - i) := by omega
      have b1 : (0 : Int) ≤ 8 * ((width : Int) - 1 - (i : Int)) := by omega
      have b2 : 8 * ((width : Int) - 1 - (i : Int)) ≤ 64 := by omega
      clear ho hr hlt
      go_wp2_with fail
      go_region_law
        (first
          | (refine app_step rfl (R := Cells _ _ 5 :: WrR bw (.slice a m.length cap) m) (by exact (HO.out.drewN 1).cells _ _) 2 rfl (.tmp 17) (.tmp 26) 23 (by rfl) Tryz.underlying23 infoByte (by decide) (by decide) (by rfl) (by rfl) (by exact Src.of_block (((HO.out.drewN 1).cells _ _).block 0 rfl) rfl) (fun u hu => by simp at hu; subst hu; rfl) (by omega) ?_
             intro v1 w3 ho1 hg1
             have hc1 : w3.cell? ⟨bw, 0, none⟩ = some (.slice a m.length cap) := cell_of (ho1.block 1 rfl) rfl
             have hf1 : w3.frozen? ⟨bw, 0, none⟩ = false := free_of (ho1.block 1 rfl)
             obtain ⟨F1, hr1⟩ := ho1.get 2 rfl
             obtain ⟨a1, cap1, rfl, -, -, -⟩ := hr1.shape
             clear hr1
             have H1 := Lib.hid ho1
             clear ho1 hg1))
      all_goals
        have HE : Hid (WPutRel bw l n width w F (.int .i64 (i + 1)) (w3.setCell ⟨bw, 0, none⟩ (.slice a1 (m.length + 1) cap1))) := by
          have h2 := (H1.out.put 1 rfl 0 (.slice a1 (m.length + 1) cap1)).sel [1, 2] (by decide) rfl
          refine Lib.hid (HR.out (.slice a1 (m.length + 1) cap1) _ ?_)
          unfold WrR
          rw [← u8s_append, List.length_append]
          have e : (IntKind.u8.wrap ((n : Int) / 2 ^ (8 * (width - 1 - i)))) = ((UInt8.ofNat (n / 256 ^ (width - 1 - i))).toNat : Int) := byte_eq n _
          rw [e] at h2
          exact h2
        clear e1 e2 e3 e4
        go_wp2_with fail
        go_roundw
        case rel => exact HE.out
        case measure => simp [intOf]; omega
    · have hge : (width : Int) ≤ (i : Int) := by omega
      have hil : i = width := by omega
      subst hil
      have HG : Hid (GV (.tuple #[]) (WA bw (l ++ be n i)) w F (.returned (.tuple #[])) wr) := Lib.hid (GV.mk ho (fun F' hs => ⟨v, hs⟩))
      clear ho hlt
      go_wp2_with fail
      go_end0
      exact HG.out
end Go.Proofs.YtogclkhpbjfadaaGreat
namespace Go.Proofs.YtogclkhpbjfadaaGreat
open Go.RowKit
set_option linter.unusedVariables false
set_option maxRecDepth 100000

def u64 (n : Int) : Nat := (n % 18446744073709551616).toNat
theorem u64_eq (n : Int) : IntKind.u64.wrap n = ((u64 n : Nat) : Int) := by
  have : IntKind.u64.wrap n = n % 18446744073709551616 := by simp [IntKind.wrap, IntKind.bits, IntKind.signed]
  rw [this]; unfold u64; omega
theorem u64_lt (n : Int) : u64 n < 18446744073709551616 := by unfold u64; omega
theorem u64_nat {n : Int} (h0 : 0 ≤ n) (h1 : n < 18446744073709551616) : ((u64 n : Nat) : Int) = n := by unfold u64; omega
section
variable {F0 : List Nat} {w0 w : World} {R : List Asrt} {bw : Nat} {l : List UInt8}
theorem o_wput (h : In F0 w0 w R) (i : Nat) (hA : R[i]? = some (WA bw l)) (hl : l.length ≤ 1000000) (n width : Nat) (hn : n < 18446744073709551616) (hw1 : width ≤ 8) :
    Calls Tryz.prog 222 #[.pointer (some ⟨bw, 0, none⟩), .int .u64 n, .int .i64 width] w fun e w' => e = .returned (.tuple #[]) ∧ In F0 w0 w' (R.set i (WA bw (l ++ be n width))) :=
  own_val h i hA (WA.framed _ _) fun F hF => wput hF hl n width hn hw1
theorem o_wu8 (h : In F0 w0 w R) (i : Nat) (hA : R[i]? = some (WA bw l)) (hl : l.length ≤ 1000000) (n : Int) :
    Calls Tryz.prog 154 #[.pointer (some ⟨bw, 0, none⟩), .int .i64 n] w fun e w' => e = .returned (.tuple #[]) ∧ In F0 w0 w' (R.set i (WA bw (l ++ be (u64 n) 1))) := by
  have c := Lib.hid (o_wput h i hA hl (u64 n) 1 (u64_lt n) (by omega))
  rw [← u64_eq] at c
  clear h hA hl
  go_enter Tryz.func154, Tryz.ntmps154
  go_wp2_with fail
  refine c.out.mono ?_
  rintro e w1 ⟨rfl, ho⟩
  have HO := Lib.hid ho
  clear ho c
  go_wp2_with fail
  go_end0
  exact ⟨rfl, HO.out⟩
theorem o_wu16 (h : In F0 w0 w R) (i : Nat) (hA : R[i]? = some (WA bw l)) (hl : l.length ≤ 1000000) (n : Int) :
    Calls Tryz.prog 155 #[.pointer (some ⟨bw, 0, none⟩), .int .i64 n] w fun e w' => e = .returned (.tuple #[]) ∧ In F0 w0 w' (R.set i (WA bw (l ++ be (u64 n) 2))) := by
  have c := Lib.hid (o_wput h i hA hl (u64 n) 2 (u64_lt n) (by omega))
  rw [← u64_eq] at c
  clear h hA hl
  go_enter Tryz.func155, Tryz.ntmps155
  go_wp2_with fail
  refine c.out.mono ?_
  rintro e w1 ⟨rfl, ho⟩
  have HO := Lib.hid ho
  clear ho c
  go_wp2_with fail
  go_end0
  exact ⟨rfl, HO.out⟩
theorem o_wu32 (h : In F0 w0 w R) (i : Nat) (hA : R[i]? = some (WA bw l)) (hl : l.length ≤ 1000000) {n : Int} (h0 : 0 ≤ n) (h1 : n < 4294967296) :
    Calls Tryz.prog 156 #[.pointer (some ⟨bw, 0, none⟩), .int .u32 n] w fun e w' => e = .returned (.tuple #[]) ∧ In F0 w0 w' (R.set i (WA bw (l ++ be (u64 n) 4))) := by
  have c := Lib.hid (o_wput h i hA hl (u64 n) 4 (u64_lt n) (by omega))
  rw [u64_nat h0 (by omega)] at c
  clear h hA hl
  go_enter Tryz.func156, Tryz.ntmps156
  go_wp2_with fail
  refine c.out.mono ?_
  rintro e w1 ⟨rfl, ho⟩
  have HO := Lib.hid ho
  clear ho c
  go_wp2_with fail
  go_end0
  exact ⟨rfl, HO.out⟩
/-- A block without cells is a row without elements. -/
theorem In.row0 (h : In F0 w0 w R) (i : Nat) {g : Nat} {T : TypeId} {k : Nat} (hA : R[i]? = some (Cells g #[] T)) : In F0 w0 w (R.set i (RowA T k (.slice (some ⟨g, 0, none⟩) 0 0) 0 [])) :=
  h.imp i hA (RowA.framed _ _ _ _ _) fun F hF => ⟨by rw [hF.1]; simp [Value.ownBlock], by simp, Or.inr ⟨g, 0, #[], rfl, Nat.zero_le _, hF.2, Nat.le_refl _, by unfold maxLen; omega, by simp, by simp⟩⟩

set_option maxHeartbeats 2000000 in
/-- A copy of bytes. -/
theorem clone_some (h : In F0 w0 w R) {ad : Addr} {n c : Nat} (hs : Src w (some ad) n 1 (u8s l)) (hn : n ≤ 100000000) :
    Calls Tryz.prog 132 #[.slice (some ad) n c] w fun e w' => ∃ v, e = .returned v ∧ In F0 w0 w' (RowA 5 1 v n (u8s l) :: R) := by
  have HH := Lib.hid h
  have HS := Lib.hid hs
  clear h hs
  have hq : ∀ (w : World) (a : Option Addr) (n c n' c' : Nat), (binOp .eql 23 (.slice a n c) (.slice none n' c')).run Tryz.prog w = .ok (.bool a.isNone) w := fun w a n c n' c' => Lib.run_eql_slice_nil w _ _ a n c n' c' Tryz.underlying23
  go_enter Tryz.func132, Tryz.ntmps132
  go_wp2_with (at_builtin; refine app_list rfl ((HH.out.cells #[] 5).row0 (k := 1) 0 rfl) 0 rfl (.tmp 5) (.tmp 6) 23 (by rfl) Tryz.underlying23 infoByte (by decide) (by decide) (by rfl) (by rfl) (src_alloc HS.out _) (u8s_one _) (by omega) ?_)
  intro v' w3 ho hg
  have HO := Lib.hid ho
  clear ho hg
  go_wp2_with fail
  go_ret
  exact ⟨_, rfl, HO.out⟩
theorem clone_none (h : In F0 w0 w R) : Calls Tryz.prog 132 #[.slice none 0 0] w fun e w' => ∃ v, e = .returned v ∧ In F0 w0 w' (RowA 5 1 v 0 (u8s []) :: R) := by
  have HH := Lib.hid (h.rownil 5 1)
  clear h
  have hq : ∀ (w : World) (a : Option Addr) (n c n' c' : Nat), (binOp .eql 23 (.slice a n c) (.slice none n' c')).run Tryz.prog w = .ok (.bool a.isNone) w := fun w a n c n' c' => Lib.run_eql_slice_nil w _ _ a n c n' c' Tryz.underlying23
  go_enter Tryz.func132, Tryz.ntmps132
  go_wp2_with fail
  go_ret
  exact ⟨_, rfl, HH.out⟩
theorem WA.read {F : List Nat} (h : WA bw l w F) : ∃ v, w.heap[bw]? = some (.cells #[v] 216 (0, 0)) ∧ ((v = .slice none 0 0 ∧ l = []) ∨ ∃ g cap, v = .slice (some ⟨g, 0, none⟩) l.length cap ∧ Src w (some ⟨g, 0, none⟩) l.length 1 (u8s l)) := by
  obtain ⟨v, F1, F2, h1, ⟨F3, F4, h3, _⟩, _⟩ := h
  refine ⟨v, h1.2, ?_⟩
  obtain ⟨a, cap, rfl, -, -, -⟩ := h3.shape
  have hs := h3.all
  obtain ⟨_, _, h4 | ⟨g, c, cur, e, _⟩⟩ := h3
  · left; exact ⟨h4.1, List.length_eq_zero_iff.1 h4.2⟩
  · right; cases e; exact ⟨g, cap, rfl, hs⟩
theorem o_wbytes (h : In F0 w0 w R) (i : Nat) (hA : R[i]? = some (WA bw l)) (hl : l.length ≤ 1000000) :
    Calls Tryz.prog 158 #[.pointer (some ⟨bw, 0, none⟩)] w fun e w' => ∃ v, e = .returned v ∧ In F0 w0 w' (RowA 5 1 v l.length (u8s l) :: R) := by
  obtain ⟨F, hF⟩ := h.get i hA
  obtain ⟨v, hb, hv⟩ := hF.read
  have c0 : w.cell? ⟨bw, 0, none⟩ = some v := cell_of hb rfl
  rcases hv with ⟨rfl, rfl⟩ | ⟨g, cap, rfl, hs⟩
  · have C := Lib.hid (clone_none h)
    clear h hF hb hA
    go_enter Tryz.func158, Tryz.ntmps158
    go_wp2_with fail
    refine C.out.mono ?_
    rintro e w1 ⟨v, rfl, ho⟩
    have HO := Lib.hid ho
    clear ho C
    go_wp2_with fail
    go_ret
    exact ⟨_, rfl, HO.out⟩
  · have C := Lib.hid (clone_some (c := cap) h hs (by omega))
    clear h hF hb hA hs
    go_enter Tryz.func158, Tryz.ntmps158
    go_wp2_with fail
    refine C.out.mono ?_
    rintro e w1 ⟨v, rfl, ho⟩
    have HO := Lib.hid ho
    clear ho C
    go_wp2_with fail
    go_ret
    exact ⟨_, rfl, HO.out⟩
theorem fold_bytes_aux : ∀ (l : List UInt8) (s : ByteArray), (l.map (fun b => (b.toNat : Int))).foldl (fun r n => r.push (UInt8.ofNat n.toNat)) s = ⟨s.data ++ l.toArray⟩
  | [], s => by simp
  | b :: r, s => by
    rw [List.map_cons, List.foldl_cons, fold_bytes_aux r]
    congr 1
    have : UInt8.ofNat ((b.toNat : Int)).toNat = b := by simp
    rw [this]
    show s.data.push b ++ r.toArray = _
    simp
theorem fold_bytes (l : List UInt8) : (l.map (fun b => (b.toNat : Int))).foldl (fun r n => r.push (UInt8.ofNat n.toNat)) ByteArray.empty = ⟨l.toArray⟩ := by
  rw [fold_bytes_aux]
  congr 1
  simp
/-- 'string(b)'. -/
theorem conv_str {a : Option Addr} {n cap : Nat} (hs : Src w a n 1 (u8s l)) (ha : a = none → n = 0) :
    (convert 23 9 (.slice a n cap)).run Tryz.prog w = .ok (.string ⟨l.toArray⟩) w := by
  have hl : l.length = n := by have := hs.len; rw [u8s_length] at this; omega
  rw [run_convert_bytes_string w 23 9 5 _ _ _ Tryz.underlying23 Tryz.underlying5 Tryz.underlying9]
  cases a with
  | none =>
    have h0 := ha rfl
    subst h0
    have : l = [] := List.length_eq_zero_iff.1 hl
    subst this
    simp [Conv.bytesToString]
    rfl
  | some ad =>
    rw [run_bytesToString w ad n cap (l.map (fun b => (b.toNat : Int)))]
    · rw [fold_bytes]
    · have e : (l.map (fun b => (b.toNat : Int))).map (Value.int .u8) = u8s l := by simp [u8s]
      rw [e, ← hl, ← u8s_length l]
      refine run_loadCells_list (P := Tryz.prog) w ad (u8s l) (fun j v hv => ?_)
      have h0 : 0 < n := by
        have := (List.getElem?_eq_some_iff.1 hv).1
        rw [u8s_length] at this; omega
      obtain ⟨ad', e', hc⟩ := hs.at' h0
      cases e'
      exact hc j v hv
end
end Go.Proofs.YtogclkhpbjfadaaGreat
