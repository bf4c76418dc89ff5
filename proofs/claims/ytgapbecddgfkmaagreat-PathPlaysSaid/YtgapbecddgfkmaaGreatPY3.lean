/- Rows.PathPlaysSaid -/
import Derived.Test.YtgapbecddgfkmaaGreatChecked
import Derived.Test.YtgapbecddgfkmaaGreatPY2
import Derived.Deep.RegionLaw
import Derived.WalkSpells
import Derived.Test.YtgapbecddgfkmaaGreatPY1
import Derived.Laws.BytesString
import Derived.Deep.RegionHeld3
namespace Go.Proofs.YtgapbecddgfkmaaGreat
open Go.RowKit
set_option linter.unusedVariables false
set_option maxHeartbeats 64000000
set_option maxRecDepth 100000
def u8s (l : List UInt8) : List Value := l.map (fun b => Value.int .u8 b.toNat)
theorem u8s_length (l : List UInt8) : (u8s l).length = l.length := List.length_map _
theorem u8s_append (l l' : List UInt8) : u8s l ++ u8s l' = u8s (l ++ l') := by simp [u8s]
theorem u8s_take (l : List UInt8) (m : Nat) : (u8s l).take m = u8s (l.take m) := by simp [u8s, List.map_take]
theorem u8s_drop (l : List UInt8) (m : Nat) : (u8s l).drop m = u8s (l.drop m) := by simp [u8s, List.map_drop]
theorem u8s_one (l : List UInt8) : ∀ u ∈ u8s l, u.oneCell' = true := by
  intro u hu
  obtain ⟨b, _, rfl⟩ := List.mem_map.1 hu
  rfl
def WrR (bw : Nat) (v : Value) (l : List UInt8) : List Asrt := [Cells bw #[v] 167, RowA 5 1 v l.length (u8s l)]
theorem WrR.framed {bw : Nat} {v : Value} {l : List UInt8} : ∀ A ∈ WrR bw v l, Framed A := by
  intro A hA
  simp only [WrR, List.mem_cons, List.not_mem_nil, or_false] at hA
  rcases hA with rfl | rfl
  · exact Cells.framed _ _ _
  · exact RowA.framed _ _ _ _ _
def WA (bw : Nat) (l : List UInt8) : Asrt := fun w F => ∃ v, Star (WrR bw v l) w F
theorem WA.framed (bw : Nat) (l : List UInt8) : Framed (WA bw l) := by
  refine ⟨?_, ?_⟩
  · rintro w w' F ⟨v, h⟩ hk; exact ⟨v, (Framed.star WrR.framed).keep h hk⟩
  · rintro w F ⟨v, h⟩; exact (Framed.star WrR.framed).lt h
def beTo (n width i : Nat) : List UInt8 := (List.range i).map (fun j => UInt8.ofNat (n / 256 ^ (width - 1 - j)))
def be (n width : Nat) : List UInt8 := beTo n width width
theorem beTo_length (n width i : Nat) : (beTo n width i).length = i := by simp [beTo]
theorem beTo_succ (n width i : Nat) : beTo n width (i + 1) = beTo n width i ++ [UInt8.ofNat (n / 256 ^ (width - 1 - i))] := by simp [beTo, List.range_succ]
theorem infoByte : (Tryz.prog.info? 5).map (fun i => (i.zero.map (fun z => z.cells.size), i.size, i.bytes)) = some (some 1, 1, 1) := by kernel_rfl
def WPutRel (bw : Nat) (l : List UInt8) (n width : Nat) (w : World) (F : List Nat) (k : Value) (wr : World) : Prop :=
  ∃ (i : Nat) (v : Value), k = .int .i64 i ∧ i ≤ width ∧ In F w wr (WrR bw v (l ++ beTo n width i))
theorem pow_256 (s : Nat) : (2 : Int) ^ (8 * s) = ((256 ^ s : Nat) : Int) := by
  rw [Int.pow_mul]; simp
theorem byte_eq (n s : Nat) : IntKind.u8.wrap ((n : Int) / 2 ^ (8 * s)) = ((UInt8.ofNat (n / 256 ^ s)).toNat : Int) := by
  rw [pow_256, ← Int.natCast_ediv]
  show ((n / 256 ^ s : Nat) : Int) % 256 = _
  simp
theorem wput {w : World} {bw : Nat} {l : List UInt8} {F : List Nat} (h : WA bw l w F) (hl : l.length ≤ 1000000) (n width : Nat) (hn : n < 18446744073709551616) (hw1 : width ≤ 8) :
    Calls Tryz.prog 136 #[.pointer (some ⟨bw, 0, none⟩), .int .u64 n, .int .i64 width] w (GV (.tuple #[]) (WA bw (l ++ be n width)) w F) := by
  obtain ⟨v, h⟩ := h
  have HS : Hid (WPutRel bw l n width w F (.int .i64 0) w) := Lib.hid ⟨0, v, rfl, Nat.zero_le _, by simpa [beTo] using In.start WrR.framed h⟩
  clear h
  go_enter Tryz.func136, Tryz.ntmps136
  go_wp2_with fail
  go_loopw [10] (WPutRel bw l n width w F) (fun k _ => width - (intOf k).toNat)
  case atStart => exact HS.out
  case round =>
    obtain ⟨i, v, rfl, hi, ho⟩ := hrel
    clear HS
    by_cases hlt : i < width
    · have hlt' : (i : Int) < (width : Int) := by omega
      obtain ⟨Fr, hr⟩ := ho.get 1 rfl
      obtain ⟨a, cap, rfl, -, -, -⟩ := hr.shape
      have hlen : (l ++ beTo n width i).length ≤ 1000008 := by rw [List.length_append, beTo_length]; omega
      have HR : Hid (∀ v wz, In F w wz (WrR bw v (l ++ beTo n width i ++ [UInt8.ofNat (n / 256 ^ (width - 1 - i))])) → WPutRel bw l n width w F (.int .i64 (i + 1)) wz) :=
        Lib.hid fun v wz hz => ⟨i + 1, v, by congr 1, by omega, by rw [beTo_succ, ← List.append_assoc]; exact hz⟩
      generalize l ++ beTo n width i = m at *
      have HO := Lib.hid ho
      have c0 : wr.cell? ⟨bw, 0, none⟩ = some (.slice a m.length cap) := cell_of (ho.block 0 rfl) rfl
      have c1 : ∀ o, (wr.alloc o).cell? ⟨bw, 0, none⟩ = some (.slice a m.length cap) := fun o => cell_of ((ho.alloc o).block 0 rfl) rfl
      have e1 : IntKind.i64.wrap ((width : Int) - 1) = (width : Int) - 1 := by rw [IntKind.wrap_i64]; omega
      have e2 : IntKind.i64.wrap ((width : Int) - 1 - (i : Int)) = (width : Int) - 1 - (i : Int) := by rw [IntKind.wrap_i64]; omega
      have e3 : IntKind.i64.wrap (8 * ((width : Int) - 1 - (i : Int))) = 8 * ((width : Int) - 1 - (i : Int)) := by rw [IntKind.wrap_i64]; omega
      have e4 : (8 * ((width : Int) - 1 - (i : Int))).toNat = 8 * (width - 1 - i) := by omega
      have b1 : (0 : Int) ≤ 8 * ((width : Int) - 1 - (i : Int)) := by omega
      have b2 : 8 * ((width : Int) - 1 - (i : Int)) ≤ 64 := by omega
      clear ho hr hlt
      go_wp2_with fail
      go_region_law
        (first
          | (refine app_step rfl (R := Cells _ _ 5 :: WrR bw (.slice a m.length cap) m) (by exact (HO.out.drewN 1).cells _ _) 2 rfl (.tmp 17) (.tmp 26) 35 (by rfl) Tryz.underlying35 infoByte (by decide) (by decide) (by rfl) (by rfl) (by exact Src.of_block (((HO.out.drewN 1).cells _ _).block 0 rfl) rfl) (fun u hu => by simp at hu; subst hu; rfl) (by omega) ?_
             intro v1 w3 ho1 hg1
             have hc1 : w3.cell? ⟨bw, 0, none⟩ = some (.slice a m.length cap) := cell_of (ho1.block 1 rfl) rfl
             have hf1 : w3.frozen? ⟨bw, 0, none⟩ = false := free_of (ho1.block 1 rfl)
             obtain ⟨F1, hr1⟩ := ho1.get 2 rfl
             obtain ⟨a1, cap1, rfl, -, -, -⟩ := hr1.shape
             clear hr1
             have H1 := Lib.hid ho1
             clear ho1 hg1))
      all_goals
        have HE : Hid (WPutRel bw l n width w F (.int .i64 (i + 1)) (w3.setCell ⟨bw, 0, none⟩ (.slice a1 (m.length + 1) cap1))) := by
          have h2 := (H1.out.put 1 rfl 0 (.slice a1 (m.length + 1) cap1)).sel [1, 2] (by decide) rfl
          refine Lib.hid (HR.out (.slice a1 (m.length + 1) cap1) _ ?_)
          unfold WrR
          rw [← u8s_append, List.length_append]
          have e : (IntKind.u8.wrap ((n : Int) / 2 ^ (8 * (width - 1 - i)))) = ((UInt8.ofNat (n / 256 ^ (width - 1 - i))).toNat : Int) := byte_eq n _
          rw [e] at h2
          exact h2
        clear e1 e2 e3 e4
        go_wp2_with fail
        go_roundw
        case rel => exact HE.out
        case measure => simp [intOf]; omega
    · have hge : (width : Int) ≤ (i : Int) := by omega
      have hil : i = width := by omega
      subst hil
      have HG : Hid (GV (.tuple #[]) (WA bw (l ++ be n i)) w F (.returned (.tuple #[])) wr) := Lib.hid (GV.mk ho (fun F' hs => ⟨v, hs⟩))
      clear ho hlt
      go_wp2_with fail
      go_end0
      exact HG.out
def u64 (n : Int) : Nat := (n % 18446744073709551616).toNat
theorem u64_eq (n : Int) : IntKind.u64.wrap n = ((u64 n : Nat) : Int) := by
  have : IntKind.u64.wrap n = n % 18446744073709551616 := by simp [IntKind.wrap, IntKind.bits, IntKind.signed]
  rw [this]; unfold u64; omega
theorem u64_lt (n : Int) : u64 n < 18446744073709551616 := by unfold u64; omega
theorem u64_nat {n : Int} (h0 : 0 ≤ n) (h1 : n < 18446744073709551616) : ((u64 n : Nat) : Int) = n := by unfold u64; omega
section
variable {F0 : List Nat} {w0 w : World} {R : List Asrt} {bw : Nat} {l : List UInt8}
theorem o_wput (h : In F0 w0 w R) (i : Nat) (hA : R[i]? = some (WA bw l)) (hl : l.length ≤ 1000000) (n width : Nat) (hn : n < 18446744073709551616) (hw1 : width ≤ 8) :
    Calls Tryz.prog 136 #[.pointer (some ⟨bw, 0, none⟩), .int .u64 n, .int .i64 width] w fun e w' => e = .returned (.tuple #[]) ∧ In F0 w0 w' (R.set i (WA bw (l ++ be n width))) :=
  own_val h i hA (WA.framed _ _) fun F hF => wput hF hl n width hn hw1
theorem o_wu8 (h : In F0 w0 w R) (i : Nat) (hA : R[i]? = some (WA bw l)) (hl : l.length ≤ 1000000) (n : Int) :
    Calls Tryz.prog 117 #[.pointer (some ⟨bw, 0, none⟩), .int .i64 n] w fun e w' => e = .returned (.tuple #[]) ∧ In F0 w0 w' (R.set i (WA bw (l ++ be (u64 n) 1))) := by
  have c := Lib.hid (o_wput h i hA hl (u64 n) 1 (u64_lt n) (by omega))
  rw [← u64_eq] at c
  clear h hA hl
  go_enter Tryz.func117, Tryz.ntmps117
  go_wp2_with fail
  refine c.out.mono ?_
  rintro e w1 ⟨rfl, ho⟩
  have HO := Lib.hid ho
  clear ho c
  go_wp2_with fail
  go_end0
  exact ⟨rfl, HO.out⟩
theorem o_wu16 (h : In F0 w0 w R) (i : Nat) (hA : R[i]? = some (WA bw l)) (hl : l.length ≤ 1000000) (n : Int) :
    Calls Tryz.prog 118 #[.pointer (some ⟨bw, 0, none⟩), .int .i64 n] w fun e w' => e = .returned (.tuple #[]) ∧ In F0 w0 w' (R.set i (WA bw (l ++ be (u64 n) 2))) := by
  have c := Lib.hid (o_wput h i hA hl (u64 n) 2 (u64_lt n) (by omega))
  rw [← u64_eq] at c
  clear h hA hl
  go_enter Tryz.func118, Tryz.ntmps118
  go_wp2_with fail
  refine c.out.mono ?_
  rintro e w1 ⟨rfl, ho⟩
  have HO := Lib.hid ho
  clear ho c
  go_wp2_with fail
  go_end0
  exact ⟨rfl, HO.out⟩
theorem o_wu32 (h : In F0 w0 w R) (i : Nat) (hA : R[i]? = some (WA bw l)) (hl : l.length ≤ 1000000) {n : Int} (h0 : 0 ≤ n) (h1 : n < 4294967296) :
    Calls Tryz.prog 102 #[.pointer (some ⟨bw, 0, none⟩), .int .u32 n] w fun e w' => e = .returned (.tuple #[]) ∧ In F0 w0 w' (R.set i (WA bw (l ++ be (u64 n) 4))) := by
  have c := Lib.hid (o_wput h i hA hl (u64 n) 4 (u64_lt n) (by omega))
  rw [u64_nat h0 (by omega)] at c
  clear h hA hl
  go_enter Tryz.func102, Tryz.ntmps102
  go_wp2_with fail
  refine c.out.mono ?_
  rintro e w1 ⟨rfl, ho⟩
  have HO := Lib.hid ho
  clear ho c
  go_wp2_with fail
  go_end0
  exact ⟨rfl, HO.out⟩
theorem In.row0 (h : In F0 w0 w R) (i : Nat) {g : Nat} {T : TypeId} {k : Nat} (hA : R[i]? = some (Cells g #[] T)) : In F0 w0 w (R.set i (RowA T k (.slice (some ⟨g, 0, none⟩) 0 0) 0 [])) :=
  h.imp i hA (RowA.framed _ _ _ _ _) fun F hF => ⟨by rw [hF.1]; simp [Value.ownBlock], by simp, Or.inr ⟨g, 0, #[], rfl, Nat.zero_le _, hF.2, Nat.le_refl _, by unfold maxLen; omega, by simp, by simp⟩⟩
theorem clone_some (h : In F0 w0 w R) {ad : Addr} {n c : Nat} (hs : Src w (some ad) n 1 (u8s l)) (hn : n ≤ 100000000) :
    Calls Tryz.prog 115 #[.slice (some ad) n c] w fun e w' => ∃ v, e = .returned v ∧ In F0 w0 w' (RowA 5 1 v n (u8s l) :: R) := by
  have HH := Lib.hid h
  have HS := Lib.hid hs
  clear h hs
  have hq : ∀ (w : World) (a : Option Addr) (n c n' c' : Nat), (binOp .eql 35 (.slice a n c) (.slice none n' c')).run Tryz.prog w = .ok (.bool a.isNone) w := fun w a n c n' c' => Lib.run_eql_slice_nil w _ _ a n c n' c' Tryz.underlying35
  go_enter Tryz.func115, Tryz.ntmps115
  go_wp2_with (at_builtin; refine app_list rfl ((HH.out.cells #[] 5).row0 (k := 1) 0 rfl) 0 rfl (.tmp 5) (.tmp 6) 35 (by rfl) Tryz.underlying35 infoByte (by decide) (by decide) (by rfl) (by rfl) (src_alloc HS.out _) (u8s_one _) (by omega) ?_)
  intro v' w3 ho hg
  have HO := Lib.hid ho
  clear ho hg
  go_wp2_with fail
  go_ret
  exact ⟨_, rfl, HO.out⟩
theorem clone_none (h : In F0 w0 w R) : Calls Tryz.prog 115 #[.slice none 0 0] w fun e w' => ∃ v, e = .returned v ∧ In F0 w0 w' (RowA 5 1 v 0 (u8s []) :: R) := by
  have HH := Lib.hid (h.rownil 5 1)
  clear h
  have hq : ∀ (w : World) (a : Option Addr) (n c n' c' : Nat), (binOp .eql 35 (.slice a n c) (.slice none n' c')).run Tryz.prog w = .ok (.bool a.isNone) w := fun w a n c n' c' => Lib.run_eql_slice_nil w _ _ a n c n' c' Tryz.underlying35
  go_enter Tryz.func115, Tryz.ntmps115
  go_wp2_with fail
  go_ret
  exact ⟨_, rfl, HH.out⟩
theorem WA.read {F : List Nat} (h : WA bw l w F) : ∃ v, w.heap[bw]? = some (.cells #[v] 167 (0, 0)) ∧ ((v = .slice none 0 0 ∧ l = []) ∨ ∃ g cap, v = .slice (some ⟨g, 0, none⟩) l.length cap ∧ Src w (some ⟨g, 0, none⟩) l.length 1 (u8s l)) := by
  obtain ⟨v, F1, F2, h1, ⟨F3, F4, h3, _⟩, _⟩ := h
  refine ⟨v, h1.2, ?_⟩
  obtain ⟨a, cap, rfl, -, -, -⟩ := h3.shape
  have hs := h3.all
  obtain ⟨_, _, h4 | ⟨g, c, cur, e, _⟩⟩ := h3
  · left; exact ⟨h4.1, List.length_eq_zero_iff.1 h4.2⟩
  · right; cases e; exact ⟨g, cap, rfl, hs⟩
theorem o_wbytes (h : In F0 w0 w R) (i : Nat) (hA : R[i]? = some (WA bw l)) (hl : l.length ≤ 1000000) :
    Calls Tryz.prog 104 #[.pointer (some ⟨bw, 0, none⟩)] w fun e w' => ∃ v, e = .returned v ∧ In F0 w0 w' (RowA 5 1 v l.length (u8s l) :: R) := by
  obtain ⟨F, hF⟩ := h.get i hA
  obtain ⟨v, hb, hv⟩ := hF.read
  have c0 : w.cell? ⟨bw, 0, none⟩ = some v := cell_of hb rfl
  rcases hv with ⟨rfl, rfl⟩ | ⟨g, cap, rfl, hs⟩
  · have C := Lib.hid (clone_none h)
    clear h hF hb hA
    go_enter Tryz.func104, Tryz.ntmps104
    go_wp2_with fail
    refine C.out.mono ?_
    rintro e w1 ⟨v, rfl, ho⟩
    have HO := Lib.hid ho
    clear ho C
    go_wp2_with fail
    go_ret
    exact ⟨_, rfl, HO.out⟩
  · have C := Lib.hid (clone_some (c := cap) h hs (by omega))
    clear h hF hb hA hs
    go_enter Tryz.func104, Tryz.ntmps104
    go_wp2_with fail
    refine C.out.mono ?_
    rintro e w1 ⟨v, rfl, ho⟩
    have HO := Lib.hid ho
    clear ho C
    go_wp2_with fail
    go_ret
    exact ⟨_, rfl, HO.out⟩
theorem fold_bytes_aux : ∀ (l : List UInt8) (s : ByteArray), (l.map (fun b => (b.toNat : Int))).foldl (fun r n => r.push (UInt8.ofNat n.toNat)) s = ⟨s.data ++ l.toArray⟩
  | [], s => by simp
  | b :: r, s => by
    rw [List.map_cons, List.foldl_cons, fold_bytes_aux r]
    congr 1
    have : UInt8.ofNat ((b.toNat : Int)).toNat = b := by simp
    rw [this]
    show s.data.push b ++ r.toArray = _
    simp
theorem fold_bytes (l : List UInt8) : (l.map (fun b => (b.toNat : Int))).foldl (fun r n => r.push (UInt8.ofNat n.toNat)) ByteArray.empty = ⟨l.toArray⟩ := by
  rw [fold_bytes_aux]
  congr 1
  simp
theorem conv_str {a : Option Addr} {n cap : Nat} (hs : Src w a n 1 (u8s l)) (ha : a = none → n = 0) :
    (convert 35 9 (.slice a n cap)).run Tryz.prog w = .ok (.string ⟨l.toArray⟩) w := by
  have hl : l.length = n := by have := hs.len; rw [u8s_length] at this; omega
  rw [run_convert_bytes_string w 35 9 5 _ _ _ Tryz.underlying35 Tryz.underlying5 Tryz.underlying9]
  cases a with
  | none =>
    have h0 := ha rfl
    subst h0
    have : l = [] := List.length_eq_zero_iff.1 hl
    subst this
    simp [Conv.bytesToString]
    rfl
  | some ad =>
    rw [run_bytesToString w ad n cap (l.map (fun b => (b.toNat : Int)))]
    · rw [fold_bytes]
    · have e : (l.map (fun b => (b.toNat : Int))).map (Value.int .u8) = u8s l := by simp [u8s]
      rw [e, ← hl, ← u8s_length l]
      refine run_loadCells_list (P := Tryz.prog) w ad (u8s l) (fun j v hv => ?_)
      have h0 : 0 < n := by
        have := (List.getElem?_eq_some_iff.1 hv).1
        rw [u8s_length] at this; omega
      obtain ⟨ad', e', hc⟩ := hs.at' h0
      cases e'
      exact hc j v hv
end
def crcBit (c : Nat) : Nat := if c % 2 = 1 then (c / 2) ^^^ 0x82f63b78 else c / 2
def crcBits : Nat → Nat → Nat
  | 0, c => c
  | n + 1, c => crcBits n (crcBit c)
def crcByte (c : Nat) (x : UInt8) : Nat := crcBits 8 (c ^^^ x.toNat)
def crcFrom (c : Nat) (b : List UInt8) : Nat := b.foldl crcByte c
def crc (b : List UInt8) : Nat := (crcFrom 0xffffffff b) ^^^ 0xffffffff
theorem xor_lt32 {a b : Nat} (ha : a < 4294967296) (hb : b < 4294967296) : a ^^^ b < 4294967296 :=
  Nat.xor_lt_two_pow (n := 32) ha hb
def num (b : List UInt8) : Nat := b.foldl (fun n x => n * 256 + x.toNat) 0
theorem num_snoc (b : List UInt8) (x : UInt8) : num (b ++ [x]) = num b * 256 + x.toNat := by simp [num]
theorem num_lt : ∀ (b : List UInt8), num b < 256 ^ b.length := by
  intro b
  suffices h : ∀ (l : List UInt8) (a : Nat), l.foldl (fun n x => n * 256 + x.toNat) a < (a + 1) * 256 ^ l.length by
    have := h b 0; simpa [num] using this
  intro l
  induction l with
  | nil => intro a; simp
  | cons x r ih =>
    intro a
    have := ih (a * 256 + x.toNat)
    have hx := x.toNat_lt
    rw [List.foldl_cons, List.length_cons, Nat.pow_succ]
    refine Nat.lt_of_lt_of_le this ?_
    rw [Nat.mul_comm (256 ^ r.length), ← Nat.mul_assoc]
    exact Nat.mul_le_mul_right _ (by omega)
theorem be_length (n width : Nat) : (be n width).length = width := beTo_length _ _ _
structure FrD where
  kind : Nat
  ver : Nat
  body : List UInt8
deriving DecidableEq, Inhabited
def mark : List UInt8 := [103, 111, 105, 116]
def frHead (k v n : Nat) : List UInt8 := mark ++ be k 1 ++ be v 1 ++ be n 2
def frBytes (f : FrD) : List UInt8 := frHead f.kind f.ver f.body.length ++ be (crc (frHead f.kind f.ver f.body.length)) 4 ++ be (crc f.body) 4 ++ f.body
structure FrOk (f : FrD) : Prop where
  kind : f.kind < 256
  ver : f.ver < 256
  body : f.body.length ≤ 4096
def zeroFr : FrD := ⟨0, 0, []⟩
def frTake (b : List UInt8) : FrD × Nat × Int :=
  if b.length < 16 then (zeroFr, 0, 2)
  else if b.take 4 ≠ mark then (zeroFr, 0, 3)
  else if num ((b.drop 8).take 4) ≠ crc (b.take 8) then (zeroFr, 0, 5)
  else if 4096 < num ((b.drop 6).take 2) then (zeroFr, 0, 4)
  else if b.length - 16 < num ((b.drop 6).take 2) then (zeroFr, 0, 2)
  else if num ((b.drop 12).take 4) ≠ crc ((b.drop 16).take (num ((b.drop 6).take 2))) then (zeroFr, 0, 5)
  else (⟨num ((b.drop 4).take 1), num ((b.drop 5).take 1), (b.drop 16).take (num ((b.drop 6).take 2))⟩, 16 + num ((b.drop 6).take 2), 0)
def frScanN : Nat → List UInt8 → List FrD × Nat × Int
  | 0, _ => ([], 0, 0)
  | n + 1, b => if b = [] then ([], 0, 0) else
    if (frTake b).2.2 = 0 then
      ((frTake b).1 :: (frScanN n (b.drop (frTake b).2.1)).1, (frTake b).2.1 + (frScanN n (b.drop (frTake b).2.1)).2.1, (frScanN n (b.drop (frTake b).2.1)).2.2)
    else ([], 0, (frTake b).2.2)
def frScan (b : List UInt8) : List FrD × Nat × Int := frScanN b.length b
def frJoin (l : List FrD) : List UInt8 := (l.map frBytes).flatten
def putErr (kind ver : Int) (n : Nat) : Int := if kind < 0 ∨ 255 < kind ∨ ver < 0 ∨ 255 < ver then 1 else if 4096 < n then 4 else 0
def putB (kind ver : Int) (body : List UInt8) : List UInt8 := if putErr kind ver body.length = 0 then frBytes ⟨kind.toNat, ver.toNat, body⟩ else []
def foldN (s : Nat) : Nat := if s = 0 then 0 else (s - 1) % 65535 + 1
theorem foldN_le (s : Nat) : foldN s ≤ 65535 := by unfold foldN; split <;> omega
theorem foldN_id {s : Nat} (h : s ≤ 65535) : foldN s = s := by unfold foldN; split <;> omega
theorem foldN_step (s : Nat) : foldN (s / 65536 + s % 65536) = foldN s := by
  unfold foldN
  by_cases h : s = 0
  · subst h; rfl
  · rw [if_neg h, if_neg (by omega)]
    omega
theorem foldN_pos {s : Nat} (h : s ≠ 0) : foldN s = (s - 1) % 65535 + 1 := by unfold foldN; rw [if_neg h]
theorem foldN_add (a b : Nat) : foldN (foldN a + b) = foldN (a + b) := by
  by_cases ha : a = 0
  · subst ha; rfl
  · rw [foldN_pos ha, foldN_pos (by omega), foldN_pos (by omega)]; omega
def words : List UInt8 → Nat
  | [] => 0
  | [x] => x.toNat * 256
  | x :: y :: r => x.toNat * 256 + y.toNat + words r
theorem words_app : ∀ (a b : List UInt8), a.length % 2 = 0 → words (a ++ b) = words a + words b
  | [], b, _ => by simp [words]
  | [x], b, h => by simp at h
  | x :: y :: r, b, h => by
    have := words_app r b (by simp at h; omega)
    simp only [List.cons_append, words, this]; omega
theorem words_take2 {b : List UInt8} {i : Nat} (hi : i % 2 = 0) {x y : UInt8} (hx : b[i]? = some x) (hy : b[i + 1]? = some y) : words (b.take (i + 2)) = words (b.take i) + (x.toNat * 256 + y.toNat) := by
  have hl := (List.getElem?_eq_some_iff.1 hy).1
  have e : b.take (i + 2) = b.take i ++ [x, y] := by
    rw [show i + 2 = (i + 1) + 1 by omega, List.take_add_one, List.take_add_one, hx, hy]; simp
  rw [e, words_app _ _ (by rw [List.length_take]; omega)]
  simp [words]
theorem words_take1 {b : List UInt8} {i : Nat} (hi : i % 2 = 0) {x : UInt8} (hx : b[i]? = some x) (hl : b.length = i + 1) : words (b.take (i + 2)) = words (b.take i) + x.toNat * 256 := by
  have e : b.take (i + 2) = b.take i ++ [x] := by
    rw [show i + 2 = (i + 1) + 1 by omega, List.take_add_one, List.take_add_one, hx, List.getElem?_eq_none (by omega)]; simp
  rw [e, words_app _ _ (by rw [List.length_take]; omega)]
  simp [words]
def netN (b : List UInt8) : Nat := 65535 - foldN (words b)
theorem netN_lt (b : List UInt8) : netN b < 65536 := by unfold netN; omega
def fixN (sum old now : Nat) : Nat := 65535 - foldN ((65535 - sum) + (65535 - old) + now)
theorem fixN_lt (a b c : Nat) : fixN a b c < 65536 := by unfold fixN; omega
def mixStep (c : Nat) (x : UInt8) : Nat := (c ^^^ x.toNat) * 16777619 % 4294967296
theorem mixStep_lt (c : Nat) (x : UInt8) : mixStep c x < 4294967296 := Nat.mod_lt _ (by omega)
def mixFrom (c : Nat) (b : List UInt8) : Nat := b.foldl mixStep c
theorem mixFrom_snoc (c : Nat) (b : List UInt8) (x : UInt8) : mixFrom c (b ++ [x]) = mixStep (mixFrom c b) x := by
  unfold mixFrom; rw [List.foldl_append, List.foldl_cons, List.foldl_nil]
theorem mixFrom_lt : ∀ (b : List UInt8) {c : Nat}, c < 4294967296 → mixFrom c b < 4294967296
  | [], _, h => h
  | x :: r, c, h => mixFrom_lt r (c := mixStep c x) (mixStep_lt c x)
def mixEnd (c : Nat) : Nat := (c ^^^ c / 32768) * 2246822507 % 4294967296
def mixN (seed : Nat) (b : List UInt8) : Nat := mixEnd (mixFrom (seed ^^^ 2166136261) b) ^^^ mixEnd (mixFrom (seed ^^^ 2166136261) b) / 8192
theorem mixEnd_lt (c : Nat) : mixEnd c < 4294967296 := Nat.mod_lt _ (by omega)
theorem mixN_lt (seed : Nat) (b : List UInt8) : mixN seed b < 4294967296 := xor_lt32 (mixEnd_lt _) (by have := mixEnd_lt (mixFrom (seed ^^^ 2166136261) b); omega)
structure Tup where
  src : Int
  dst : Int
  proto : Int
  sport : Int
  dport : Int
deriving DecidableEq
instance : Inhabited Tup := ⟨⟨0, 0, 0, 0, 0⟩⟩
structure Fl where
  t : Tup
  bk : Int
  gen : Int
  seen : Int
deriving DecidableEq
instance : Inhabited Fl := ⟨⟨default, 0, 0, 0⟩⟩
abbrev encT (t : Tup) : Array Value := #[.int .u32 t.src, .int .u32 t.dst, .int .i64 t.proto, .int .i64 t.sport, .int .i64 t.dport]
abbrev encF (f : Fl) : Array Value := #[.int .u32 f.t.src, .int .u32 f.t.dst, .int .i64 f.t.proto, .int .i64 f.t.sport, .int .i64 f.t.dport, .int .i64 f.bk, .int .i64 f.gen, .int .i64 f.seen]
structure WfT (t : Tup) : Prop where
  s0 : 0 ≤ t.src
  s1 : t.src < 4294967296
  d0 : 0 ≤ t.dst
  d1 : t.dst < 4294967296
  p0 : -9223372036854775808 ≤ t.proto
  p1 : t.proto ≤ 9223372036854775807
  sp0 : -9223372036854775808 ≤ t.sport
  sp1 : t.sport ≤ 9223372036854775807
  dp0 : -9223372036854775808 ≤ t.dport
  dp1 : t.dport ≤ 9223372036854775807
structure MayT (t : Tup) : Prop where
  proto : t.proto = 6 ∨ t.proto = 17
  sp0 : 0 ≤ t.sport
  sp1 : t.sport ≤ 65535
  dp0 : 0 ≤ t.dport
  dp1 : t.dport ≤ 65535
structure MayF (f : Fl) : Prop where
  t : MayT f.t
  b0 : 0 ≤ f.bk
  b1 : f.bk ≤ 65535
  g0 : 0 ≤ f.gen
  g1 : f.gen ≤ 1000000
  t0 : 0 ≤ f.seen
  t1 : f.seen ≤ 1099511627776
theorem mayT_iff (t : Tup) : MayT t ↔ (t.proto = 6 ∨ t.proto = 17) ∧ 0 ≤ t.sport ∧ t.sport ≤ 65535 ∧ 0 ≤ t.dport ∧ t.dport ≤ 65535 := ⟨fun h => ⟨h.1, h.2, h.3, h.4, h.5⟩, fun ⟨a, b, c, d, e⟩ => ⟨a, b, c, d, e⟩⟩
instance (t : Tup) : Decidable (MayT t) := decidable_of_iff _ (mayT_iff t).symm
theorem mayF_iff (f : Fl) : MayF f ↔ MayT f.t ∧ 0 ≤ f.bk ∧ f.bk ≤ 65535 ∧ 0 ≤ f.gen ∧ f.gen ≤ 1000000 ∧ 0 ≤ f.seen ∧ f.seen ≤ 1099511627776 := ⟨fun h => ⟨h.1, h.2, h.3, h.4, h.5, h.6, h.7⟩, fun ⟨a, b, c, d, e, f, g⟩ => ⟨a, b, c, d, e, f, g⟩⟩
instance (f : Fl) : Decidable (MayF f) := decidable_of_iff _ (mayF_iff f).symm
def keyL (t : Tup) : List UInt8 := be (u64 t.src) 4 ++ be (u64 t.dst) 4 ++ be (u64 t.proto) 1 ++ be (u64 t.sport) 2 ++ be (u64 t.dport) 2
def keyT (t : Tup) : ByteArray := ⟨(keyL t).toArray⟩
theorem keyL_length (t : Tup) : (keyL t).length = 13 := by simp [keyL, be, beTo_length]
theorem keyT_size (t : Tup) : (keyT t).size ≤ maxLen := by
  have : (keyT t).size = (keyL t).length := rfl
  rw [this, keyL_length]; unfold maxLen; omega
def ltT (a b : Tup) : Bool :=
  decide (a.src < b.src) || (decide (a.src = b.src) && (decide (a.dst < b.dst) || (decide (a.dst = b.dst) && (decide (a.proto < b.proto) || (decide (a.proto = b.proto) && (decide (a.sport < b.sport) || (decide (a.sport = b.sport) && decide (a.dport < b.dport))))))))
theorem be_succ (n w : Nat) : be n (w + 1) = UInt8.ofNat (n / 256 ^ w) :: be n w := by
  unfold be beTo
  rw [List.range_succ_eq_map, List.map_cons, List.map_map]
  simp only [Nat.add_sub_cancel, Nat.sub_zero, List.cons.injEq, true_and]
  apply List.map_congr_left
  intro j hj
  have := List.mem_range.1 hj
  simp only [Function.comp]
  congr 3
  omega
theorem be_zero (n : Nat) : be n 0 = [] := rfl
theorem be_mod (n w : Nat) : ∀ v, v ≤ w → be (n % 256 ^ w) v = be n v
  | 0, _ => rfl
  | v + 1, h => by
    rw [be_succ, be_succ, be_mod n w v (by omega)]
    congr 1
    obtain ⟨k, rfl⟩ : ∃ k, w = v + 1 + k := ⟨w - (v + 1), by omega⟩
    have e : n % 256 ^ (v + 1 + k) / 256 ^ v = n / 256 ^ v % 256 ^ (1 + k) := by
      rw [show v + 1 + k = v + (1 + k) by omega, Nat.pow_add, Nat.mod_mul_right_div_self]
    rw [e]
    apply UInt8.toNat_inj.1
    simp only [UInt8.toNat_ofNat']
    rw [show (256 : Nat) ^ (1 + k) = 2 ^ 8 * 256 ^ k by rw [Nat.pow_add], Nat.mod_mul_right_mod]
theorem bl_append : ∀ {x x' : List UInt8} (y y' : List UInt8), x.length = x'.length → bl (x ++ y) (x' ++ y') = (bl x x' || (decide (x = x') && bl y y'))
  | [], [], y, y', _ => by simp [bl, Op.bytesLess]
  | a :: x, b :: x', y, y', h => by
    rw [List.cons_append, List.cons_append, bl_cons, bl_cons, bl_append y y' (by simpa using h)]
    by_cases h1 : a = b
    · subst h1; simp
    · have h2 : (a == b) = false := by simpa using h1
      simp [h1, h2]
theorem be_lt : ∀ (w : Nat) {n m : Nat}, n < 256 ^ w → m < 256 ^ w → bl (be n w) (be m w) = decide (n < m)
  | 0, n, m, hn, hm => by
    simp at hn hm; subst hn; subst hm; simp [be_zero, bl, Op.bytesLess]
  | w + 1, n, m, hn, hm => by
    rw [be_succ, be_succ, bl_cons]
    have hp : 0 < 256 ^ w := Nat.pos_of_ne_zero (by simp)
    have h1 : n / 256 ^ w < 256 := by rw [Nat.div_lt_iff_lt_mul hp, Nat.mul_comm, ← Nat.pow_succ]; exact hn
    have h2 : m / 256 ^ w < 256 := by rw [Nat.div_lt_iff_lt_mul hp, Nat.mul_comm, ← Nat.pow_succ]; exact hm
    have ih := be_lt w (Nat.mod_lt n hp) (Nat.mod_lt m hp)
    rw [be_mod n w w (Nat.le_refl _), be_mod m w w (Nat.le_refl _)] at ih
    rw [ih]
    have e1 : (UInt8.ofNat (n / 256 ^ w)).toNat = n / 256 ^ w := by simp; omega
    have e2 : (UInt8.ofNat (m / 256 ^ w)).toNat = m / 256 ^ w := by simp; omega
    have d1 := Nat.div_add_mod n (256 ^ w)
    have d2 := Nat.div_add_mod m (256 ^ w)
    have m1 := Nat.mod_lt n hp
    have m2 := Nat.mod_lt m hp
    rw [Bool.eq_iff_iff]
    simp only [Bool.or_eq_true, Bool.and_eq_true, decide_eq_true_eq, UInt8.lt_iff_toNat_lt, beq_iff_eq, e1, e2]
    generalize 256 ^ w = p at *
    generalize hA : n / p = A at *
    generalize hB : m / p = B at *
    constructor
    · rintro (h | ⟨h, h'⟩)
      · have : p * (A + 1) ≤ p * B := Nat.mul_le_mul_left _ h
        rw [Nat.mul_add, Nat.mul_one] at this
        omega
      · have h3 : A = B := by
          have := congrArg UInt8.toNat h; rw [e1, e2] at this; exact this
        subst h3; omega
    · intro h
      by_cases hc : A < B
      · exact Or.inl hc
      · right
        by_cases hd : A = B
        · subst hd; exact ⟨rfl, by omega⟩
        · have : p * (B + 1) ≤ p * A := Nat.mul_le_mul_left _ (by omega)
          rw [Nat.mul_add, Nat.mul_one] at this
          omega
theorem be_inj {w n m : Nat} (hn : n < 256 ^ w) (hm : m < 256 ^ w) (h : be n w = be m w) : n = m := by
  have h1 := be_lt w hn hm
  have h2 := be_lt w hm hn
  rw [h] at h1
  rw [← h] at h2
  have i1 : bl (be m w) (be m w) = false := bl_irrefl _
  rw [i1] at h1
  have i2 : bl (be n w) (be n w) = false := bl_irrefl _
  rw [h] at h2 i2
  rw [i2] at h2
  simp at h1 h2
  omega
theorem be_eq {w n m : Nat} (hn : n < 256 ^ w) (hm : m < 256 ^ w) : (be n w = be m w) ↔ n = m := ⟨be_inj hn hm, fun h => by rw [h]⟩
theorem u64_small {n : Int} (h0 : 0 ≤ n) {k : Nat} (h1 : n < k) (hk : k ≤ 18446744073709551616) : u64 n < k ∧ ((u64 n : Nat) : Int) = n := by
  have := u64_nat h0 (by omega)
  exact ⟨by omega, this⟩
theorem key_lt {a b : Tup} (wa : WfT a) (wb : WfT b) (ha : MayT a) (hb : MayT b) : bl (keyL a) (keyL b) = ltT a b := by
  obtain ⟨a1, a1'⟩ := u64_small (k := 256 ^ 4) wa.s0 wa.s1 (by decide)
  obtain ⟨b1, b1'⟩ := u64_small (k := 256 ^ 4) wb.s0 wb.s1 (by decide)
  obtain ⟨a2, a2'⟩ := u64_small (k := 256 ^ 4) wa.d0 wa.d1 (by decide)
  obtain ⟨b2, b2'⟩ := u64_small (k := 256 ^ 4) wb.d0 wb.d1 (by decide)
  obtain ⟨a3, a3'⟩ := u64_small (n := a.proto) (k := 256 ^ 1) (by have := ha.proto; omega) (by have := ha.proto; simp; omega) (by decide)
  obtain ⟨b3, b3'⟩ := u64_small (n := b.proto) (k := 256 ^ 1) (by have := hb.proto; omega) (by have := hb.proto; simp; omega) (by decide)
  obtain ⟨a4, a4'⟩ := u64_small (k := 256 ^ 2) ha.sp0 (by have := ha.sp1; simp; omega) (by decide)
  obtain ⟨b4, b4'⟩ := u64_small (k := 256 ^ 2) hb.sp0 (by have := hb.sp1; simp; omega) (by decide)
  obtain ⟨a5, a5'⟩ := u64_small (k := 256 ^ 2) ha.dp0 (by have := ha.dp1; simp; omega) (by decide)
  obtain ⟨b5, b5'⟩ := u64_small (k := 256 ^ 2) hb.dp0 (by have := hb.dp1; simp; omega) (by decide)
  unfold keyL ltT
  rw [← a1', ← b1', ← a2', ← b2', ← a3', ← b3', ← a4', ← b4', ← a5', ← b5']
  simp only [List.append_assoc]
  have hu : ∀ n : Nat, n < 18446744073709551616 → u64 (n : Int) = n := fun n hn => by unfold u64; omega
  rw [hu _ (u64_lt _), hu _ (u64_lt _), hu _ (u64_lt _), hu _ (u64_lt _), hu _ (u64_lt _), hu _ (u64_lt _), hu _ (u64_lt _), hu _ (u64_lt _), hu _ (u64_lt _), hu _ (u64_lt _)]
  rw [bl_append _ _ (by simp [be, beTo_length]), bl_append _ _ (by simp [be, beTo_length]), bl_append _ _ (by simp [be, beTo_length]), bl_append _ _ (by simp [be, beTo_length]),
    be_lt 4 a1 b1, be_lt 4 a2 b2, be_lt 1 a3 b3, be_lt 2 a4 b4, be_lt 2 a5 b5]
  simp only [be_eq a1 b1, be_eq a2 b2, be_eq a3 b3, be_eq a4 b4, Int.ofNat_lt, Int.natCast_inj]
theorem ltT_total {a b : Tup} (h1 : ltT a b = false) (h2 : ltT b a = false) : a = b := by
  obtain ⟨a1, a2, a3, a4, a5⟩ := a
  obtain ⟨b1, b2, b3, b4, b5⟩ := b
  simp only [ltT, Bool.or_eq_false_iff, Bool.and_eq_false_iff, decide_eq_false_iff_not] at h1 h2
  simp only [Tup.mk.injEq]
  omega
theorem ltT_irrefl (a : Tup) : ltT a a = false := by simp [ltT]
theorem ltT_trans {a b c : Tup} (h1 : ltT a b = true) (h2 : ltT b c = true) : ltT a c = true := by
  simp only [ltT, Bool.or_eq_true, Bool.and_eq_true, decide_eq_true_eq] at *
  omega
theorem keyT_inj {a b : Tup} (wa : WfT a) (wb : WfT b) (ha : MayT a) (hb : MayT b) (h : keyT a = keyT b) : a = b := by
  have hl : keyL a = keyL b := by
    have := congrArg (fun x : ByteArray => x.data.toList) h
    simpa [keyT] using this
  refine ltT_total ?_ ?_
  · rw [← key_lt wa wb ha hb, hl]; exact bl_irrefl _
  · rw [← key_lt wb wa hb ha, hl]; exact bl_irrefl _
theorem tmay_true {t : Tup} (h : MayT t) (w : World) : Calls Tryz.prog 77 #[.agg (encT t)] w fun e w' => e = .returned (.bool true) ∧ w' = w.alloc (.cells (encT t) 24) := by
  obtain ⟨h1, h2, h3, h4, h5⟩ := h
  by_cases hp : t.proto = 6
  · have hp' : (t.proto == 6) = true := by simpa using hp
    clear h1 hp
    go_enter Tryz.func77, Tryz.ntmps77
    go_wp2_with fail
    go_ret
    exact ⟨rfl, rfl⟩
  · have hp' : (t.proto == 6) = false := by simpa using hp
    have hq' : (t.proto == 17) = true := by have := h1; simp; omega
    clear h1 hp
    go_enter Tryz.func77, Tryz.ntmps77
    go_wp2_with fail
    go_ret
    exact ⟨rfl, rfl⟩
theorem tmay_false {t : Tup} (h : ¬ MayT t) (w : World) : Calls Tryz.prog 77 #[.agg (encT t)] w fun e w' => e = .returned (.bool false) ∧ w' = w.alloc (.cells (encT t) 24) := by
  rw [mayT_iff] at h
  have hb : ((t.proto == 6) = false ∧ (t.proto == 17) = false) ∨ (((t.proto == 6) = true ∨ ((t.proto == 6) = false ∧ (t.proto == 17) = true)) ∧ (decide (0 ≤ t.sport) = false ∨ (0 ≤ t.sport ∧ (decide (t.sport ≤ 65535) = false ∨ (t.sport ≤ 65535 ∧ (decide (0 ≤ t.dport) = false ∨ (0 ≤ t.dport ∧ decide (t.dport ≤ 65535) = false))))))) := by
    simp only [beq_eq_false_iff_ne, beq_iff_eq, decide_eq_false_iff_not]; omega
  clear h
  rcases hb with ⟨p1, p2⟩ | ⟨p, q⟩
  · go_enter Tryz.func77, Tryz.ntmps77
    go_wp2_with fail
    go_ret
    exact ⟨rfl, rfl⟩
  · rcases p with p | ⟨p, p2⟩ <;> rcases q with q | ⟨q, q2 | ⟨q2, q3 | ⟨q3, q4⟩⟩⟩
    all_goals
      go_enter Tryz.func77, Tryz.ntmps77
      go_wp2_with fail
      go_ret
      exact ⟨rfl, rfl⟩
theorem set_at {R : List Asrt} {i : Nat} (hi : i < R.length) {X A : Asrt} : (X :: R.set i A)[i + 1]? = some A := by simp [hi]
section
variable {F0 : List Nat} {w0 w : World} {R : List Asrt} {bw : Nat} {l : List UInt8}
theorem o_twrite (h : In F0 w0 w R) (i : Nat) (hA : R[i]? = some (WA bw l)) (hl : l.length ≤ 900000) {t : Tup} (ht : WfT t) :
    Calls Tryz.prog 112 #[.pointer (some ⟨bw, 0, none⟩), .agg (encT t)] w fun e w' => e = .returned (.tuple #[]) ∧ In F0 w0 w' (R.set i (WA bw (l ++ keyL t))) := by
  obtain ⟨s0, s1, d0, d1, -, -, -, -, -, -⟩ := ht
  have hR : (Cells w.heap.size (encT t) 24 :: R)[i + 1]? = some (WA bw l) := by simpa using hA
  have hi := (List.getElem?_eq_some_iff.1 hA).1
  have H0 := Lib.hid (h.cells (encT t) 24)
  have HA := Lib.hid hR
  have C1 : Hid (∀ w1, In F0 w0 w1 (Cells w.heap.size (encT t) 24 :: R) → Calls Tryz.prog 102 #[.pointer (some ⟨bw, 0, none⟩), .int .u32 t.src] w1 fun e w' => e = .returned (.tuple #[]) ∧ In F0 w0 w' (Cells w.heap.size (encT t) 24 :: R.set i (WA bw (l ++ be (u64 t.src) 4)))) :=
    Lib.hid fun w1 h1 => o_wu32 h1 (i + 1) HA.out (by omega) s0 s1
  have C2 : Hid (∀ w1, In F0 w0 w1 (Cells w.heap.size (encT t) 24 :: R.set i (WA bw (l ++ be (u64 t.src) 4))) → Calls Tryz.prog 102 #[.pointer (some ⟨bw, 0, none⟩), .int .u32 t.dst] w1 fun e w' => e = .returned (.tuple #[]) ∧ In F0 w0 w' (Cells w.heap.size (encT t) 24 :: R.set i (WA bw (l ++ be (u64 t.src) 4 ++ be (u64 t.dst) 4)))) :=
    Lib.hid fun w1 h1 => by
      have := o_wu32 (n := t.dst) h1 (i + 1) (set_at hi) (by simp [be, beTo_length]; omega) d0 d1
      simpa only [List.set_cons_succ, List.set_set] using this
  have C3 : Hid (∀ w1, In F0 w0 w1 (Cells w.heap.size (encT t) 24 :: R.set i (WA bw (l ++ be (u64 t.src) 4 ++ be (u64 t.dst) 4))) → Calls Tryz.prog 117 #[.pointer (some ⟨bw, 0, none⟩), .int .i64 t.proto] w1 fun e w' => e = .returned (.tuple #[]) ∧ In F0 w0 w' (Cells w.heap.size (encT t) 24 :: R.set i (WA bw (l ++ be (u64 t.src) 4 ++ be (u64 t.dst) 4 ++ be (u64 t.proto) 1)))) :=
    Lib.hid fun w1 h1 => by
      have := o_wu8 h1 (i + 1) (set_at hi) (by simp [be, beTo_length]; omega) t.proto
      simpa only [List.set_cons_succ, List.set_set] using this
  have C4 : Hid (∀ w1, In F0 w0 w1 (Cells w.heap.size (encT t) 24 :: R.set i (WA bw (l ++ be (u64 t.src) 4 ++ be (u64 t.dst) 4 ++ be (u64 t.proto) 1))) → Calls Tryz.prog 118 #[.pointer (some ⟨bw, 0, none⟩), .int .i64 t.sport] w1 fun e w' => e = .returned (.tuple #[]) ∧ In F0 w0 w' (Cells w.heap.size (encT t) 24 :: R.set i (WA bw (l ++ be (u64 t.src) 4 ++ be (u64 t.dst) 4 ++ be (u64 t.proto) 1 ++ be (u64 t.sport) 2)))) :=
    Lib.hid fun w1 h1 => by
      have := o_wu16 h1 (i + 1) (set_at hi) (by simp [be, beTo_length]; omega) t.sport
      simpa only [List.set_cons_succ, List.set_set] using this
  have C5 : Hid (∀ w1, In F0 w0 w1 (Cells w.heap.size (encT t) 24 :: R.set i (WA bw (l ++ be (u64 t.src) 4 ++ be (u64 t.dst) 4 ++ be (u64 t.proto) 1 ++ be (u64 t.sport) 2))) → Calls Tryz.prog 118 #[.pointer (some ⟨bw, 0, none⟩), .int .i64 t.dport] w1 fun e w' => e = .returned (.tuple #[]) ∧ In F0 w0 w' (R.set i (WA bw (l ++ keyL t)))) :=
    Lib.hid fun w1 h1 => by
      have := o_wu16 h1 (i + 1) (set_at hi) (by simp [be, beTo_length]; omega) t.dport
      refine this.mono fun e w' ⟨he, ho⟩ => ⟨he, ?_⟩
      rw [List.set_cons_succ, List.set_set] at ho
      have h2 := ho.drop
      unfold keyL
      simpa only [List.append_assoc] using h2
  clear h hA hR hl hi s0 s1 d0 d1
  go_enter Tryz.func112, Tryz.ntmps112
  go_wp2_with fail
  refine (C1.out _ H0.out).mono ?_
  rintro e w1 ⟨rfl, ho⟩
  have f1 : w1.cell? ⟨w.heap.size, 1, none⟩ = some (.int .u32 t.dst) := cell_of (ho.block 0 rfl) rfl
  have H1 := Lib.hid ho
  clear ho C1 H0
  go_wp2_with fail
  refine (C2.out _ H1.out).mono ?_
  rintro e w2 ⟨rfl, ho⟩
  have f2 : w2.cell? ⟨w.heap.size, 2, none⟩ = some (.int .i64 t.proto) := cell_of (ho.block 0 rfl) rfl
  have H2 := Lib.hid ho
  clear ho C2 H1 f1
  go_wp2_with fail
  refine (C3.out _ H2.out).mono ?_
  rintro e w3 ⟨rfl, ho⟩
  have f3 : w3.cell? ⟨w.heap.size, 3, none⟩ = some (.int .i64 t.sport) := cell_of (ho.block 0 rfl) rfl
  have H3 := Lib.hid ho
  clear ho C3 H2 f2
  go_wp2_with fail
  refine (C4.out _ H3.out).mono ?_
  rintro e w4 ⟨rfl, ho⟩
  have f4 : w4.cell? ⟨w.heap.size, 4, none⟩ = some (.int .i64 t.dport) := cell_of (ho.block 0 rfl) rfl
  have H4 := Lib.hid ho
  clear ho C4 H3 f3
  go_wp2_with fail
  refine (C5.out _ H4.out).mono ?_
  rintro e w5 ⟨rfl, ho⟩
  have H5 := Lib.hid ho
  clear ho C5 H4 f4
  go_wp2_with fail
  go_end0
  exact ⟨rfl, H5.out⟩
end
structure Hd where
  ihl : Int
  tos : Int
  len : Int
  id : Int
  flags : Int
  off : Int
  ttl : Int
  proto : Int
  sum : Int
  src : Int
  dst : Int
deriving DecidableEq, Inhabited
def zH : Hd := ⟨0, 0, 0, 0, 0, 0, 0, 0, 0, 0, 0⟩
def zT0 : Tup := ⟨0, 0, 0, 0, 0⟩
def encH (h : Hd) : Array Value := #[.int .i64 h.ihl, .int .i64 h.tos, .int .i64 h.len, .int .i64 h.id, .int .i64 h.flags, .int .i64 h.off, .int .i64 h.ttl, .int .i64 h.proto, .int .i64 h.sum, .int .u32 h.src, .int .u32 h.dst]
def byN (b : List UInt8) (i : Nat) : Nat := (b.getD i 0).toNat
def p16 (b : List UInt8) (i : Nat) : Nat := byN b i * 256 + byN b (i + 1)
def p32 (b : List UInt8) (i : Nat) : Nat := p16 b i * 65536 + p16 b (i + 2)
theorem byN_lt (b : List UInt8) (i : Nat) : byN b i < 256 := UInt8.toNat_lt _
theorem p16_lt (b : List UInt8) (i : Nat) : p16 b i < 65536 := by have := byN_lt b i; have := byN_lt b (i + 1); unfold p16; omega
theorem p32_lt (b : List UInt8) (i : Nat) : p32 b i < 4294967296 := by have := p16_lt b i; have := p16_lt b (i + 2); unfold p32; omega
theorem byN_get {b : List UInt8} {i : Nat} {x : UInt8} (h : b[i]? = some x) : byN b i = x.toNat := by unfold byN; rw [List.getD_eq_getElem?_getD, h]; rfl
theorem get_of_lt {b : List UInt8} {i : Nat} (h : i < b.length) : ∃ x, b[i]? = some x ∧ byN b i = x.toNat := ⟨b[i], List.getElem?_eq_getElem h, byN_get (List.getElem?_eq_getElem h)⟩
theorem u8s_get {b : List UInt8} {i : Nat} (h : i < b.length) : (u8s b)[i]? = some (.int .u8 (byN b i)) := by
  obtain ⟨x, hx, e⟩ := get_of_lt h
  rw [e]; simp [u8s, hx]
def readH (b : List UInt8) : Hd := ⟨((byN b 0 % 16 : Nat) : Int), byN b 1, p16 b 2, p16 b 4, ((p16 b 6 / 8192 : Nat) : Int), ((p16 b 6 % 8192 : Nat) : Int), byN b 8, byN b 9, p16 b 10, p32 b 12, p32 b 16⟩
def parseD (b : List UInt8) : Hd × List UInt8 × Int :=
  if b.length < 20 then (zH, [], 1)
  else if byN b 0 / 16 ≠ 4 then (zH, [], 2)
  else if byN b 0 % 16 < 5 then (zH, [], 3)
  else if b.length < 4 * (byN b 0 % 16) then (zH, [], 1)
  else if netN (b.take (4 * (byN b 0 % 16))) ≠ 0 then (zH, [], 4)
  else if p16 b 2 < 4 * (byN b 0 % 16) then (zH, [], 3)
  else if b.length < p16 b 2 then (zH, [], 5)
  else (readH b, (b.take (p16 b 2)).drop (4 * (byN b 0 % 16)), 0)
def headL (h : Hd) (check : Nat) : List UInt8 :=
  [69] ++ be (u64 h.tos) 1 ++ be (u64 h.len) 2 ++ be (u64 h.id) 2 ++ be (u64 (h.flags * 8192 + h.off)) 2 ++ be (u64 h.ttl) 1 ++ be (u64 h.proto) 1 ++ be check 2 ++ be (u64 h.src) 4 ++ be (u64 h.dst) 4
def buildD (h : Hd) : List UInt8 := headL h (netN (headL h 0))
theorem headL_length (h : Hd) (c : Nat) : (headL h c).length = 20 := by simp [headL, be, beTo_length]
theorem buildD_length (h : Hd) : (buildD h).length = 20 := headL_length _ _
def wholeH (h : Hd) : Bool := decide (h.flags % 2 = 0) && decide (h.off = 0)
def tcpOk (b : List UInt8) : Bool := decide (20 ≤ b.length) && (decide (5 ≤ byN b 12 / 16) && decide (4 * (byN b 12 / 16) ≤ b.length))
def udpOk (b : List UInt8) : Bool := decide (8 ≤ b.length) && (decide (8 ≤ p16 b 4) && decide (p16 b 4 ≤ b.length))
def withinOf : Hd × List UInt8 × Int → Tup × Hd × List UInt8 × Int
  | (h, rest, why) =>
    if why ≠ 0 then (zT0, zH, [], why)
    else if wholeH h = false then (zT0, zH, [], 6)
    else if h.proto = 6 then if tcpOk rest then (⟨h.src, h.dst, h.proto, p16 rest 0, p16 rest 2⟩, h, rest, 0) else (zT0, zH, [], 9)
    else if h.proto = 17 then if udpOk rest then (⟨h.src, h.dst, h.proto, p16 rest 0, p16 rest 2⟩, h, rest, 0) else (zT0, zH, [], 9)
    else (zT0, zH, [], 8)
def withinD (b : List UInt8) : Tup × Hd × List UInt8 × Int := withinOf (parseD b)
def endsOf (t : Tup) : Tup × Hd × List UInt8 × Int → Bool
  | (k, _, rest, why) => decide (why = 0) && (decide (k = t) && (decide (k.proto = 6) && decide (byN rest 13 &&& 5 ≠ 0)))
def endsD (t : Tup) (b : List UInt8) : Bool := endsOf t (withinD b)
def olderD (b : List UInt8) : List UInt8 :=
  let c := (b.set 8 (UInt8.ofNat (byN b 8 + 255)))
  let s := fixN (p16 b 10) (p16 b 8) (p16 c 8)
  (c.set 10 (UInt8.ofNat (s / 256))).set 11 (UInt8.ofNat s)
def outerH (h : Hd) (self to : Int) : Hd := ⟨0, h.tos, h.len + 20, h.id, h.flags / 2 * 2, 0, 64, 4, 0, self, to⟩
def wrapOf (b : List UInt8) (self to mtu : Int) : Hd × List UInt8 × Int → List UInt8 × Int
  | (h, _, why) =>
    if why ≠ 0 then ([], why)
    else if h.ttl ≤ 1 then ([], 7)
    else if min mtu 2000 < h.len + 20 then ([], 11)
    else (buildD (outerH h self to) ++ olderD (b.take h.len.toNat), 0)
def wrapD (b : List UInt8) (self to mtu : Int) : List UInt8 × Int := wrapOf b self to mtu (parseD b)
def innerL (k : Tup) (flags : Int) (body : List UInt8) : List UInt8 :=
  be (u64 k.sport) 2 ++ be (u64 k.dport) 2 ++ (if k.proto = 6 then [0, 0, 0, 0, 0, 0, 0, 0, 80, UInt8.ofNat (u64 flags), 0, 0, 0, 0, 0, 0] else be (8 + body.length) 2 ++ [0, 0]) ++ body
def madeH (k : Tup) (ttl : Int) (n : Nat) : Hd := ⟨0, 0, 20 + n, 0, 0, 0, ttl, k.proto, 0, k.src, k.dst⟩
def madeD (k : Tup) (ttl flags : Int) (body : List UInt8) : List UInt8 := buildD (madeH k ttl (innerL k flags body).length) ++ innerL k flags body
end Go.Proofs.YtgapbecddgfkmaaGreat
