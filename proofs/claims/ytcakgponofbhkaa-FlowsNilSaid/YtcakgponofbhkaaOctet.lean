/- Bytes put together: a writer in memory, and its calls. -/
import Derived.Test.YtcakgponofbhkaaChecked
import Derived.Test.YtcakgponofbhkaaSel
import Derived.Deep.RegionLaw
namespace Go.Proofs.Ytcakgponofbhkaa
open Go.RowKit
set_option linter.unusedVariables false
set_option maxRecDepth 100000

def u8s (l : List UInt8) : List Value := l.map (fun b => Value.int .u8 b.toNat)
theorem u8s_length (l : List UInt8) : (u8s l).length = l.length := List.length_map _
theorem u8s_append (l l' : List UInt8) : u8s l ++ u8s l' = u8s (l ++ l') := by simp [u8s]
theorem u8s_one (l : List UInt8) : ∀ u ∈ u8s l, u.oneCell' = true := by
  intro u hu
  obtain ⟨b, _, rfl⟩ := List.mem_map.1 hu
  rfl
def WrR (bw : Nat) (v : Value) (l : List UInt8) : List Asrt := [Cells bw #[v] 140, RowA 5 1 v l.length (u8s l)]
theorem WrR.framed {bw : Nat} {v : Value} {l : List UInt8} : ∀ A ∈ WrR bw v l, Framed A := by
  intro A hA
  simp only [WrR, List.mem_cons, List.not_mem_nil, or_false] at hA
  rcases hA with rfl | rfl
  · exact Cells.framed _ _ _
  · exact RowA.framed _ _ _ _ _
/-- The writer at bw has put l together. -/
def WA (bw : Nat) (l : List UInt8) : Asrt := fun w F => ∃ v, Star (WrR bw v l) w F
theorem WA.framed (bw : Nat) (l : List UInt8) : Framed (WA bw l) := by
  refine ⟨?_, ?_⟩
  · rintro w w' F ⟨v, h⟩ hk; exact ⟨v, (Framed.star WrR.framed).keep h hk⟩
  · rintro w F ⟨v, h⟩; exact (Framed.star WrR.framed).lt h

/-- The first i of so many bytes of a number, the highest first. -/
def beTo (n width i : Nat) : List UInt8 := (List.range i).map (fun j => UInt8.ofNat (n / 256 ^ (width - 1 - j)))
def be (n width : Nat) : List UInt8 := beTo n width width
theorem beTo_length (n width i : Nat) : (beTo n width i).length = i := by simp [beTo]
theorem beTo_succ (n width i : Nat) : beTo n width (i + 1) = beTo n width i ++ [UInt8.ofNat (n / 256 ^ (width - 1 - i))] := by simp [beTo, List.range_succ]
theorem infoByte : (Try.prog.info? 5).map (fun i => (i.zero.map (fun z => z.cells.size), i.size, i.bytes)) = some (some 1, 1, 1) := by kernel_rfl

def WPutRel (bw : Nat) (l : List UInt8) (n width : Nat) (w : World) (F : List Nat) (k : Value) (wr : World) : Prop :=
  ∃ (i : Nat) (v : Value), k = .int .i64 i ∧ i ≤ width ∧ In F w wr (WrR bw v (l ++ beTo n width i))
theorem pow_256 (s : Nat) : (2 : Int) ^ (8 * s) = ((256 ^ s : Nat) : Int) := by
  rw [Int.pow_mul]; simp
theorem byte_eq (n s : Nat) : IntKind.u8.wrap ((n : Int) / 2 ^ (8 * s)) = ((UInt8.ofNat (n / 256 ^ s)).toNat : Int) := by
  rw [pow_256, ← Int.natCast_ediv]
  show ((n / 256 ^ s : Nat) : Int) % 256 = _
  simp
set_option maxHeartbeats 4000000 in
theorem wput {w : World} {bw : Nat} {l : List UInt8} {F : List Nat} (h : WA bw l w F) (hl : l.length ≤ 1000000) (n width : Nat) (hn : n < 18446744073709551616) (hw1 : width ≤ 8) :
    Calls Try.prog 125 #[.pointer (some ⟨bw, 0, none⟩), .int .u64 n, .int .i64 width] w (GV (.tuple #[]) (WA bw (l ++ be n width)) w F) := by
  obtain ⟨v, h⟩ := h
  have HS : Hid (WPutRel bw l n width w F (.int .i64 0) w) := Lib.hid ⟨0, v, rfl, Nat.zero_le _, by simpa [beTo] using In.start WrR.framed h⟩
  clear h
  go_enter Try.func125, Try.ntmps125
  go_wp2_with fail
  go_loopw [10] (WPutRel bw l n width w F) (fun k _ => width - (intOf k).toNat)
  case atStart => exact HS.out
  case round =>
    obtain ⟨i, v, rfl, hi, ho⟩ := hrel
    clear HS
    by_cases hlt : i < width
    · have hlt' : (i : Int) < (width : Int) := by omega
      obtain ⟨Fr, hr⟩ := ho.get 1 rfl
      obtain ⟨a, cap, rfl, -, -, -⟩ := hr.shape
      have hlen : (l ++ beTo n width i).length ≤ 1000008 := by rw [List.length_append, beTo_length]; omega
      have HR : Hid (∀ v wz, In F w wz (WrR bw v (l ++ beTo n width i ++ [UInt8.ofNat (n / 256 ^ (width - 1 - i))])) → WPutRel bw l n width w F (.int .i64 (i + 1)) wz) :=
        Lib.hid fun v wz hz => ⟨i + 1, v, by congr 1, by omega, by rw [beTo_succ, ← List.append_assoc]; exact hz⟩
      generalize l ++ beTo n width i = m at *
      have HO := Lib.hid ho
      have c0 : wr.cell? ⟨bw, 0, none⟩ = some (.slice a m.length cap) := cell_of (ho.block 0 rfl) rfl
      have c1 : ∀ o, (wr.alloc o).cell? ⟨bw, 0, none⟩ = some (.slice a m.length cap) := fun o => cell_of ((ho.alloc o).block 0 rfl) rfl
      have e1 : IntKind.i64.wrap ((width : Int) - 1) = (width : Int) - 1 := by rw [IntKind.wrap_i64]; omega
      have e2 : IntKind.i64.wrap ((width : Int) - 1 - (i : Int)) = (width : Int) - 1 - (i : Int) := by rw [IntKind.wrap_i64]; omega
      have e3 : IntKind.i64.wrap (8 * ((width : Int) - 1 - (i : Int))) = 8 * ((width : Int) - 1 - (i : Int)) := by rw [IntKind.wrap_i64]; omega
      have e4 : (8 * ((width : Int) - 1 - (i : Int))).toNat = 8 * (width - 1 - i) := by omega
      have b1 : (0 : Int) ≤ 8 * ((width : Int) - 1 - (i : Int)) := by omega
      have b2 : 8 * ((width : Int) - 1 - (i : Int)) ≤ 64 := by omega
      clear ho hr hlt
      go_wp2_with fail
      go_region_law
        (first
          | (refine app_step rfl (R := Cells _ _ 5 :: WrR bw (.slice a m.length cap) m) (by exact (HO.out.drewN 1).cells _ _) 2 rfl (.tmp 17) (.tmp 26) 129 (by rfl) Try.underlying129 infoByte (by decide) (by decide) (by rfl) (by rfl) (by exact Src.of_block (((HO.out.drewN 1).cells _ _).block 0 rfl) rfl) (fun u hu => by simp at hu; subst hu; rfl) (by omega) ?_
             intro v1 w3 ho1 hg1
             have hc1 : w3.cell? ⟨bw, 0, none⟩ = some (.slice a m.length cap) := cell_of (ho1.block 1 rfl) rfl
             have hf1 : w3.frozen? ⟨bw, 0, none⟩ = false := free_of (ho1.block 1 rfl)
             obtain ⟨F1, hr1⟩ := ho1.get 2 rfl
             obtain ⟨a1, cap1, rfl, -, -, -⟩ := hr1.shape
             clear hr1
             have H1 := Lib.hid ho1
             clear ho1 hg1))
      all_goals
        have HE : Hid (WPutRel bw l n width w F (.int .i64 (i + 1)) (w3.setCell ⟨bw, 0, none⟩ (.slice a1 (m.length + 1) cap1))) := by
          have h2 := (H1.out.put 1 rfl 0 (.slice a1 (m.length + 1) cap1)).sel [1, 2] (by decide) rfl
          refine Lib.hid (HR.out (.slice a1 (m.length + 1) cap1) _ ?_)
          unfold WrR
          rw [← u8s_append, List.length_append]
          have e : (IntKind.u8.wrap ((n : Int) / 2 ^ (8 * (width - 1 - i)))) = ((UInt8.ofNat (n / 256 ^ (width - 1 - i))).toNat : Int) := byte_eq n _
          rw [e] at h2
          exact h2
        clear e1 e2 e3 e4
        go_wp2_with fail
        go_roundw
        case rel => exact HE.out
        case measure => simp [intOf]; omega
    · have hge : (width : Int) ≤ (i : Int) := by omega
      have hil : i = width := by omega
      subst hil
      have HG : Hid (GV (.tuple #[]) (WA bw (l ++ be n i)) w F (.returned (.tuple #[])) wr) := Lib.hid (GV.mk ho (fun F' hs => ⟨v, hs⟩))
      clear ho hlt
      go_wp2_with fail
      go_end0
      exact HG.out
end Go.Proofs.Ytcakgponofbhkaa
