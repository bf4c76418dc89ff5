/- Bytes put together: the other calls of a writer; a copy of bytes. -/
import Derived.Test.YtcakgponofbhkaaOctet
import Derived.WalkSpells
namespace Go.Proofs.Ytcakgponofbhkaa
open Go.RowKit
set_option linter.unusedVariables false
set_option maxRecDepth 100000

def u64 (n : Int) : Nat := (n % 18446744073709551616).toNat
theorem u64_eq (n : Int) : IntKind.u64.wrap n = ((u64 n : Nat) : Int) := by
  have : IntKind.u64.wrap n = n % 18446744073709551616 := by simp [IntKind.wrap, IntKind.bits, IntKind.signed]
  rw [this]; unfold u64; omega
theorem u64_lt (n : Int) : u64 n < 18446744073709551616 := by unfold u64; omega
theorem u64_nat {n : Int} (h0 : 0 ≤ n) (h1 : n < 18446744073709551616) : ((u64 n : Nat) : Int) = n := by unfold u64; omega
section
variable {F0 : List Nat} {w0 w : World} {R : List Asrt} {bw : Nat} {l : List UInt8}
theorem o_wput (h : In F0 w0 w R) (i : Nat) (hA : R[i]? = some (WA bw l)) (hl : l.length ≤ 1000000) (n width : Nat) (hn : n < 18446744073709551616) (hw1 : width ≤ 8) :
    Calls Try.prog 125 #[.pointer (some ⟨bw, 0, none⟩), .int .u64 n, .int .i64 width] w fun e w' => e = .returned (.tuple #[]) ∧ In F0 w0 w' (R.set i (WA bw (l ++ be n width))) :=
  own_val h i hA (WA.framed _ _) fun F hF => wput hF hl n width hn hw1
theorem o_wu8 (h : In F0 w0 w R) (i : Nat) (hA : R[i]? = some (WA bw l)) (hl : l.length ≤ 1000000) (n : Int) :
    Calls Try.prog 103 #[.pointer (some ⟨bw, 0, none⟩), .int .i64 n] w fun e w' => e = .returned (.tuple #[]) ∧ In F0 w0 w' (R.set i (WA bw (l ++ be (u64 n) 1))) := by
  have c := Lib.hid (o_wput h i hA hl (u64 n) 1 (u64_lt n) (by omega))
  rw [← u64_eq] at c
  clear h hA hl
  go_enter Try.func103, Try.ntmps103
  go_wp2_with fail
  refine c.out.mono ?_
  rintro e w1 ⟨rfl, ho⟩
  have HO := Lib.hid ho
  clear ho c
  go_wp2_with fail
  go_end0
  exact ⟨rfl, HO.out⟩
theorem o_wu16 (h : In F0 w0 w R) (i : Nat) (hA : R[i]? = some (WA bw l)) (hl : l.length ≤ 1000000) (n : Int) :
    Calls Try.prog 104 #[.pointer (some ⟨bw, 0, none⟩), .int .i64 n] w fun e w' => e = .returned (.tuple #[]) ∧ In F0 w0 w' (R.set i (WA bw (l ++ be (u64 n) 2))) := by
  have c := Lib.hid (o_wput h i hA hl (u64 n) 2 (u64_lt n) (by omega))
  rw [← u64_eq] at c
  clear h hA hl
  go_enter Try.func104, Try.ntmps104
  go_wp2_with fail
  refine c.out.mono ?_
  rintro e w1 ⟨rfl, ho⟩
  have HO := Lib.hid ho
  clear ho c
  go_wp2_with fail
  go_end0
  exact ⟨rfl, HO.out⟩
theorem o_wu32 (h : In F0 w0 w R) (i : Nat) (hA : R[i]? = some (WA bw l)) (hl : l.length ≤ 1000000) {n : Int} (h0 : 0 ≤ n) (h1 : n < 4294967296) :
    Calls Try.prog 102 #[.pointer (some ⟨bw, 0, none⟩), .int .u32 n] w fun e w' => e = .returned (.tuple #[]) ∧ In F0 w0 w' (R.set i (WA bw (l ++ be (u64 n) 4))) := by
  have c := Lib.hid (o_wput h i hA hl (u64 n) 4 (u64_lt n) (by omega))
  rw [u64_nat h0 (by omega)] at c
  clear h hA hl
  go_enter Try.func102, Try.ntmps102
  go_wp2_with fail
  refine c.out.mono ?_
  rintro e w1 ⟨rfl, ho⟩
  have HO := Lib.hid ho
  clear ho c
  go_wp2_with fail
  go_end0
  exact ⟨rfl, HO.out⟩
/-- A block without cells is a row without elements. -/
theorem In.row0 (h : In F0 w0 w R) (i : Nat) {g : Nat} {T : TypeId} {k : Nat} (hA : R[i]? = some (Cells g #[] T)) : In F0 w0 w (R.set i (RowA T k (.slice (some ⟨g, 0, none⟩) 0 0) 0 [])) :=
  h.imp i hA (RowA.framed _ _ _ _ _) fun F hF => ⟨by rw [hF.1]; simp [Value.ownBlock], by simp, Or.inr ⟨g, 0, #[], rfl, Nat.zero_le _, hF.2, Nat.le_refl _, by unfold maxLen; omega, by simp, by simp⟩⟩

set_option maxHeartbeats 2000000 in
/-- A copy of bytes. -/
theorem clone_some (h : In F0 w0 w R) {ad : Addr} {n c : Nat} (hs : Src w (some ad) n 1 (u8s l)) (hn : n ≤ 100000000) :
    Calls Try.prog 105 #[.slice (some ad) n c] w fun e w' => ∃ v, e = .returned v ∧ In F0 w0 w' (RowA 5 1 v n (u8s l) :: R) := by
  have HH := Lib.hid h
  have HS := Lib.hid hs
  clear h hs
  have hq : ∀ (w : World) (a : Option Addr) (n c n' c' : Nat), (binOp .eql 129 (.slice a n c) (.slice none n' c')).run Try.prog w = .ok (.bool a.isNone) w := fun w a n c n' c' => Lib.run_eql_slice_nil w _ _ a n c n' c' Try.underlying129
  go_enter Try.func105, Try.ntmps105
  go_wp2_with (at_builtin; refine app_list rfl ((HH.out.cells #[] 5).row0 (k := 1) 0 rfl) 0 rfl (.tmp 5) (.tmp 6) 129 (by rfl) Try.underlying129 infoByte (by decide) (by decide) (by rfl) (by rfl) (src_alloc HS.out _) (u8s_one _) (by omega) ?_)
  intro v' w3 ho hg
  have HO := Lib.hid ho
  clear ho hg
  go_wp2_with fail
  go_ret
  exact ⟨_, rfl, HO.out⟩
theorem clone_none (h : In F0 w0 w R) : Calls Try.prog 105 #[.slice none 0 0] w fun e w' => ∃ v, e = .returned v ∧ In F0 w0 w' (RowA 5 1 v 0 (u8s []) :: R) := by
  have HH := Lib.hid (h.rownil 5 1)
  clear h
  have hq : ∀ (w : World) (a : Option Addr) (n c n' c' : Nat), (binOp .eql 129 (.slice a n c) (.slice none n' c')).run Try.prog w = .ok (.bool a.isNone) w := fun w a n c n' c' => Lib.run_eql_slice_nil w _ _ a n c n' c' Try.underlying129
  go_enter Try.func105, Try.ntmps105
  go_wp2_with fail
  go_ret
  exact ⟨_, rfl, HH.out⟩
end
end Go.Proofs.Ytcakgponofbhkaa
