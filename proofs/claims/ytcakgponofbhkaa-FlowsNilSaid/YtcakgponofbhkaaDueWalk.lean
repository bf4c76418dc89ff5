/- The queue's calls that only read; a new queue. -/
import Derived.Test.YtcakgponofbhkaaDueRep
namespace Go.Proofs.Ytcakgponofbhkaa
open Go.RowKit
open Go.Maps (Keyed)
set_option linter.unusedVariables false
set_option maxRecDepth 100000

/-- Nothing has turned but the count of draws. -/
def Drawn (w w' : World) : Prop := ∃ m, w' = w.drewN m

theorem qfind_nil (k : ByteArray) (w : World) : Calls Try.prog 80 #[.pointer none, .string k] w fun e w' => e = .returned (.pointer none) ∧ w = w' := by
  go_enter Try.func80, Try.ntmps80
  go_wp2
  go_ret
  exact ⟨rfl, rfl⟩

theorem qfind_raw {w : World} {bq bm : Nat} {k : ByteArray} {u v : Value} (hv : v.cells = #[v]) (c1 : w.cell? ⟨bq, 1, none⟩ = some (.map (some bm))) (hl : (Instr.lookup 117 (.map (some bm)) (.string k) false).run Try.prog w = .ok u w) :
    Calls Try.prog 80 #[.pointer (some ⟨bq, 0, none⟩), .string k] w fun e w' => e = .returned u ∧ w = w' := by
  go_enter Try.func80, Try.ntmps80
  go_wp2
  go_ret
  exact ⟨rfl, rfl⟩

theorem qlen_nil (w : World) : Calls Try.prog 58 #[.pointer none] w fun e w' => e = .returned (.int .i64 0) ∧ w = w' := by
  go_enter Try.func58, Try.ntmps58
  go_wp2
  go_ret
  exact ⟨rfl, rfl⟩
theorem qlen_raw {w : World} {bq : Nat} {a : Option Addr} {n cap : Nat} (c0 : w.cell? ⟨bq, 0, none⟩ = some (.slice a n cap)) : Calls Try.prog 58 #[.pointer (some ⟨bq, 0, none⟩)] w fun e w' => e = .returned (.int .i64 n) ∧ w = w' := by
  go_enter Try.func58, Try.ntmps58
  go_wp2
  go_ret
  exact ⟨rfl, rfl⟩
theorem qlen {w : World} {bq : Nat} {S : List KT} {F : List Nat} (h : IsQ w bq S F) : Calls Try.prog 58 #[.pointer (some ⟨bq, 0, none⟩)] w fun e w' => e = .returned (.int .i64 S.length) ∧ w = w' := by
  obtain ⟨v, bm, L, h⟩ := h
  obtain ⟨a, cap, rfl⟩ := h.val
  rw [h.len]
  exact qlen_raw (cell_of h.q rfl)

theorem qat_nil (k : ByteArray) (w : World) : Calls Try.prog 61 #[.pointer none, .string k] w fun e w' => e = .returned (.tuple #[.int .i64 0, .bool false]) ∧ Drawn w w' := by
  go_enter Try.func61, Try.ntmps61
  go_wp2_with fail
  refine (qfind_nil _ _).mono ?_
  rintro e w1 ⟨rfl, rfl⟩
  go_wp2_with fail
  go_ret2
  exact ⟨rfl, 0, rfl⟩

def AtPost (r : Option Int) (w : World) (e : Ending) (w' : World) : Prop := e = .returned (.tuple #[.int .i64 (r.getD 0), .bool r.isSome]) ∧ Drawn w w'
theorem qat {w : World} {bq : Nat} {S : List KT} {F : List Nat} (h : IsQ w bq S F) {k : ByteArray} (hk : k.size ≤ maxLen) :
    Calls Try.prog 61 #[.pointer (some ⟨bq, 0, none⟩), .string k] w (AtPost (atS S k) w) := by
  obtain ⟨v, bm, L, h⟩ := h
  rcases h.find hk with ⟨i, hi, h1, h2, h3⟩ | ⟨h1, h2, h3⟩
  · have cf := qfind_raw (v := v) (by obtain ⟨a, cap, rfl⟩ := h.val; rfl) (cell_of h.q rfl) h3
    have E : ∀ m, AtPost (atS S k) w (.returned (.tuple #[.int .i64 (ith L i).tm, .bool true])) (w.drewN m) := fun m => by rw [h2]; exact ⟨rfl, m, rfl⟩
    have HE := Lib.hid E
    have c1 : w.cell? ⟨(ith L i).blk, 1, none⟩ = some (.int .i64 (ith L i).tm) := by
      rcases h.st with ⟨_, rfl⟩ | ⟨ba, cap, _, hs⟩
      · simp at hi
      · exact hs.tm hi
    clear E h1 h2 h3 h hk
    go_enter Try.func61, Try.ntmps61
    go_wp2_with fail
    refine cf.mono ?_
    rintro e w1 ⟨rfl, rfl⟩
    go_wp2_with fail
    go_ret2
    exact HE.out 0
  · have cf := qfind_raw (v := v) (by obtain ⟨a, cap, rfl⟩ := h.val; rfl) (cell_of h.q rfl) h3
    have E : ∀ m, AtPost (atS S k) w (.returned (.tuple #[.int .i64 0, .bool false])) (w.drewN m) := fun m => by rw [h1]; exact ⟨rfl, m, rfl⟩
    have HE := Lib.hid E
    clear E h1 h2 h3 h hk
    go_enter Try.func61, Try.ntmps61
    go_wp2_with fail
    refine cf.mono ?_
    rintro e w1 ⟨rfl, rfl⟩
    go_wp2_with fail
    go_ret2
    exact HE.out 0

end Go.Proofs.Ytcakgponofbhkaa
