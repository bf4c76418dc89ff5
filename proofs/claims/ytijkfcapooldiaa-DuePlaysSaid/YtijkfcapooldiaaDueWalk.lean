/- The queue's calls that only read; a new queue. -/
import Derived.Test.YtijkfcapooldiaaDueRep
namespace Go.Proofs.Ytijkfcapooldiaa
open Go.RowKit
open Go.Maps (Keyed)
set_option linter.unusedVariables false
set_option maxRecDepth 100000

/-- Nothing has turned but the count of draws. -/
def Drawn (w w' : World) : Prop := ∃ m, w' = w.drewN m

theorem qfind_nil (k : ByteArray) (w : World) : Calls Try.prog 25 #[.pointer none, .string k] w fun e w' => e = .returned (.pointer none) ∧ w = w' := by
  go_enter Try.func25, Try.ntmps25
  go_wp2
  go_ret
  exact ⟨rfl, rfl⟩

theorem qfind_raw {w : World} {bq bm : Nat} {k : ByteArray} {u v : Value} (hv : v.cells = #[v]) (c1 : w.cell? ⟨bq, 1, none⟩ = some (.map (some bm))) (hl : (Instr.lookup 57 (.map (some bm)) (.string k) false).run Try.prog w = .ok u w) :
    Calls Try.prog 25 #[.pointer (some ⟨bq, 0, none⟩), .string k] w fun e w' => e = .returned u ∧ w = w' := by
  go_enter Try.func25, Try.ntmps25
  go_wp2
  go_ret
  exact ⟨rfl, rfl⟩

theorem qlen_nil (w : World) : Calls Try.prog 11 #[.pointer none] w fun e w' => e = .returned (.int .i64 0) ∧ w = w' := by
  go_enter Try.func11, Try.ntmps11
  go_wp2
  go_ret
  exact ⟨rfl, rfl⟩
theorem qlen_raw {w : World} {bq : Nat} {a : Option Addr} {n cap : Nat} (c0 : w.cell? ⟨bq, 0, none⟩ = some (.slice a n cap)) : Calls Try.prog 11 #[.pointer (some ⟨bq, 0, none⟩)] w fun e w' => e = .returned (.int .i64 n) ∧ w = w' := by
  go_enter Try.func11, Try.ntmps11
  go_wp2
  go_ret
  exact ⟨rfl, rfl⟩
theorem qlen {w : World} {bq : Nat} {S : List KT} {F : List Nat} (h : IsQ w bq S F) : Calls Try.prog 11 #[.pointer (some ⟨bq, 0, none⟩)] w fun e w' => e = .returned (.int .i64 S.length) ∧ w = w' := by
  obtain ⟨v, bm, L, h⟩ := h
  obtain ⟨a, cap, rfl⟩ := h.val
  rw [h.len]
  exact qlen_raw (cell_of h.q rfl)

theorem qat_nil (k : ByteArray) (w : World) : Calls Try.prog 16 #[.pointer none, .string k] w fun e w' => e = .returned (.tuple #[.int .i64 0, .bool false]) ∧ Drawn w w' := by
  go_enter Try.func16, Try.ntmps16
  go_wp2_with fail
  refine (qfind_nil _ _).mono ?_
  rintro e w1 ⟨rfl, rfl⟩
  go_wp2_with fail
  go_ret2
  exact ⟨rfl, 0, rfl⟩

def AtPost (r : Option Int) (w : World) (e : Ending) (w' : World) : Prop := e = .returned (.tuple #[.int .i64 (r.getD 0), .bool r.isSome]) ∧ Drawn w w'
theorem qat {w : World} {bq : Nat} {S : List KT} {F : List Nat} (h : IsQ w bq S F) {k : ByteArray} (hk : k.size ≤ maxLen) :
    Calls Try.prog 16 #[.pointer (some ⟨bq, 0, none⟩), .string k] w (AtPost (atS S k) w) := by
  obtain ⟨v, bm, L, h⟩ := h
  rcases h.find hk with ⟨i, hi, h1, h2, h3⟩ | ⟨h1, h2, h3⟩
  · have cf := qfind_raw (v := v) (by obtain ⟨a, cap, rfl⟩ := h.val; rfl) (cell_of h.q rfl) h3
    have E : ∀ m, AtPost (atS S k) w (.returned (.tuple #[.int .i64 (ith L i).tm, .bool true])) (w.drewN m) := fun m => by rw [h2]; exact ⟨rfl, m, rfl⟩
    have HE := Lib.hid E
    have c1 : w.cell? ⟨(ith L i).blk, 1, none⟩ = some (.int .i64 (ith L i).tm) := by
      rcases h.st with ⟨_, rfl⟩ | ⟨ba, cap, _, hs⟩
      · simp at hi
      · exact hs.tm hi
    clear E h1 h2 h3 h hk
    go_enter Try.func16, Try.ntmps16
    go_wp2_with fail
    refine cf.mono ?_
    rintro e w1 ⟨rfl, rfl⟩
    go_wp2_with fail
    go_ret2
    exact HE.out 0
  · have cf := qfind_raw (v := v) (by obtain ⟨a, cap, rfl⟩ := h.val; rfl) (cell_of h.q rfl) h3
    have E : ∀ m, AtPost (atS S k) w (.returned (.tuple #[.int .i64 0, .bool false])) (w.drewN m) := fun m => by rw [h1]; exact ⟨rfl, m, rfl⟩
    have HE := Lib.hid E
    clear E h1 h2 h3 h hk
    go_enter Try.func16, Try.ntmps16
    go_wp2_with fail
    refine cf.mono ?_
    rintro e w1 ⟨rfl, rfl⟩
    go_wp2_with fail
    go_ret2
    exact HE.out 0

def NextPost (S : List KT) (w : World) (e : Ending) (w' : World) : Prop :=
  e = .returned (match S with | [] => .tuple #[.string ByteArray.empty, .int .i64 0, .bool false] | x :: _ => .tuple #[.string x.1, .int .i64 x.2, .bool true]) ∧ Drawn w w'
theorem qnext_nil (w : World) : Calls Try.prog 21 #[.pointer none] w (NextPost [] w) := by
  have HE : Hid (∀ m, NextPost [] w (.returned (.tuple #[.string ByteArray.empty, .int .i64 0, .bool false])) (w.drewN m)) := Lib.hid fun m => ⟨rfl, m, rfl⟩
  go_enter Try.func21, Try.ntmps21
  go_wp2_with fail
  refine (qlen_nil _).mono ?_
  rintro e w1 ⟨rfl, rfl⟩
  go_wp2_with fail
  go_ret3
  exact HE.out 0
theorem qnext {w : World} {bq : Nat} {S : List KT} {F : List Nat} (h : IsQ w bq S F) : Calls Try.prog 21 #[.pointer (some ⟨bq, 0, none⟩)] w (NextPost S w) := by
  have cl := qlen h
  obtain ⟨v, bm, L, h⟩ := h
  cases S with
  | nil =>
    have HE : Hid (∀ m, NextPost [] w (.returned (.tuple #[.string ByteArray.empty, .int .i64 0, .bool false])) (w.drewN m)) := Lib.hid fun m => ⟨rfl, m, rfl⟩
    clear h
    go_enter Try.func21, Try.ntmps21
    go_wp2_with fail
    refine cl.mono ?_
    rintro e w1 ⟨rfl, rfl⟩
    go_wp2_with fail
    go_ret3
    exact HE.out 0
  | cons x S =>
    have HE : Hid (∀ m, NextPost (x :: S) w (.returned (.tuple #[.string x.1, .int .i64 x.2, .bool true])) (w.drewN m)) := Lib.hid fun m => ⟨rfl, m, rfl⟩
    have hroot := root_head h.heap h.row h.perm
    have hlen := h.len
    rcases h.st with ⟨_, rfl⟩ | ⟨ba, cap, rfl, hs⟩
    · simp at hlen
    · have hl0 : 0 < L.length := by simp at hlen; omega
      have c0 := hs.cell
      have c1 := hs.ptr hl0
      have c2 := hs.key hl0
      have c3 := hs.tm hl0
      have e1 : (ith L 0).key = x.1 := congrArg Prod.fst hroot
      have e2 : (ith L 0).tm = x.2 := congrArg Prod.snd hroot
      rw [e1] at c2
      rw [e2] at c3
      have hl1 : ((S.length : Int) + 1 == 0) = false := by simp; omega
      clear e1 e2 hroot hlen hs h
      go_enter Try.func21, Try.ntmps21
      go_wp2_with fail
      refine cl.mono ?_
      rintro e w1 ⟨rfl, rfl⟩
      go_wp2_with fail
      first
        | (go_ret3; exact HE.out 0)
        | (go_quiet (fail)
           go_wp2_with fail
           go_ret3
           exact HE.out _)
end Go.Proofs.Ytijkfcapooldiaa
