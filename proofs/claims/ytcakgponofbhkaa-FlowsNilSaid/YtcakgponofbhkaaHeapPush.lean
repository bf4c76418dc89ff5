/- The heap's own type: one put behind the others; the last one taken. -/
import Derived.Test.YtcakgponofbhkaaHeapDown
import Derived.Maps.AppendAt
import Derived.OwnWalk
namespace Go.Proofs.Ytcakgponofbhkaa
open Go.RowKit
set_option linter.unusedVariables false
set_option maxRecDepth 100000

theorem infoPItem : (Try.prog.info? 122).map (fun i => (i.zero, i.size, i.bytes)) = some (some (.pointer none), 1, 8) := by kernel_rfl

/-- What is known behind 'Push': the slice, the item, all else. -/
structure PushPost (bq bi n : Nat) (v m : Value) (xs : List Value) (k : ByteArray) (t : Int) (T : TypeId) (w : World) (e : Ending) (w' : World) : Prop where
  ret : e = .returned (.tuple #[])
  own : ∃ v', w'.heap[bq]? = some (.cells #[v', m] 121 (0, 0)) ∧ w'.ownsRow 0 122 1 v' (n + 1) (xs ++ [.pointer (some ⟨bi, 0, none⟩)]) ∧ (v'.ownBlock = v.ownBlock ∨ v'.ownBlock = some (w.heap.size + 1))
  item : w'.heap[bi]? = some (.cells #[.string k, .int .i64 t, .int .i64 n] T (0, 0))
  mod : Mod (bq :: bi :: v.ownBlock.toList) w w'

theorem ta_item (a : Addr) (w : World) : (Instr.typeAssert (.iface 122 (.pointer (some a))) 20 122 true).run Try.prog w = .ok (.tuple #[.pointer (some a), .bool true]) w := by kernel_rfl
theorem owns_setCell {w : World} {base e size n : Nat} {v : Value} {xs : List Value} (h : w.ownsRow base e size v n xs) {p : Addr} {u : Value} (hp : v.ownBlock ≠ some p.block) : (w.setCell p u).ownsRow base e size v n xs := by
  obtain ⟨h1, h2⟩ := h
  refine ⟨h1, ?_⟩
  rcases h2 with h2 | ⟨g, cap, cur, rfl, h3, h4, h5⟩
  · exact Or.inl h2
  · exact Or.inr ⟨g, cap, cur, rfl, h3, by rw [hp_setCell_other (by intro e; exact hp (by simp [Value.ownBlock, e]))]; exact h4, h5⟩
theorem owns_shape {w : World} {base e size n : Nat} {v : Value} {xs : List Value} (h : w.ownsRow base e size v (n + 1) xs) : ∃ g cap, v = .slice (some ⟨g, 0, none⟩) (n + 1) cap := by
  obtain ⟨_, h2 | ⟨g, cap, cur, rfl, _⟩⟩ := h
  · omega
  · exact ⟨g, cap, rfl⟩
/-- Behind the append, ahead of the store. -/
structure PushMid (bq bi n : Nat) (v v' : Value) (xs : List Value) (w w' : World) : Prop where
  own : w'.ownsRow 0 122 1 v' (n + 1) (xs ++ [.pointer (some ⟨bi, 0, none⟩)])
  at' : v'.ownBlock = v.ownBlock ∨ v'.ownBlock = some (w.heap.size + 1)
  grown : ((w.setCell ⟨bi, 2, none⟩ (.int .i64 n)).alloc (.cells #[.pointer (some ⟨bi, 0, none⟩)] 122)).grownBy w' v.ownBlock

theorem PushMid.old {bq bi n : Nat} {v v' : Value} {xs : List Value} {w w' : World} (h : PushMid bq bi n v v' xs w w') {b : Nat} (hb : b < w.heap.size) (h1 : b ≠ bi) (h2 : v.ownBlock ≠ some b) : w'.heap[b]? = w.heap[b]? := by
  rw [h.grown.block b (by simp; omega) (fun e => h2 e.symm), hp_alloc_old (by simpa using hb), hp_setCell_other h1]

theorem push_mid {w : World} {bq bi n : Nat} {v m v' : Value} {xs : List Value} {k : ByteArray} {t x0 : Int} {T : TypeId} {w' : World}
    (hq : w.heap[bq]? = some (.cells #[v, m] 121 (0, 0))) (hi : w.heap[bi]? = some (.cells #[.string k, .int .i64 t, .int .i64 x0] T (0, 0))) (n1 : bq ≠ bi) (n2 : v.ownBlock ≠ some bq) (n3 : v.ownBlock ≠ some bi)
    (h : PushMid bq bi n v v' xs w w') : PushPost bq bi n v m xs k t T w (.returned (.tuple #[])) (w'.setCell ⟨bq, 0, none⟩ v') := by
  have lq := hp_lt hq
  have li := hp_lt hi
  have hsz := h.grown.size
  simp at hsz
  refine ⟨rfl, ⟨v', ?_, owns_setCell h.own ?_, h.at'⟩, ?_, ?_⟩
  · have := hp_setCell_same (o := 0) (v := v') ((h.old lq n1 n2).trans hq)
    simpa using this
  · rcases h.at' with e | e
    · rw [e]; exact n2
    · rw [e]; simp; omega
  · rw [hp_setCell_other (by exact n1.symm), h.grown.block bi (by simp; omega) (fun e => n3 e.symm), hp_alloc_old (by simpa using li), hp_setCell_same hi]
    simp
  · refine ⟨h.grown.os, h.grown.tape, h.grown.output, by simp; omega, fun b hb hn => ?_⟩
    have hn1 : b ≠ bq := by rintro rfl; exact hn (by simp)
    have hn2 : b ≠ bi := by rintro rfl; exact hn (by simp)
    rw [hp_setCell_other (by exact hn1)]
    exact h.old hb hn2 (fun e => hn (by simp [e]))

set_option maxHeartbeats 1000000 in
theorem ipush {w : World} {bq bi n : Nat} {v m : Value} {xs : List Value} {k : ByteArray} {t x0 : Int} {T : TypeId} (a : Option Addr) (cap : Nat) (hv : v = .slice a n cap)
    (hq : w.heap[bq]? = some (.cells #[v, m] 121 (0, 0))) (hown : w.ownsRow 0 122 1 v n xs)
    (hi : w.heap[bi]? = some (.cells #[.string k, .int .i64 t, .int .i64 x0] T (0, 0))) (hn : n ≤ 1023) (n1 : bq ≠ bi) (n2 : v.ownBlock ≠ some bq) (n3 : v.ownBlock ≠ some bi) :
    Calls Try.prog 156 #[.pointer (some ⟨bq, 0, none⟩), .iface 122 (.pointer (some ⟨bi, 0, none⟩))] w (PushPost bq bi n v m xs k t T w) := by
  subst hv
  obtain ⟨i0, hinf, hz0, hz1, hz2⟩ := info_parts infoPItem
  have c0 : w.cell? ⟨bq, 0, none⟩ = some (.slice a n cap) := cell_of hq rfl
  have f0 := free_of hq (o := 0)
  have c1 : w.cell? ⟨bi, 2, none⟩ = some (.int .i64 x0) := cell_of hi rfl
  have f1 := free_of hi (o := 2)
  have hta : ∀ w : World, (Instr.typeAssert (.iface 122 (.pointer (some ⟨bi, 0, none⟩))) 20 122 true).run Try.prog w = .ok (.tuple #[.pointer (some ⟨bi, 0, none⟩), .bool true]) w := ta_item ⟨bi, 0, none⟩
  have hown1 := Lib.hid (owns_setCell (p := ⟨bi, 2, none⟩) (u := .int .i64 n) hown (by simpa using n3))
  have E : ∀ v' w', PushMid bq bi n (.slice a n cap) v' xs w w' → PushPost bq bi n (.slice a n cap) m xs k t T w (.returned (.tuple #[])) (w'.setCell ⟨bq, 0, none⟩ v') := fun v' w' hmid => push_mid hq hi n1 n2 n3 hmid
  have HE := Lib.hid E
  have Hq := Lib.hid hq
  have Hi := Lib.hid hi
  have H2 := Lib.hid n2
  have H3 := Lib.hid n3
  have hinf1 := Lib.hid hinf
  have hz01 := Lib.hid hz0
  have hz11 := Lib.hid hz1
  have hz21 := Lib.hid hz2
  clear hinf hz0 hz1 hz2 hown E hq hi n2 n3
  go_enter Try.func156, Try.ntmps156
  go_wp2_with (at_builtin; refine wpList_append_own_at _ rfl (.tmp 22) (.tmp 24) 119 rfl 0 122 i0 (.pointer none) 1 8 Try.underlying119 hinf1.out hz01.out hz11.out hz21.out rfl (by decide) _ _ _ rfl (hown1.out.alloc _) ⟨_, 0, none⟩ 1 1 [.pointer (some ⟨bi, 0, none⟩)] rfl rfl ?c1 ?c2 ?c3 ?c4 ?c5 ?_)
  case c1 => intro j u hu; cases j with
    | zero => simp at hu; subst hu; show World.cell? _ ⟨w.heap.size, 0, none⟩ = _; exact cell_of (hp_alloc_at (by simp)) rfl
    | succ j => simp at hu
  case c2 => intro u hu; simp at hu; subst hu; rfl
  case c3 => unfold maxLen; omega
  case c4 => omega
  case c5 => omega
  intro v' w1 ho hg _ ha
  obtain ⟨g, cap', rfl⟩ := owns_shape ho
  have hmid : PushMid bq bi n (.slice a n cap) (.slice (some ⟨g, 0, none⟩) (n + 1) cap') xs w w1 := ⟨ho, by simpa using ha, hg⟩
  have lq := hp_lt Hq.out
  have c2 : w1.cell? ⟨bq, 0, none⟩ = some (.slice a n cap) := cell_of ((hmid.old lq n1 H2.out).trans Hq.out) rfl
  have f2 : w1.frozen? ⟨bq, 0, none⟩ = false := free_of ((hmid.old lq n1 H2.out).trans Hq.out)
  have HE2 := Lib.hid (HE.out _ w1 hmid)
  clear ho hg ha hmid lq
  go_wp2_with fail
  go_end0
  exact HE2.out
end Go.Proofs.Ytcakgponofbhkaa
