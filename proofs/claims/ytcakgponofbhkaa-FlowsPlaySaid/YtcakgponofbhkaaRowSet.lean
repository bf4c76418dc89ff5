/- A row of the call's own, written: an element stored, the rest cleared, a beginning taken. -/
import Derived.Test.YtcakgponofbhkaaOwn
import Derived.Deep.MidRow
import Derived.Lib.SliceRun
namespace Go.Proofs.Ytcakgponofbhkaa
open Go.RowKit
set_option linter.unusedVariables false
set_option maxRecDepth 100000

theorem setCells_heap : ∀ (us : List Value) (w : World) (g o : Nat) (C : Array Value) (T : TypeId) (fz : Nat × Nat), w.heap[g]? = some (.cells C T fz) → o + us.length ≤ C.size →
    ∃ C', (w.setCells g o us).heap[g]? = some (.cells C' T fz) ∧ C'.toList = C.toList.take o ++ us ++ C.toList.drop (o + us.length) ∧ Mod [g] w (w.setCells g o us)
  | [], w, g, o, C, T, fz, h, _ => ⟨C, h, by simp, Mod.refl _ _⟩
  | v :: r, w, g, o, C, T, fz, h, hl => by
    have hl' : o + 1 + r.length ≤ C.size := by simp at hl; omega
    have h1 := hp_setCell_same (o := o) (v := v) h
    obtain ⟨C', e1, e2, e3⟩ := setCells_heap r (w.setCell ⟨g, o, none⟩ v) g (o + 1) _ T fz h1 (by simpa using hl')
    refine ⟨C', e1, ?_, ((Mod.refl [g] w).setCell (p := ⟨g, o, none⟩) (Or.inl (by simp)) v).trans' e3⟩
    rw [e2]
    have ho : o < C.toList.length := by rw [Array.length_toList]; omega
    rw [Array.toList_setIfInBounds, List.take_set, List.drop_set, if_pos (by omega), List.take_add_one]
    rw [show (C.toList[o]?).toList = [C.toList[o]] by rw [List.getElem?_eq_getElem ho]; rfl]
    rw [List.set_append_right _ _ (by simp; omega)]
    rw [show o - (C.toList.take o).length = 0 by simp; omega]
    simp only [List.set_cons_zero, List.append_assoc, List.cons_append, List.nil_append, List.length_cons]
    rw [show o + 1 + r.length = o + (r.length + 1) by omega]
/-- The row with us at cell o. -/
def putAt (xs : List Value) (o : Nat) (us : List Value) : List Value := xs.take o ++ us ++ xs.drop (o + us.length)
theorem putAt_length {xs us : List Value} {o : Nat} (h : o + us.length ≤ xs.length) : (putAt xs o us).length = xs.length := by unfold putAt; simp; omega
theorem RowA.put {T : TypeId} {k : Nat} {g n' n cap : Nat} {xs : List Value} {w : World} {F : List Nat} (h : RowA T k (.slice (some ⟨g, 0, none⟩) n' cap) n xs w F) {o : Nat} {us : List Value} (ho : o + us.length ≤ xs.length) :
    RowA T k (.slice (some ⟨g, 0, none⟩) n' cap) n (putAt xs o us) (w.setCells g o us) F ∧ Mod F w (w.setCells g o us) := by
  obtain ⟨h0, h1, h2⟩ := h
  rcases h2 with ⟨e, h3⟩ | ⟨g', cap', cur, e, h3, h4, h5, h6, h7, h8⟩
  · cases e
  · cases e
    have hlen : xs.length ≤ cur.size := by
      have := congrArg List.length h8
      simp at this; omega
    obtain ⟨C', e1, e2, e3⟩ := setCells_heap us w g o cur T (0, 0) h4 (by omega)
    refine ⟨⟨h0, by rw [putAt_length ho, h1], Or.inr ⟨g, cap, C', rfl, h3, e1, h5, h6, ?_, ?_⟩⟩, e3.mono (fun b hb => by rw [h0]; simpa [Value.ownBlock] using hb)⟩
    · rw [← Array.length_toList, e2]; simp; omega
    · rw [e2]
      obtain ⟨D, e4⟩ : ∃ D, cur.toList = xs ++ D := ⟨cur.toList.drop (n' * k), by rw [← h8, List.take_append_drop]⟩
      have hx : xs.length = n' * k := h1
      rw [e4]
      unfold putAt
      have a1 : (xs ++ D).take o = xs.take o := List.take_append_of_le_length (by omega)
      have a2 : (xs ++ D).drop (o + us.length) = xs.drop (o + us.length) ++ D := List.drop_append_of_le_length (by omega)
      rw [a1, a2, ← List.append_assoc, List.take_append_of_le_length (by simp; omega), List.take_of_length_le (by simp; omega)]
theorem RowA.there {T : TypeId} {k : Nat} {g n' n cap : Nat} {xs : List Value} {w : World} {F : List Nat} (h : RowA T k (.slice (some ⟨g, 0, none⟩) n' cap) n xs w F) {o m : Nat} (ho : o + m ≤ xs.length) : w.there g o m := by
  obtain ⟨h0, h1, h2⟩ := h
  rcases h2 with ⟨e, h3⟩ | ⟨g', cap', cur, e, h3, h4, h5, h6, h7, h8⟩
  · cases e
  · cases e
    have hlen : xs.length ≤ cur.size := by
      have := congrArg List.length h8
      simp at this; omega
    intro j hj
    refine ⟨?_, free_of h4⟩
    rw [cell_of h4 (v := cur[o + j]'(by omega)) (Array.getElem?_eq_getElem _)]; rfl
theorem row_put {F0 : List Nat} {w0 w : World} {R : List Asrt} {T : TypeId} {k g n' n cap : Nat} {xs : List Value} (h : In F0 w0 w R) (i : Nat) (hA : R[i]? = some (RowA T k (.slice (some ⟨g, 0, none⟩) n' cap) n xs)) {o : Nat} {us : List Value} (ho : o + us.length ≤ xs.length) :
    In F0 w0 (w.setCells g o us) (R.set i (RowA T k (.slice (some ⟨g, 0, none⟩) n' cap) n (putAt xs o us))) :=
  h.step i hA (RowA.framed _ _ _ _ _) fun F hF => ⟨F, (hF.put ho).1, Grew.refl _ _, (hF.put ho).2⟩
/-- A beginning of it. -/
theorem RowA.pre {T : TypeId} {k : Nat} {g n' n cap m : Nat} {xs : List Value} {w : World} {F : List Nat} (h : RowA T k (.slice (some ⟨g, 0, none⟩) n' cap) n xs w F) (hm : m ≤ n) : RowA T k (.slice (some ⟨g, 0, none⟩) m cap) m (xs.take (m * k)) w F := by
  obtain ⟨h0, h1, h2⟩ := h
  rcases h2 with ⟨e, h3⟩ | ⟨g', cap', cur, e, h3, h4, h5, h6, h7, h8⟩
  · cases e
  · cases e
    have hle : m * k ≤ n' * k := Nat.mul_le_mul_right _ hm
    refine ⟨by rw [h0]; rfl, by rw [List.length_take, h1]; exact Nat.min_eq_left hle, Or.inr ⟨g, cap, cur, rfl, h3, h4, by omega, h6, h7, ?_⟩⟩
    rw [← h8, List.take_take, Nat.min_eq_left hle]
/-- 'clear(s)', at whatever elements. -/
theorem clear_run {P : Program} {t e ty : TypeId} {z : Value} (ht : P.underlying t = some (.slice e)) (hv : ∀ w, (zeroValue e).run P w = .ok z w) (w : World) (b o n c : Nat) (h1 : ∀ v ∈ (Builtin.zeroCells z.cells n).toList, v.oneCell' = true)
    (hc : w.there b o (Builtin.zeroCells z.cells n).toList.length) : (Builtin.clear_ #[t] ty #[.slice (some ⟨b, o, none⟩) n c]).run P w = .ok (.tuple #[]) (if n = 0 then w else w.setCells b o (Builtin.zeroCells z.cells n).toList) := by
  by_cases hn : n = 0
  · subst hn; rw [if_pos rfl]; simp [Builtin.clear_, run_underlying ht]
  · have hst := run_storeCells_cells (P := P) b o (Builtin.zeroCells z.cells n).toList 0 w (fun j hj => by simpa using (hc j hj).1) (fun j hj => by simpa using (hc j hj).2) h1
    simp only [Nat.add_zero] at hst
    obtain ⟨m, rfl⟩ : ∃ m, n = m + 1 := ⟨n - 1, by omega⟩
    rw [if_neg hn]
    simp [Builtin.clear_, run_underlying ht, hv, hst]
end Go.Proofs.Ytcakgponofbhkaa
