/- Maps of times by backend, beside other things. -/
import Derived.Test.YtcakgponofbhkaaDrainsRep
namespace Go.Proofs.Ytcakgponofbhkaa
open Go.RowKit
open Go.Maps (Keyed)
set_option linter.unusedVariables false
set_option maxRecDepth 100000

def KeysD (M : List BT) : Prop := (M.map Prod.fst).Nodup
theorem KeysD.tail {x : BT} {M : List BT} (h : KeysD (x :: M)) : KeysD M := (List.nodup_cons.1 h).2
theorem KeysD.del {M : List BT} (h : KeysD M) (b : Int) : KeysD (delD b M) := h.sublist (List.filter_sublist.map _)
theorem atD_none {M : List BT} {b : Int} : atD M b = none ↔ ∀ x ∈ M, x.1 ≠ b := by simp [atD]
theorem keysD_one {x y : BT} : ∀ {M : List BT}, KeysD M → x ∈ M → y ∈ M → x.1 = y.1 → x = y
  | [], _, hx, _, _ => by simp at hx
  | z :: r, h, hx, hy, e => by
    have h1 := (List.nodup_cons.1 h).1
    rcases List.mem_cons.1 hx with e1 | hx1 <;> rcases List.mem_cons.1 hy with e2 | hy1
    · rw [e1, e2]
    · exact absurd (by rw [← e1, e]; exact List.mem_map_of_mem hy1) h1
    · exact absurd (by rw [← e2, ← e]; exact List.mem_map_of_mem hx1) h1
    · exact keysD_one h.tail hx1 hy1 e
theorem atD_some {M : List BT} (h : KeysD M) {b t : Int} : atD M b = some t ↔ (b, t) ∈ M := by
  unfold atD
  constructor
  · intro e
    obtain ⟨x, hx, rfl⟩ := Option.map_eq_some_iff.1 e
    have h1 := List.find?_some hx
    have h2 := List.mem_of_find?_eq_some hx
    simp at h1
    rw [← h1]; exact h2
  · intro hm
    cases e : M.find? (fun x => decide (x.1 = b)) with
    | none => exact absurd (List.find?_eq_none.1 e _ hm) (by simp)
    | some x =>
      have h1 := List.find?_some e
      have h2 := List.mem_of_find?_eq_some e
      simp at h1
      have : x = (b, t) := keysD_one h h2 hm h1
      rw [this]; rfl
theorem BMap.perm {bm : Nat} {M M' : List BT} {w : World} {F : List Nat} (h : BMap bm M w F) (hp : M'.Perm M) : BMap bm M' w F := by
  refine ⟨h.1, ?_⟩
  rw [hp.length_eq]
  refine h.2.congr (fun k v => ?_)
  simp only [btR, hp.mem_iff]
theorem insD_perm (x : BT) : ∀ M, (insD x M).Perm (x :: M)
  | [] => List.Perm.refl _
  | y :: r => by
    unfold insD
    split
    · exact ((insD_perm x r).cons y).trans (List.Perm.swap x y r)
    · exact List.Perm.refl _
theorem put_perm (b t : Int) (M : List BT) : (insD (b, t) (delD b M)).Perm ((b, t) :: delD b M) := insD_perm _ _
theorem delD_length' {M : List BT} (h : KeysD M) (b : Int) : (delD b M).length = if (atD M b).isSome then M.length - 1 else M.length := by
  cases ha : atD M b with
  | none =>
    have : delD b M = M := List.filter_eq_self.2 (fun x hx => by simpa using atD_none.1 ha x hx)
    rw [this]; simp
  | some t =>
    have hm := (atD_some h).1 ha
    clear ha
    induction M with
    | nil => simp at hm
    | cons y r ih =>
      unfold delD at *
      rw [List.filter_cons]
      by_cases e : y.1 = b
      · have h1 : ∀ x ∈ r, x.1 ≠ b := by
          intro x hx e2
          exact (List.nodup_cons.1 h).1 (by rw [e, ← e2]; exact List.mem_map_of_mem hx)
        have : r.filter (fun x => decide (x.1 ≠ b)) = r := List.filter_eq_self.2 (fun x hx => by simpa using h1 x hx)
        rw [if_neg (by simp [e]), this]; simp
      · have hm' : (b, t) ∈ r := by
          rcases List.mem_cons.1 hm with h2 | h2
          · rw [← h2] at e; exact absurd rfl e
          · exact h2
        have := ih h.tail hm'
        have hp : 0 < r.length := List.length_pos_of_mem hm'
        simp [e]
        simp at this
        omega

section
variable {F0 : List Nat} {w0 w : World} {R : List Asrt} {bm : Nat} {M : List BT} {mt et : TypeId}
theorem o_blook (h : In F0 w0 w R) (i : Nat) (hA : R[i]? = some (BMap bm M)) (hk : KeysD M) (hmt : Try.prog.underlying mt = some (.map 3 et)) (hz : (zeroValue et).run Try.prog w = .ok (.int .i64 0) w) {b : Int} (hb : (Lit.int .i64 b).wf = true) (c : Bool) :
    (Instr.lookup mt (.map (some bm)) (.int .i64 b) c).run Try.prog w = .ok (if c then .tuple #[.int .i64 ((atD M b).getD 0), .bool (atD M b).isSome] else .int .i64 ((atD M b).getD 0)) w := by
  obtain ⟨F, _, hm⟩ := h.get i hA
  have hkey := Maps.keyOf_int_mk Try.underlying3 hb
  rcases hm.look intLaw hmt hz hkey c with ⟨v, ⟨x, hx, e1, rfl⟩, hr⟩ | ⟨hn, hr⟩
  · simp only [Value.int.injEq, true_and] at e1
    have : atD M b = some x.2 := by rw [atD_some hk, e1]; exact hx
    rw [hr, this]; rfl
  · have : atD M b = none := by
      rw [atD_none]; intro y hy e
      exact hn (.int .i64 y.2) ⟨y, hy, by rw [e], rfl⟩
    rw [hr, this]; rfl
theorem o_bput (h : In F0 w0 w R) (i : Nat) (hA : R[i]? = some (BMap bm M)) (hk : KeysD M) (hmt : Try.prog.underlying mt = some (.map 3 et)) {b : Int} (hb : (Lit.int .i64 b).wf = true) (t : Int) :
    ∃ w', (Instr.mapUpdate mt (.map (some bm)) (.int .i64 b) (.int .i64 t)).run Try.prog w = .ok () w' ∧ In F0 w0 w' (R.set i (BMap bm ((b, t) :: delD b M))) := by
  obtain ⟨F, _, hm⟩ := h.get i hA
  have hkey := Maps.keyOf_int_mk Try.underlying3 hb
  obtain ⟨w', hr, ht, hc⟩ := hm.put intLaw hmt (val := .int .i64 t) hkey
  have hR : ∀ k v, btR ((b, t) :: delD b M) k v ↔ (k = .int .i64 b ∧ v = .int .i64 t) ∨ (k ≠ .int .i64 b ∧ btR M k v) := by
    intro k v
    constructor
    · rintro ⟨x, hx, rfl, rfl⟩
      rcases List.mem_cons.1 hx with rfl | hx
      · exact Or.inl ⟨rfl, rfl⟩
      · obtain ⟨hx, hne⟩ := delD_mem.1 hx
        exact Or.inr ⟨by simpa using hne, x, hx, rfl, rfl⟩
    · rintro (⟨rfl, rfl⟩ | ⟨hne, x, hx, rfl, rfl⟩)
      · exact ⟨(b, t), by simp, rfl, rfl⟩
      · exact ⟨x, List.mem_cons_of_mem _ (delD_mem.2 ⟨hx, by simpa using hne⟩), rfl, rfl⟩
  have hl := delD_length' hk b
  refine ⟨w', hr, h.step i hA (BMap.framed _ _) fun F hF => ⟨F, ⟨hF.1, ?_⟩, Grew.refl _ _, ?_⟩⟩
  · rcases hc with ⟨⟨v, x, hx, e, _⟩, hc⟩ | ⟨hno, hc⟩
    · simp only [Value.int.injEq, true_and] at e
      have : atD M b = some x.2 := by rw [atD_some hk, e]; exact hx
      rw [this] at hl
      have hp : 0 < M.length := List.length_pos_of_mem hx
      have e2 : ((b, t) :: delD b M).length = M.length := by rw [List.length_cons, hl]; simp; omega
      rw [e2]
      exact hc.congr hR
    · have : atD M b = none := by
        rw [atD_none]; intro y hy e
        exact hno (.int .i64 y.2) ⟨y, hy, by rw [e], rfl⟩
      rw [this] at hl
      have e2 : ((b, t) :: delD b M).length = M.length + 1 := by rw [List.length_cons, hl]; simp
      rw [e2]
      exact hc.congr hR
  · rw [hF.1]; exact ht.mod
theorem o_bdel (h : In F0 w0 w R) (i : Nat) (hA : R[i]? = some (BMap bm M)) (hk : KeysD M) (hmt : Try.prog.underlying mt = some (.map 3 et)) {b : Int} (hb : (Lit.int .i64 b).wf = true) (k2 ty : TypeId) :
    ∃ w', (Builtin.delete_ #[mt, k2] ty #[.map (some bm), .int .i64 b]).run Try.prog w = .ok (.tuple #[]) w' ∧ In F0 w0 w' (R.set i (BMap bm (delD b M))) := by
  obtain ⟨F, _, hm⟩ := h.get i hA
  have hkey := Maps.keyOf_int_mk Try.underlying3 hb
  obtain ⟨w', hr, ht, hc⟩ := hm.del intLaw hmt hkey k2 ty
  have hR : ∀ k v, btR (delD b M) k v ↔ (k ≠ .int .i64 b ∧ btR M k v) := by
    intro k v
    constructor
    · rintro ⟨x, hx, rfl, rfl⟩
      obtain ⟨hx, hne⟩ := delD_mem.1 hx
      exact ⟨by simpa using hne, x, hx, rfl, rfl⟩
    · rintro ⟨hne, x, hx, rfl, rfl⟩
      exact ⟨x, delD_mem.2 ⟨hx, by simpa using hne⟩, rfl, rfl⟩
  have hl := delD_length' hk b
  refine ⟨w', hr, h.step i hA (BMap.framed _ _) fun F hF => ⟨F, ⟨hF.1, ?_⟩, Grew.refl _ _, ?_⟩⟩
  · rcases hc with ⟨⟨v, x, hx, e, _⟩, hc, _⟩ | ⟨hno, hc⟩
    · simp only [Value.int.injEq, true_and] at e
      have : atD M b = some x.2 := by rw [atD_some hk, e]; exact hx
      rw [this] at hl
      rw [hl]
      exact hc.congr hR
    · have : atD M b = none := by
        rw [atD_none]; intro y hy e
        exact hno (.int .i64 y.2) ⟨y, hy, by rw [e], rfl⟩
      rw [this] at hl
      rw [hl]
      exact hc.congr hR
  · rw [hF.1]; exact ht.mod
theorem o_blen (h : In F0 w0 w R) (i : Nat) (hA : R[i]? = some (BMap bm M)) (hmt : Try.prog.underlying mt = some (.map 3 et)) (ty : TypeId) : (Builtin.len_ #[mt] ty #[.map (some bm)]).run Try.prog w = .ok (.int .i64 M.length) w := by
  obtain ⟨F, _, hm⟩ := h.get i hA
  exact hm.len hmt ty
theorem o_bmake (h : In F0 w0 w R) : In F0 w0 (w.alloc (.map #[] 0)) (BMap w.heap.size [] :: R) := by
  obtain ⟨F, hs, hF⟩ := h.star
  have fr := Framed.star h.framed
  refine ⟨fun B hB => ?_, ⟨[w.heap.size] ++ F, ⟨[w.heap.size], F, ⟨rfl, (map_made Try.prog 3 w).congr (fun k v => by simp [btR])⟩, fr.keep hs (fun b hb => hp_alloc_old (fr.lt hs b hb)), ?_, rfl⟩, ?_⟩, h.mod.alloc _⟩
  · rcases List.mem_cons.1 hB with rfl | hB
    · exact BMap.framed _ _
    · exact h.framed B hB
  · intro b hb hbF
    simp at hb; subst hb
    exact absurd (fr.lt hs _ hbF) (by omega)
  · intro b hb
    simp at hb
    rcases hb with rfl | hb
    · exact Or.inr h.mod.size
    · exact hF b hb
theorem o_bperm (h : In F0 w0 w R) (i : Nat) (hA : R[i]? = some (BMap bm M)) {M' : List BT} (hp : M'.Perm M) : In F0 w0 w (R.set i (BMap bm M')) :=
  h.imp i hA (BMap.framed _ _) fun F hF => hF.perm hp
end
end Go.Proofs.Ytcakgponofbhkaa
