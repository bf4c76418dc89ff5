/- A map of times by key; a row that holds the same keys. -/
import Derived.Test.YtijkfcapooldiaaDueArgs
import Derived.Test.YtijkfcapooldiaaDuePlain2
namespace Go.Proofs.Ytijkfcapooldiaa
open Go.RowKit
open Go.Maps (Keyed)
set_option linter.unusedVariables false

def ktR (M : List KT) (k v : Value) : Prop := ∃ x ∈ M, k = .string x.1 ∧ v = .int .i64 x.2
def KMap (bm : Nat) (M : List KT) : Asrt := fun w F => F = [bm] ∧ MapR Try.prog 9 w bm (ktR M) M.length
theorem KMap.framed (bm : Nat) (M : List KT) : Framed (KMap bm M) :=
  ⟨fun h hk => ⟨h.1, h.2.keep (hk bm (by rw [h.1]; simp))⟩, fun h b hb => by rw [h.1] at hb; simp at hb; subst hb; exact h.2.lt⟩

theorem o_mlook {w0 w : World} {R : List Asrt} {bm : Nat} {M : List KT} (h : Own w0 w R) (i : Nat) (hA : R[i]? = some (KMap bm M)) (hk : Keys1 M) {s : ByteArray} (hs : s.size ≤ maxLen) (c : Bool) :
    (Instr.lookup 36 (.map (some bm)) (.string s) c).run Try.prog w = .ok (if c then .tuple #[.int .i64 ((atS M s).getD 0), .bool (atS M s).isSome] else .int .i64 ((atS M s).getD 0)) w := by
  obtain ⟨F, _, hm⟩ := h.get i hA
  have hz : (zeroValue 2).run Try.prog w = .ok (.int .i64 0) w := by kernel_rfl
  have hkey := WideMaps.keyOf_string_mk Try.underlying9 hs
  rcases hm.look strLaw Try.underlying36 hz hkey c with ⟨v, ⟨x, hx, e1, rfl⟩, hr⟩ | ⟨hn, hr⟩
  · simp only [Value.string.injEq] at e1
    have : atS M s = some x.2 := by rw [atS_some hk, e1]; exact hx
    rw [hr, this]; rfl
  · have : atS M s = none := by
      rw [atS_none]; intro y hy e
      exact hn (.int .i64 y.2) ⟨y, hy, by rw [e], rfl⟩
    rw [hr, this]; rfl

theorem o_mput {w0 w : World} {R : List Asrt} {bm : Nat} {M : List KT} (h : Own w0 w R) (i : Nat) (hA : R[i]? = some (KMap bm M)) {s : ByteArray} (hs : s.size ≤ maxLen) (hno : atS M s = none) (t : Int) :
    ∃ w', (Instr.mapUpdate 36 (.map (some bm)) (.string s) (.int .i64 t)).run Try.prog w = .ok () w' ∧ Own w0 w' (R.set i (KMap bm ((s, t) :: M))) := by
  obtain ⟨F, _, hm⟩ := h.get i hA
  have hkey := WideMaps.keyOf_string_mk Try.underlying9 hs
  obtain ⟨w', hr, ht, hc⟩ := hm.put strLaw Try.underlying36 (val := .int .i64 t) hkey
  refine ⟨w', hr, h.step i hA (KMap.framed _ _) fun F hF => ⟨F, ⟨hF.1, ?_⟩, Grew.refl _ _, ?_⟩⟩
  · rcases hc with ⟨⟨v, x, hx, e, _⟩, _⟩ | ⟨_, hc⟩
    · simp only [Value.string.injEq] at e; exact absurd e.symm (atS_none.1 hno x hx)
    · refine hc.congr (fun k v => ?_)
      constructor
      · rintro ⟨x, hx, rfl, rfl⟩
        rcases List.mem_cons.1 hx with rfl | hx
        · exact Or.inl ⟨rfl, rfl⟩
        · exact Or.inr ⟨by simpa using atS_none.1 hno x hx, x, hx, rfl, rfl⟩
      · rintro (⟨rfl, rfl⟩ | ⟨_, x, hx, rfl, rfl⟩)
        · exact ⟨(s, t), by simp, rfl, rfl⟩
        · exact ⟨x, List.mem_cons_of_mem _ hx, rfl, rfl⟩
  · rw [hF.1]; exact ht.mod
theorem o_mlen {w0 w : World} {R : List Asrt} {bm : Nat} {M : List KT} (h : Own w0 w R) (i : Nat) (hA : R[i]? = some (KMap bm M)) (ty : TypeId) : (Builtin.len_ #[36] ty #[.map (some bm)]).run Try.prog w = .ok (.int .i64 M.length) w := by
  obtain ⟨F, _, hm⟩ := h.get i hA
  exact hm.len Try.underlying36 ty
theorem o_mmake {w0 w : World} {R : List Asrt} (h : Own w0 w R) : Own w0 (w.alloc (.map #[] 0)) (KMap w.heap.size [] :: R) := by
  obtain ⟨F, hs, hF⟩ := h.star
  have fr := Framed.star h.framed
  refine ⟨fun B hB => ?_, ⟨[w.heap.size] ++ F, ⟨[w.heap.size], F, ⟨rfl, (map_made Try.prog 9 w).congr (fun k v => by simp [ktR])⟩, fr.keep hs (fun b hb => hp_alloc_old (fr.lt hs b hb)), ?_, rfl⟩, ?_⟩, h.mod.alloc _⟩
  · rcases List.mem_cons.1 hB with rfl | hB
    · exact KMap.framed _ _
    · exact h.framed B hB
  · intro b hb hbF
    simp at hb; subst hb
    exact absurd (fr.lt hs _ hbF) (by omega)
  · intro b hb
    simp at hb
    rcases hb with rfl | hb
    · exact h.mod.size
    · exact hF b hb

/-! ### plain -/
theorem row_same {S T : List KT} (hS : Row S) (hT : Row T) (h : ∀ x, x ∈ S ↔ x ∈ T) : S = T := by
  have hp : S.Perm T := (List.perm_ext_iff_of_nodup (row_nodup hS) (row_nodup hT)).2 h
  refine List.Perm.eq_of_pairwise ?_ hS hT hp
  intro a b _ _ h1 h2
  have := klt_trans h1 h2
  rw [klt_irrefl] at this; cases this
/-- What the first loop makes. -/
structure First (ks : List ByteArray) (j : Nat) (M : List KT) : Prop where
  keys : Keys1 M
  times : ∀ x ∈ M, 0 ≤ x.2 ∧ x.2 < 50
  only : ∀ x ∈ M, x.1 ∈ ks
  all : ∀ i (hi : i < ks.length), i < j → ∃ t, atS M ks[i] = some t
  len : M.length ≤ j
theorem First.zero (ks : List ByteArray) : First ks 0 [] := ⟨by simp [Keys1], by simp, by simp, by omega, by simp⟩
theorem First.there {ks : List ByteArray} {j : Nat} {M : List KT} (h : First ks j M) (hj : j < ks.length) {t : Int} (ht : atS M ks[j] = some t) : First ks (j + 1) M :=
  ⟨h.keys, h.times, h.only, fun i hi hij => by
    by_cases e : i = j
    · subst e; exact ⟨t, ht⟩
    · exact h.all i hi (by omega), by have := h.len; omega⟩
theorem First.fresh {ks : List ByteArray} {j : Nat} {M : List KT} (h : First ks j M) (hj : j < ks.length) (hn : atS M ks[j] = none) {t : Int} (h0 : 0 ≤ t) (h1 : t < 50) : First ks (j + 1) ((ks[j], t) :: M) := by
  have hk : Keys1 ((ks[j], t) :: M) := by
    refine List.nodup_cons.2 ⟨fun hm => ?_, h.keys⟩
    obtain ⟨y, hy, e⟩ := List.mem_map.1 hm
    exact atS_none.1 hn y hy e
  refine ⟨hk, ?_, ?_, ?_, by have := h.len; simp; omega⟩
  · intro x hx
    rcases List.mem_cons.1 hx with rfl | hx
    · exact ⟨h0, h1⟩
    · exact h.times x hx
  · intro x hx
    rcases List.mem_cons.1 hx with rfl | hx
    · exact List.getElem_mem hj
    · exact h.only x hx
  · intro i hi hij
    by_cases e : i = j
    · subst e; exact ⟨t, (atS_some hk).2 (by simp)⟩
    · obtain ⟨u, hu⟩ := h.all i hi (by omega)
      exact ⟨u, (atS_some hk).2 (List.mem_cons_of_mem _ ((atS_some h.keys).1 hu))⟩
/-- What the second loop makes, by the indexes f. -/
structure Second (ks : List ByteArray) (M : List KT) (f : Nat → Nat) (j : Nat) (S : List KT) : Prop where
  sub : ∀ x ∈ S, x ∈ M
  all : ∀ i, i < j → ∀ (h : f i < ks.length), ∃ t, (ks[f i], t) ∈ S
theorem Second.zero (ks : List ByteArray) (M : List KT) (f : Nat → Nat) : Second ks M f 0 [] := ⟨by simp, by omega⟩
theorem Second.step {ks : List ByteArray} {M : List KT} {f : Nat → Nat} {j : Nat} {S : List KT} (h : Second ks M f j S) (hk : Keys1 S) (hl : S.length ≤ 60) {n : Nat} (hM : First ks n M) (hf : f j < ks.length) {t : Int} (ht : atS M ks[f j] = some t) :
    setS S ks[f j] t = (ins (ks[f j], t) (delS ks[f j] S), 0) ∧ Second ks M f (j + 1) (ins (ks[f j], t) (delS ks[f j] S)) := by
  have hm := (atS_some hM.keys).1 ht
  have ht2 := hM.times _ hm
  have h3 : 0 ≤ t ∧ t < 50 := ht2
  refine ⟨by rw [setS, if_neg (by omega), if_neg (by omega)], ?_, ?_⟩
  · intro x hx
    rcases ins_mem.1 hx with rfl | hx
    · exact hm
    · exact h.sub x (delS_mem.1 hx).1
  · intro i hi hfi
    by_cases e : i = j
    · subst e; exact ⟨t, ins_mem.2 (Or.inl rfl)⟩
    · obtain ⟨u, hu⟩ := h.all i (by omega) hfi
      by_cases e2 : ks[f i] = ks[f j]
      · exact ⟨t, ins_mem.2 (Or.inl (by rw [e2]))⟩
      · exact ⟨u, ins_mem.2 (Or.inr (delS_mem.2 ⟨hu, e2⟩))⟩
theorem Second.whole {ks : List ByteArray} {M : List KT} {f : Nat → Nat} {S : List KT} {n : Nat} (h : Second ks M f ks.length S) (hM : First ks n M) (hf : ∀ i, i < ks.length → ∃ j, j < ks.length ∧ f j = i) : ∀ x, x ∈ S ↔ x ∈ M := by
  intro x
  refine ⟨h.sub x, fun hx => ?_⟩
  obtain ⟨i, hi, e⟩ := List.mem_iff_getElem.1 (hM.only x hx)
  obtain ⟨j, hj, rfl⟩ := hf i hi
  obtain ⟨t, ht⟩ := h.all j hj hi
  rw [e] at ht
  have := keys_one hM.keys (h.sub _ ht) hx rfl
  rw [← this]; exact ht
theorem due_all {S : List KT} (h : ∀ x ∈ S, x.2 ≤ 100) : dueK S 100 = S.map (·.1) ∧ dueR S 100 = [] := by
  have := due_split (S1 := S) (S2 := []) h (by simp)
  simpa using this
theorem Second.length {ks : List ByteArray} {M : List KT} {f : Nat → Nat} {S : List KT} {j n : Nat} (h : Second ks M f j S) (hS : Row S) (hM : First ks n M) : S.length ≤ M.length :=
  (row_nodup hS).length_le_of_subset (fun x hx => h.sub x hx)
end Go.Proofs.Ytijkfcapooldiaa
