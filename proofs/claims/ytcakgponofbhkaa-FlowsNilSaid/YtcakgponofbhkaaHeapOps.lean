/- The library's heap: put in, put right, taken out. -/
import Derived.Test.YtcakgponofbhkaaHeapPush
namespace Go.Proofs.Ytcakgponofbhkaa
open Go.RowKit
set_option linter.unusedVariables false
set_option maxRecDepth 100000

theorem ilen (a : Option Addr) (n cap : Nat) (w : World) : Calls Try.prog 152 #[.slice a n cap] w fun e w' => e = .returned (.int .i64 n) ∧ w = w' := by
  go_enter Try.func152, Try.ntmps152
  go_wp2
  go_ret
  exact ⟨rfl, rfl⟩

set_option maxHeartbeats 400000 in
theorem ipop_raw {w : World} {bq ba n cap bi : Nat} (hn : n + 1 ≤ cap) (hm : n ≤ 4096) (c0 : w.cell? ⟨bq, 0, none⟩ = some (.slice (some ⟨ba, 0, none⟩) (n + 1) cap)) (f0 : w.frozen? ⟨bq, 0, none⟩ = false)
    (c1 : w.cell? ⟨ba, n, none⟩ = some (.pointer (some ⟨bi, 0, none⟩))) :
    Calls Try.prog 155 #[.pointer (some ⟨bq, 0, none⟩)] w fun e w' => e = .returned (.iface 122 (.pointer (some ⟨bi, 0, none⟩))) ∧ w' = w.setCell ⟨bq, 0, none⟩ (.slice (some ⟨ba, 0, none⟩) n cap) := by
  go_enter Try.func155, Try.ntmps155
  go_wp2
  go_ret
  exact ⟨rfl, rfl⟩

def PopPost (bq ba n cap : Nat) (m : Value) (L : List It) (w : World) (e : Ending) (w' : World) : Prop :=
  (∃ v, e = .returned v) ∧ w'.heap[bq]? = some (.cells #[.slice (some ⟨ba, 0, none⟩) n cap, m] 121 (0, 0)) ∧ HS w' bq ba n cap (L.take n) ∧ Mod [bq] w w'

theorem ith_take {L : List It} {n i : Nat} (h : i < n) (h2 : n ≤ L.length) : ith (L.take n) i = ith L i := by
  rw [ith_lt (by simp; omega), ith_lt (by omega)]; simp

theorem ipop {w : World} {bq ba n cap : Nat} {m : Value} {L : List It} (h : HS w bq ba (n + 1) cap L) (hq : w.heap[bq]? = some (.cells #[.slice (some ⟨ba, 0, none⟩) (n + 1) cap, m] 121 (0, 0))) :
    Calls Try.prog 155 #[.pointer (some ⟨bq, 0, none⟩)] w (PopPost bq ba n cap m L w) := by
  have hl := h.len
  have hm := h.most
  refine (ipop_raw h.room (by omega) h.cell (free_of hq) (h.ptr (i := n) (by omega))).mono fun e w' ⟨he, hw⟩ => ?_
  subst hw
  have hb : (w.setCell ⟨bq, 0, none⟩ (.slice (some ⟨ba, 0, none⟩) n cap)).heap[bq]? = some (.cells #[.slice (some ⟨ba, 0, none⟩) n cap, m] 121 (0, 0)) := by
    have := hp_setCell_same (o := 0) (v := .slice (some ⟨ba, 0, none⟩) n cap) hq
    simpa using this
  refine ⟨⟨_, he⟩, hb, ?_, (Mod.refl _ _).setCell (Or.inl (by simp)) _⟩
  obtain ⟨C, hC, hC2, hC3⟩ := h.arr
  refine ⟨cell_of hb rfl, by simp; omega, by have := h.room; omega, h.capm, by omega, ?_, ⟨C, ?_, hC2, fun i hi => ?_⟩, fun i hi => ?_⟩
  · exact h.nodup.sublist ((((List.take_sublist n L).map It.blk).cons_cons ba).cons_cons bq)
  · rw [hp_setCell_other (by exact h.qa.symm)]; exact hC
  · rw [ith_take hi (by omega)]; exact hC3 i (by omega)
  · rw [ith_take hi (by omega)]
    obtain ⟨T, hT⟩ := h.item i (by omega)
    refine ⟨T, ?_⟩
    rw [hp_setCell_other (fun e => h.qb (by have := blk_mem (L := L) (i := i) (by omega); rw [e] at this; exact this))]
    exact hT

theorem HP.trans {bq ba n cap N : Nat} {L L1 L2 : List It} {w w1 w2 : World} (h : HP bq ba n cap N L w L1 w1) (k : HP bq ba n cap N L1 w1 L2 w2) : HP bq ba n cap N L w L2 w2 :=
  ⟨k.hs, k.perm.trans h.perm, h.mod.trans k.mod (fun x hx => Or.inl (by
    rcases List.mem_cons.1 hx with rfl | hx
    · simp
    · exact List.mem_cons_of_mem _ ((h.perm.map It.blk).mem_iff.1 hx))), fun i hi => (k.above i hi).trans (h.above i hi)⟩

set_option maxHeartbeats 1000000 in
theorem fix_hs {w : World} {bq ba n cap : Nat} {L : List It} (h : HS w bq ba n cap L) (i : Nat) (hi : i < n) (hx : ExceptP n (gk L) i) :
    Calls Try.prog 75 #[.iface 126 (.pointer (some ⟨bq, 0, none⟩)), .int .i64 i] w (UpPost bq ba n cap n L w) := by
  have hm := m_Len h.cell
  have cd := Lib.hid (down_hs h (Nat.le_refl n) i hi hx)
  have U : ∀ L1 w1, HP bq ba n cap n L w L1 w1 → ExceptP n (gk L1) i → KidsP n (gk L1) i → Calls Try.prog 94 #[.iface 126 (.pointer (some ⟨bq, 0, none⟩)), .int .i64 i] w1 (UpPost bq ba n cap n L w) :=
    fun L1 w1 hp h1 h2 => (up_hs hp.hs (Nat.le_refl n) i hi h1 h2).mono fun e w2 ⟨he, L2, h3, h4⟩ => ⟨he, L2, hp.trans h3, h4⟩
  have HU := Lib.hid U
  clear U h hx
  go_enter Try.func75, Try.ntmps75
  go_wp2_with fail
  refine (ilen _ _ _ _).mono ?_
  rintro e w1 ⟨rfl, rfl⟩
  go_wp2_with fail
  refine cd.out.mono ?_
  rintro e w1 ⟨b, L1, rfl, hp, ht, hf⟩
  cases b with
  | true =>
    have E : Hid (UpPost bq ba n cap n L w (.returned (.tuple #[])) w1) := Lib.hid ⟨rfl, L1, hp, ht rfl⟩
    clear hp ht hf
    go_wp2_with fail
    go_end0
    exact E.out
  | false =>
    have cu := Lib.hid (HU.out L1 w1 hp (hf rfl).1 (hf rfl).2)
    clear hp ht hf
    go_wp2_with fail
    refine cu.out.mono ?_
    rintro e w2 hu
    obtain rfl : e = .returned (.tuple #[]) := hu.1
    have hu := Lib.hid hu
    go_wp2_with fail
    go_end0
    exact hu.out

/-- Behind 'heap.Push': the item is among the others. -/
structure PushedPost (bq bi n : Nat) (v m : Value) (L : List It) (k : ByteArray) (t : Int) (w : World) (e : Ending) (w' : World) : Prop where
  ret : e = .returned (.tuple #[])
  now : ∃ ba cap L', w'.heap[bq]? = some (.cells #[.slice (some ⟨ba, 0, none⟩) (n + 1) cap, m] 121 (0, 0)) ∧ HS w' bq ba (n + 1) cap L' ∧ L'.Perm (L ++ [⟨bi, k, t⟩]) ∧ HeapP (n + 1) (gk L') ∧
    (v.ownBlock = some ba ∨ w.heap.size ≤ ba) ∧ Mod (bq :: bi :: v.ownBlock.toList ++ blks L) w w'

theorem ith_append_lt {L : List It} {x : It} {i : Nat} (h : i < L.length) : ith (L ++ [x]) i = ith L i := by
  rw [ith_lt (by simp; omega), ith_lt h]; simp [h]
theorem ith_append_eq {L : List It} {x : It} : ith (L ++ [x]) L.length = x := by
  rw [ith_lt (by simp)]; simp

/-- The item behind the others, ahead of its way up. -/
theorem pushed_hs {w w1 : World} {bq bi n : Nat} {v m : Value} {L : List It} {k : ByteArray} {t : Int} {T : TypeId} {e : Ending} (hl : n = L.length) (hn : n ≤ 1023)
    (hit : ∀ i, i < n → ∃ T, w.heap[(ith L i).blk]? = some (.cells #[.string (ith L i).key, .int .i64 (ith L i).tm, .int .i64 i] T (0, 0)))
    (hbq : bq < w.heap.size) (hbi : bi < w.heap.size) (hnd : (bq :: bi :: v.ownBlock.toList ++ blks L).Nodup) (h : PushPost bq bi n v m (L.map ptrV) k t T w e w1) :
    ∃ ba cap, w1.heap[bq]? = some (.cells #[.slice (some ⟨ba, 0, none⟩) (n + 1) cap, m] 121 (0, 0)) ∧ HS w1 bq ba (n + 1) cap (L ++ [⟨bi, k, t⟩]) ∧ (v.ownBlock = some ba ∨ w.heap.size ≤ ba) := by
  obtain ⟨v', hq, ho, ha⟩ := h.own
  obtain ⟨ba, cap, rfl⟩ := owns_shape ho
  have hbl : ∀ b, b ∈ blks L → b < w.heap.size := by
    intro b hb
    obtain ⟨x, hx, rfl⟩ := List.mem_map.1 hb
    obtain ⟨i, hi, rfl⟩ := List.mem_iff_getElem.1 hx
    obtain ⟨T, hT⟩ := hit i (by omega)
    rw [ith_lt hi] at hT
    exact hp_lt hT
  have e1 : bq ∉ bi :: (v.ownBlock.toList ++ blks L) := (List.nodup_cons.1 hnd).1
  have hnd2 := (List.nodup_cons.1 hnd).2
  have e2 : bi ∉ v.ownBlock.toList ++ blks L := (List.nodup_cons.1 hnd2).1
  have hnd3 : (v.ownBlock.toList ++ blks L).Nodup := (List.nodup_cons.1 hnd2).2
  refine ⟨ba, cap, hq, HS.of_owns (by simpa using ho) (cell_of hq rfl) (by omega) ?_ ?_, ?_⟩
  · have hb : (bq :: ba :: bi :: blks L).Nodup := by
      rcases ha with ha | ha
      · have ha' : v.ownBlock = some ba := by rw [← ha]; rfl
        rw [ha'] at hnd
        have : (bq :: bi :: ba :: blks L).Nodup := by simpa using hnd
        exact ((List.Perm.swap bi ba (blks L)).cons bq).nodup_iff.2 this
      · have ha' : ba = w.heap.size + 1 := by simpa [Value.ownBlock] using ha
        have hn4 : (blks L).Nodup := hnd3.sublist (List.sublist_append_right _ _)
        refine List.nodup_cons.2 ⟨?_, List.nodup_cons.2 ⟨?_, List.nodup_cons.2 ⟨fun h => e2 (List.mem_append_right _ h), hn4⟩⟩⟩
        · intro hm
          rcases List.mem_cons.1 hm with h1 | h1
          · omega
          · rcases List.mem_cons.1 h1 with h2 | h2
            · exact e1 (by rw [h2]; simp)
            · exact e1 (List.mem_cons_of_mem _ (List.mem_append_right _ h2))
        · intro hm
          rcases List.mem_cons.1 hm with h1 | h1
          · omega
          · have := hbl _ h1; omega
    have hp : (bq :: ba :: blks (L ++ [⟨bi, k, t⟩])).Perm (bq :: ba :: bi :: blks L) := by
      have : (blks (L ++ [⟨bi, k, t⟩])).Perm (bi :: blks L) := by
        simp only [blks, List.map_append, List.map_cons, List.map_nil]
        exact List.perm_append_comm
      exact (this.cons ba).cons bq
    exact hp.nodup_iff.2 hb
  · intro i hi
    by_cases hin : i < n
    · rw [ith_append_lt (by omega)]
      obtain ⟨T', hT⟩ := hit i hin
      have hm : (ith L i).blk ∈ blks L := blk_mem (by omega)
      refine ⟨T', ?_⟩
      rw [h.mod.block _ (hp_lt hT) ?_]
      · exact hT
      · intro hm2
        rcases List.mem_cons.1 hm2 with h1 | h1
        · exact e1 (by rw [← h1]; exact List.mem_cons_of_mem _ (List.mem_append_right _ hm))
        · rcases List.mem_cons.1 h1 with h2 | h2
          · exact e2 (by rw [← h2]; exact List.mem_append_right _ hm)
          · exact (List.nodup_append.1 hnd3).2.2 _ h2 _ hm rfl
    · obtain rfl : i = n := by omega
      subst hl
      rw [ith_append_eq]
      exact ⟨T, h.item⟩
  · rcases ha with ha | ha
    · exact Or.inl (by rw [← ha]; rfl)
    · exact Or.inr (by have : ba = w.heap.size + 1 := by simpa [Value.ownBlock] using ha
                       omega)

theorem except_last {n : Nat} {g g' : Nat → KT} (h : HeapP n g) (e : ∀ k, k < n → g' k = g k) : ExceptP (n + 1) g' n ∧ KidsP (n + 1) g' n := by
  refine ⟨⟨fun c h0 h1 h2 h3 => ?_, fun c h0 h1 h2 h3 => ?_⟩, fun c h0 h1 h2 => ?_⟩
  · rw [e c (by omega), e (par c) (by unfold par; omega)]; exact h c h0 (by omega)
  · unfold par at h2; omega
  · unfold par at h2; omega

theorem gk_append_lt {L : List It} {x : It} {i : Nat} (h : i < L.length) : gk (L ++ [x]) i = gk L i := by unfold gk; rw [ith_append_lt h]

set_option maxHeartbeats 1000000 in
theorem push_hs {w : World} {bq bi n : Nat} {v m : Value} {L : List It} {k : ByteArray} {t x0 : Int} {T : TypeId} (a : Option Addr) (cap : Nat) (hv : v = .slice a n cap) (hl : n = L.length) (hn : n ≤ 1023)
    (hq : w.heap[bq]? = some (.cells #[v, m] 121 (0, 0))) (hown : w.ownsRow 0 122 1 v n (L.map ptrV))
    (hit : ∀ i, i < n → ∃ T, w.heap[(ith L i).blk]? = some (.cells #[.string (ith L i).key, .int .i64 (ith L i).tm, .int .i64 i] T (0, 0)))
    (hi : w.heap[bi]? = some (.cells #[.string k, .int .i64 t, .int .i64 x0] T (0, 0))) (hnd : (bq :: bi :: v.ownBlock.toList ++ blks L).Nodup) (hh : HeapP n (gk L)) :
    Calls Try.prog 76 #[.iface 126 (.pointer (some ⟨bq, 0, none⟩)), .iface 122 (.pointer (some ⟨bi, 0, none⟩))] w (PushedPost bq bi n v m L k t w) := by
  have e1 : bq ∉ bi :: (v.ownBlock.toList ++ blks L) := (List.nodup_cons.1 hnd).1
  have e2 : bi ∉ v.ownBlock.toList ++ blks L := (List.nodup_cons.1 (List.nodup_cons.1 hnd).2).1
  have ci := Lib.hid (ipush (m := m) a cap hv hq hown hi hn (fun h => e1 (by simp [h])) (fun h => e1 (by simp [h])) (fun h => e2 (by simp [h])))
  have hmp := m_Push ⟨bq, 0, none⟩
  have U : ∀ w1 e, PushPost bq bi n v m (L.map ptrV) k t T w e w1 → ∃ ba cap, HS w1 bq ba (n + 1) cap (L ++ [⟨bi, k, t⟩]) ∧
      ∀ x y : Int, y = n → Calls Try.prog 94 #[.iface 126 (.pointer (some ⟨bq, 0, none⟩)), .int .i64 y] w1 (PushedPost bq bi n v m L k t w) := by
    intro w1 e hp
    obtain ⟨ba, cap, h1, h2, h3⟩ := pushed_hs hl hn hit (hp_lt hq) (hp_lt hi) hnd hp
    obtain ⟨hx, hk⟩ := except_last (g' := gk (L ++ [⟨bi, k, t⟩])) hh (fun i hi => gk_append_lt (by omega))
    refine ⟨ba, cap, h2, fun x y hy => ?_⟩
    subst hy
    refine (up_hs h2 (Nat.le_refl _) n (by omega) hx hk).mono fun e w2 ⟨he, L2, hp2, hh2⟩ => ⟨he, ba, cap, L2, ?_, hp2.hs, hp2.perm, hh2, h3, ?_⟩
    · rw [hp2.mod.block bq (hp_lt h1) (by
        intro hm
        have := (List.nodup_cons.1 h2.nodup).1
        exact this hm)]
      exact h1
    · refine (hp.mod.mono (fun b hb => ?_)).trans hp2.mod (fun b hb => ?_)
      · simp only [List.cons_append, List.mem_cons, List.mem_append] at hb ⊢
        rcases hb with hb | hb | hb
        · exact Or.inl hb
        · exact Or.inr (Or.inl hb)
        · exact Or.inr (Or.inr (Or.inl hb))
      · rcases List.mem_cons.1 hb with rfl | hb
        · rcases h3 with h3 | h3
          · left; simp [h3]
          · exact Or.inr h3
        · left
          simp only [blks, List.map_append, List.map_cons, List.map_nil, List.mem_append, List.mem_singleton] at hb
          rcases hb with hb | rfl
          · simp only [List.cons_append, List.mem_cons, List.mem_append]; exact Or.inr (Or.inr (Or.inr hb))
          · simp
  have HU := Lib.hid U
  clear U hown hit hi hnd hh e1 e2 hl hq hv
  go_enter Try.func76, Try.ntmps76
  go_wp2_with fail
  refine ci.out.mono ?_
  rintro e w1 hp
  obtain rfl : e = .returned (.tuple #[]) := hp.ret
  obtain ⟨ba, cap2, hs, hu⟩ := HU.out w1 _ hp
  have hml := m_Len hs.cell
  have hu := Lib.hid hu
  have hs := Lib.hid hs
  clear hp
  go_wp2_with fail
  refine (ilen _ _ _ _).mono ?_
  rintro e w2 ⟨rfl, rfl⟩
  go_wp2_with fail
  refine (hu.out 0 _ (by omega)).mono ?_
  rintro e w2 hz
  obtain rfl : e = .returned (.tuple #[]) := hz.ret
  have hz := Lib.hid hz
  go_wp2_with fail
  go_end0
  exact hz.out
end Go.Proofs.Ytcakgponofbhkaa
