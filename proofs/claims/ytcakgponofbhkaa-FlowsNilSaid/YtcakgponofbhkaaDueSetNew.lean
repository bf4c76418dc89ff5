/- The queue: a new key. -/
import Derived.Test.YtcakgponofbhkaaDueSet
namespace Go.Proofs.Ytcakgponofbhkaa
open Go.RowKit
open Go.Maps (Keyed)
set_option linter.unusedVariables false
set_option maxRecDepth 100000

set_option maxRecDepth 100000 in
set_option maxHeartbeats 1000000 in
theorem qset_full {w : World} {bq bm : Nat} {a : Option Addr} {n cap : Nat} (k : ByteArray) (t : Int) (h0 : 0 ≤ t) (h1 : t ≤ 1099511627776) (hn : 1024 ≤ n) (hn2 : n ≤ 4096) (c0 : w.cell? ⟨bq, 0, none⟩ = some (.slice a n cap)) (c1 : w.cell? ⟨bq, 1, none⟩ = some (.map (some bm)))
    (hl : (Instr.lookup 117 (.map (some bm)) (.string k) false).run Try.prog w = .ok (.pointer none) w) :
    Calls Try.prog 52 #[.pointer (some ⟨bq, 0, none⟩), .string k, .int .i64 t] w fun e w' => e = .returned (.int .i64 9) ∧ w = w' := by
  go_enter Try.func52, Try.ntmps52
  go_wp2
  go_ret
  exact ⟨rfl, rfl⟩

theorem QS.owns {w : World} {bq : Nat} {v : Value} {bm : Nat} {L : List It} {S : List KT} {F : List Nat} (h : QS w bq v bm L S F) : w.ownsRow 0 122 1 v L.length (L.map ptrV) := by
  rcases h.st with ⟨rfl, rfl⟩ | ⟨ba, cap, rfl, hs⟩
  · exact ⟨by simp, Or.inl ⟨rfl, rfl⟩⟩
  · exact hs.owns
theorem QS.items {w : World} {bq : Nat} {v : Value} {bm : Nat} {L : List It} {S : List KT} {F : List Nat} (h : QS w bq v bm L S F) :
    ∀ i, i < L.length → ∃ T, w.heap[(ith L i).blk]? = some (.cells #[.string (ith L i).key, .int .i64 (ith L i).tm, .int .i64 i] T (0, 0)) := by
  rcases h.st with ⟨_, rfl⟩ | ⟨ba, cap, _, hs⟩
  · intro i hi; simp at hi
  · exact hs.item

theorem entR_new {L L' : List It} {k : ByteArray} {b : Nat} {t : Int} (h : L'.Perm (L ++ [⟨b, k, t⟩])) (hno : ∀ x ∈ L, x.key ≠ k) (key v : Value) :
    entR L' key v ↔ ((key = .string k ∧ v = .pointer (some ⟨b, 0, none⟩)) ∨ (key ≠ .string k ∧ entR L key v)) := by
  rw [entR_perm h]
  unfold entR
  constructor
  · rintro ⟨x, hx, rfl, rfl⟩
    rcases List.mem_append.1 hx with hx | hx
    · exact Or.inr ⟨by simpa using hno x hx, x, hx, rfl, rfl⟩
    · simp at hx; subst hx; exact Or.inl ⟨rfl, rfl⟩
  · rintro (⟨rfl, rfl⟩ | ⟨_, x, hx, rfl, rfl⟩)
    · exact ⟨⟨b, k, t⟩, List.mem_append_right _ (by simp), rfl, rfl⟩
    · exact ⟨x, List.mem_append_left _ hx, rfl, rfl⟩

set_option maxRecDepth 100000 in
set_option maxHeartbeats 1000000 in
theorem qset_new {w : World} {bq bm : Nat} {v : Value} {L : List It} {S : List KT} {F : List Nat} (h : QS w bq v bm L S F) {k : ByteArray} (hk : k.size ≤ maxLen) (t : Int) (h0 : 0 ≤ t) (h1 : t ≤ 1099511627776) (hn : L.length < 1024)
    (hno : ∀ x ∈ L, x.key ≠ k) (hl : (Instr.lookup 117 (.map (some bm)) (.string k) false).run Try.prog w = .ok (.pointer none) w) :
    Calls Try.prog 52 #[.pointer (some ⟨bq, 0, none⟩), .string k, .int .i64 t] w (QPost bq (ins (k, t) (delS k S)) F (.int .i64 0) w) := by
  obtain ⟨a, cap, hv⟩ := h.val
  have hkey := WideMaps.keyOf_string_mk Try.underlying9 hk
  have lq := hp_lt h.q
  have lm := h.mp.lt
  have hfp := h.fp
  obtain ⟨w2, hrun, hturn, hc⟩ := (h.mp.keep (w' := w.alloc (.cells #[.string k, .int .i64 t, .int .i64 0] 124)) (hp_alloc_old lm)).put strLaw Try.underlying117 (val := .pointer (some ⟨w.heap.size, 0, none⟩)) hkey
  have hm2 : MapR Try.prog 9 w2 bm (fun key v => (key = .string k ∧ v = .pointer (some ⟨w.heap.size, 0, none⟩)) ∨ (key ≠ .string k ∧ entR L key v)) (L.length + 1) := by
    rcases hc with ⟨⟨v, x, hx, e, _⟩, _⟩ | ⟨_, hm⟩
    · simp only [Value.string.injEq] at e; exact absurd e.symm (hno x hx)
    · exact hm
  have hnd := h.nodup
  have hlt := h.lt
  rw [hfp] at hnd hlt
  have old : ∀ b, b ∈ F → b ≠ bm → w2.heap[b]? = w.heap[b]? := fun b hb hbm => by
    rw [hturn.block b hbm, hp_alloc_old (h.lt b hb)]
  have hbqm : bq ≠ bm := by intro e; exact (List.nodup_cons.1 hnd).1 (by simp [e])
  have hq2 : w2.heap[bq]? = some (.cells #[v, .map (some bm)] 121 (0, 0)) := by rw [old bq (by rw [hfp]; simp) hbqm]; exact h.q
  have hbl : ∀ b, b ∈ v.ownBlock.toList ++ blks L → b ≠ bm := by
    intro b hb e; subst e; exact (List.nodup_cons.1 (List.nodup_cons.1 hnd).2).1 hb
  have hown2 : w2.ownsRow 0 122 1 v L.length (L.map ptrV) := by
    obtain ⟨g1, g2⟩ := h.owns
    refine ⟨g1, ?_⟩
    rcases g2 with g2 | ⟨g, cap2, cur, rfl, g3, g4, g5⟩
    · exact Or.inl g2
    · exact Or.inr ⟨g, cap2, cur, rfl, g3, by rw [old g (by rw [hfp]; simp [Value.ownBlock]) (hbl g (by simp [Value.ownBlock]))]; exact g4, g5⟩
  have hit2 : ∀ i, i < L.length → ∃ T, w2.heap[(ith L i).blk]? = some (.cells #[.string (ith L i).key, .int .i64 (ith L i).tm, .int .i64 i] T (0, 0)) := by
    intro i hi
    obtain ⟨T, hT⟩ := h.items i hi
    exact ⟨T, by rw [old _ (by rw [hfp]; simp [blk_mem hi]) (hbl _ (List.mem_append_right _ (blk_mem hi)))]; exact hT⟩
  have hbi2 : w2.heap[w.heap.size]? = some (.cells #[.string k, .int .i64 t, .int .i64 0] 124 (0, 0)) := by
    rw [hturn.block _ (by omega)]; exact hp_alloc_new
  have hnd2 : (bq :: w.heap.size :: v.ownBlock.toList ++ blks L).Nodup := by
    have n1 := List.nodup_cons.1 hnd
    have n2 := List.nodup_cons.1 n1.2
    refine List.nodup_cons.2 ⟨?_, List.nodup_cons.2 ⟨?_, n2.2⟩⟩
    · intro hm
      rcases List.mem_cons.1 hm with e | hm
      · omega
      · exact n1.1 (List.mem_cons_of_mem _ hm)
    · intro hm
      have := hlt _ (List.mem_cons_of_mem _ (List.mem_cons_of_mem _ hm))
      omega
  have cp := push_hs (m := .map (some bm)) a cap hv rfl (by omega) hq2 hown2 hit2 hbi2 hnd2 h.heap
  have hsz2 : w2.heap.size = w.heap.size + 1 := by rw [hturn.size]; simp
  have E : ∀ w3, PushedPost bq w.heap.size L.length v (.map (some bm)) L k t w2 (.returned (.tuple #[])) w3 → QPost bq (ins (k, t) (delS k S)) F (.int .i64 0) w (.returned (.int .i64 0)) w3 := by
    intro w3 hp
    obtain ⟨ba, cap', L', g1, g2, g3, g4, g5, g6⟩ := hp.now
    have hl' : L'.length = L.length + 1 := by have := g3.length_eq; simpa using this
    have hbm6 : bm ∉ bq :: w.heap.size :: v.ownBlock.toList ++ blks L := by
      intro hm
      rcases List.mem_cons.1 hm with e | hm
      · exact hbqm e.symm
      · rcases List.mem_cons.1 hm with e | hm
        · omega
        · exact hbl bm hm rfl
    have hm3 : MapR Try.prog 9 w3 bm (entR L') L'.length := by
      have := hm2.keep (g6.block bm (hm2.lt) hbm6)
      rw [hl']
      exact this.congr (fun key v => entR_new g3 hno key v)
    have hpb : (blks L').Perm (w.heap.size :: blks L) := by
      have := g3.map It.blk
      simp only [List.map_append, List.map_cons, List.map_nil] at this
      exact this.trans (List.perm_append_singleton _ _)
    have hpk : (L'.map It.key).Perm (k :: L.map It.key) := by
      have := g3.map It.key
      simp only [List.map_append, List.map_cons, List.map_nil] at this
      exact this.trans (List.perm_append_singleton _ _)
    have hnoS : ∀ y ∈ S, y.1 ≠ k := by
      intro y hy e
      obtain ⟨x, hx, rfl⟩ := List.mem_map.1 (h.perm.mem_iff.1 hy)
      exact hno x hx e
    have hba : ba < w3.heap.size := by obtain ⟨C, hC, _⟩ := g2.arr; exact hp_lt hC
    have hg : Grew F (bq :: bm :: ([ba] ++ blks L')) w := by
      intro b hb
      simp only [List.mem_cons, List.singleton_append] at hb
      rcases hb with rfl | rfl | rfl | hb
      · left; rw [hfp]; simp
      · left; rw [hfp]; simp
      · rcases g5 with g5 | g5
        · left; rw [hfp, g5]; simp
        · right; omega
      · rcases List.mem_cons.1 (hpb.mem_iff.1 hb) with rfl | hb
        · right; exact Nat.le_refl _
        · left; rw [hfp]; simp [hb]
    refine ⟨rfl, ⟨bq :: bm :: ([ba] ++ blks L'), ⟨.slice (some ⟨ba, 0, none⟩) (L.length + 1) cap', bm, L', ⟨g1, Or.inr ⟨ba, cap', by rw [hl'], by rw [hl']; exact g2⟩, by rw [hl']; exact g4, hm3, ?_, ?_, ?_, by simp [Value.ownBlock], ?_, ?_, by omega⟩⟩, hg⟩, ?_⟩
    · rw [hpk.nodup_iff]
      refine List.nodup_cons.2 ⟨fun hm => ?_, h.keys⟩
      obtain ⟨x, hx, e⟩ := List.mem_map.1 hm
      exact hno x hx e
    · rw [delS_none hnoS]; exact ins_row h.row hnoS
    · rw [delS_none hnoS]; exact perm_new h.perm ⟨w.heap.size, k, t⟩ g3
    · have q1 := g2.nodup
      have q2 := List.nodup_cons.1 q1
      refine List.nodup_cons.2 ⟨fun hm => ?_, List.nodup_cons.2 ⟨fun hm => ?_, q2.2⟩⟩
      · rcases List.mem_cons.1 hm with e | hm
        · exact hbqm e
        · exact q2.1 hm
      · rcases List.mem_cons.1 hm with e | hm
        · subst e
          rcases g5 with g5 | g5
          · exact hbl bm (by simp [g5]) rfl
          · omega
        · rcases List.mem_cons.1 (hpb.mem_iff.1 hm) with e | hm
          · omega
          · exact hbl bm (List.mem_append_right _ hm) rfl
    · intro x hx
      rcases List.mem_append.1 (g3.mem_iff.1 hx) with hx | hx
      · exact h.small x hx
      · simp at hx; subst hx; exact hk
    · have m1 : Mod F w (w.alloc (.cells #[.string k, .int .i64 t, .int .i64 0] 124)) := (Mod.refl F w).alloc _
      have m2 : Mod F w w2 := m1.trans hturn.mod (fun b hb => Or.inl (by simp at hb; subst hb; rw [hfp]; simp))
      refine m2.trans g6 (fun b hb => ?_)
      rcases List.mem_cons.1 hb with rfl | hb
      · left; rw [hfp]; simp
      · rcases List.mem_cons.1 hb with rfl | hb
        · right; exact Nat.le_refl _
        · left; rw [hfp]; exact List.mem_cons_of_mem _ (List.mem_cons_of_mem _ hb)
  have c0 : w.cell? ⟨bq, 0, none⟩ = some (.slice a L.length cap) := by rw [← hv]; exact cell_of h.q rfl
  have c1 : w.cell? ⟨bq, 1, none⟩ = some (.map (some bm)) := cell_of h.q rfl
  have c3 : w2.cell? ⟨bq, 0, none⟩ = some (.slice a L.length cap) := by rw [← hv]; exact cell_of hq2 rfl
  have hlm : (L.length : Int) < 1024 := by omega
  have HE := Lib.hid E
  have HP := Lib.hid cp
  have hsz2' := Lib.hid hsz2
  have hkk := Lib.hid hkey
  clear E cp hbi2 hit2 hown2 hq2 hbl hbqm old hlt hnd hm2 hc hturn hfp hv hnd2 hsz2 hkey h hno lm
  go_enter Try.func52, Try.ntmps52
  go_wp2_with fail
  refine HP.out.mono ?_
  rintro e w3 hp
  obtain rfl := hp.ret
  have hp := Lib.hid (HE.out w3 hp)
  go_wp2_with fail
  go_ret
  exact hp.out

/-- 'Set'. -/
theorem qset {w : World} {bq : Nat} {S : List KT} {F : List Nat} (h : IsQ w bq S F) {k : ByteArray} (hk : k.size ≤ maxLen) (t : Int) :
    Calls Try.prog 52 #[.pointer (some ⟨bq, 0, none⟩), .string k, .int .i64 t] w (QPost bq (setS S k t).1 F (.int .i64 (setS S k t).2) w) := by
  by_cases ht : t < 0 ∨ 1099511627776 < t
  · rw [setS, if_pos ht]
    exact (qset_arg k t ht).mono fun e w' ⟨he, hw⟩ => by subst hw; exact ⟨he, ⟨F, h, Grew.refl _ _⟩, Mod.refl _ _⟩
  · have hh := h
    obtain ⟨v, bm, L, h⟩ := h
    have h0 : 0 ≤ t := by omega
    have h1 : t ≤ 1099511627776 := by omega
    rcases h.find hk with ⟨i, hi, e1, e2, e3⟩ | ⟨e1, e2, e3⟩
    · rw [setS, if_neg ht, if_neg (by rw [e2]; simp)]
      rcases h.st with ⟨_, rfl⟩ | ⟨ba, cap, rfl, hs⟩
      · simp at hi
      · subst e1
        exact qset_there h hs hi t h0 h1 e3
    · have hl := h.len
      by_cases hn : 1024 ≤ L.length
      · rw [setS, if_neg ht, if_pos ⟨e1, by omega⟩]
        obtain ⟨a, cap, hv⟩ := h.val
        have hm := h.most
        exact (qset_full k t h0 h1 hn (by omega) (by rw [← hv]; exact cell_of h.q rfl) (cell_of h.q rfl) e3).mono fun e w' ⟨he, hw⟩ => by subst hw; exact ⟨he, ⟨F, hh, Grew.refl _ _⟩, Mod.refl _ _⟩
      · rw [setS, if_neg ht, if_neg (by omega)]
        exact qset_new h hk t h0 h1 (by omega) e2 e3
end Go.Proofs.Ytcakgponofbhkaa
