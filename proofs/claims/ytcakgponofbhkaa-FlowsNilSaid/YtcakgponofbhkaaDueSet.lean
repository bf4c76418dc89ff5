/- The queue: a key's time is set. -/
import Derived.Test.YtcakgponofbhkaaDueWalk
import Derived.StillTailTactics
namespace Go.Proofs.Ytcakgponofbhkaa
open Go.RowKit
open Go.Maps (Keyed)
set_option linter.unusedVariables false
set_option maxRecDepth 100000

/-- Behind a call that changes the queue. -/
structure QPost (bq : Nat) (S' : List KT) (F : List Nat) (r : Value) (w : World) (e : Ending) (w' : World) : Prop where
  ret : e = .returned r
  now : ∃ F', IsQ w' bq S' F' ∧ Grew F F' w
  mod : Mod F w w'

/-! ### another time for an item that is there -/
def setT (L : List It) (i : Nat) (t : Int) : List It := L.set i ⟨(ith L i).blk, (ith L i).key, t⟩
theorem ith_setT {L : List It} {i : Nat} (hi : i < L.length) (t : Int) (k : Nat) : ith (setT L i t) k = if k = i then ⟨(ith L i).blk, (ith L i).key, t⟩ else ith L k := by
  simp only [setT, ith, List.getD_eq_getElem?_getD, List.getElem?_set]
  by_cases h : k = i
  · subst h; simp [hi]
  · simp [h, Ne.symm h]
theorem setT_blks {L : List It} {i : Nat} (hi : i < L.length) (t : Int) : blks (setT L i t) = blks L := by
  apply List.ext_getElem
  · simp [setT]
  · intro j h1 h2
    simp only [setT, List.getElem_map, List.getElem_set]
    split
    · rename_i e; subst e; simp [ith_lt hi]
    · rfl
theorem setT_keys {L : List It} {i : Nat} (hi : i < L.length) (t : Int) : (setT L i t).map It.key = L.map It.key := by
  apply List.ext_getElem
  · simp [setT]
  · intro j h1 h2
    simp only [setT, List.getElem_map, List.getElem_set]
    split
    · rename_i e; subst e; simp [ith_lt hi]
    · rfl
theorem setT_length (L : List It) (i : Nat) (t : Int) : (setT L i t).length = L.length := by simp [setT]

theorem HS.setT {w : World} {bq ba n cap : Nat} {L : List It} (h : HS w bq ba n cap L) {i : Nat} (hi : i < L.length) (t : Int) : HS (w.setCell ⟨(ith L i).blk, 1, none⟩ (.int .i64 t)) bq ba n cap (setT L i t) := by
  have ai : ba ≠ (ith L i).blk := fun e => h.ab (e ▸ blk_mem hi)
  have qi : bq ≠ (ith L i).blk := fun e => h.qb (e ▸ blk_mem hi)
  refine ⟨?_, by rw [setT_length]; exact h.len, h.room, h.capm, h.most, by rw [setT_blks hi]; exact h.nodup, ?_, fun k hk => ?_⟩
  · rw [World.cell?_setCell_other _ _ _ _ (by simp)]; exact h.cell
  · obtain ⟨C, hC, h2, h3⟩ := h.arr
    refine ⟨C, by rw [hp_setCell_other (by exact ai)]; exact hC, h2, fun k hk => ?_⟩
    rw [ith_setT hi]
    split
    · rename_i e; subst e; exact h3 k hk
    · exact h3 k hk
  · obtain ⟨T, hT⟩ := h.item k hk
    rw [ith_setT hi]
    by_cases e : k = i
    · subst e
      refine ⟨T, ?_⟩
      rw [if_pos rfl, hp_setCell_same hT]
      simp
    · refine ⟨T, ?_⟩
      rw [if_neg e, hp_setCell_other (by exact blk_ne h.nb (by have := h.len; omega) hi e)]
      exact hT

theorem gk_setT {L : List It} {i : Nat} (hi : i < L.length) (t : Int) : ∀ k, k ≠ i → gk (setT L i t) k = gk L k := by
  intro k hk
  unfold gk
  rw [ith_setT hi, if_neg hk]

theorem entR_perm {L L' : List It} (h : L'.Perm L) (k v : Value) : entR L' k v ↔ entR L k v := by
  unfold entR
  constructor
  · rintro ⟨x, hx, h1⟩; exact ⟨x, h.mem_iff.1 hx, h1⟩
  · rintro ⟨x, hx, h1⟩; exact ⟨x, h.mem_iff.2 hx, h1⟩
theorem entR_setT {L : List It} {i : Nat} (hi : i < L.length) (t : Int) (k v : Value) : entR (setT L i t) k v ↔ entR L k v := by
  have aux : ∀ L1 L2 : List It, blks L1 = blks L2 → L1.map It.key = L2.map It.key → ∀ k v, entR L1 k v → entR L2 k v := by
    rintro L1 L2 h1 h2 k v ⟨x, hx, rfl, rfl⟩
    obtain ⟨j, hj, rfl⟩ := List.mem_iff_getElem.1 hx
    have hl : L1.length = L2.length := by simpa using congrArg List.length h1
    have e1 : (blks L1)[j]? = (blks L2)[j]? := by rw [h1]
    have e2 : (L1.map It.key)[j]? = (L2.map It.key)[j]? := by rw [h2]
    simp [hj, (by omega : j < L2.length)] at e1 e2
    exact ⟨L2[j], List.getElem_mem _, by rw [e2], by simp [ptrV, e1]⟩
  exact ⟨aux _ _ (setT_blks hi t) (setT_keys hi t) k v, aux _ _ (setT_blks hi t).symm (setT_keys hi t).symm k v⟩

theorem qs_fixed {w w2 : World} {bq ba cap bm : Nat} {L L2 : List It} {S : List KT} {F : List Nat} (h : QS w bq (.slice (some ⟨ba, 0, none⟩) L.length cap) bm L S F) {i : Nat} (hi : i < L.length) (t : Int)
    (hp : HP bq ba L.length cap L.length (setT L i t) (w.setCell ⟨(ith L i).blk, 1, none⟩ (.int .i64 t)) L2 w2) (hh : HeapP L.length (gk L2)) :
    IsQ w2 bq (ins ((ith L i).key, t) (delS (ith L i).key S)) (bq :: bm :: ([ba] ++ blks L2)) ∧ Grew F (bq :: bm :: ([ba] ++ blks L2)) w ∧ Mod F w w2 := by
  have hl2 : L2.length = L.length := by rw [hp.perm.length_eq, setT_length]
  have hfp := h.fp
  have hpb : (blks L2).Perm (blks L) := by have := hp.perm.map It.blk; rw [show List.map It.blk (setT L i t) = blks L from setT_blks hi t] at this; exact this
  have hkp : (L2.map It.key).Perm (L.map It.key) := by have := hp.perm.map It.key; rw [setT_keys hi t] at this; exact this
  have hFp : (bq :: bm :: ([ba] ++ blks L2)).Perm F := by rw [hfp]; exact ((hpb.cons ba).cons bm).cons bq
  have hmod : Mod F w w2 := by
    have h1 : Mod F w (w.setCell ⟨(ith L i).blk, 1, none⟩ (.int .i64 t)) := (Mod.refl F w).setCell (Or.inl (by rw [hfp]; simp [Value.ownBlock, blk_mem hi])) _
    refine h1.trans hp.mod (fun b hb => Or.inl ?_)
    rw [setT_blks hi] at hb
    rw [hfp]
    rcases List.mem_cons.1 hb with rfl | hb
    · simp [Value.ownBlock]
    · simp [hb]
  have hnd := h.nodup
  rw [hfp] at hnd
  have hbq : bq ∉ ba :: blks (setT L i t) := by
    rw [setT_blks hi]; intro hm; exact (List.nodup_cons.1 hnd).1 (List.mem_cons_of_mem _ hm)
  have hbm : bm ∉ ba :: blks (setT L i t) := by
    rw [setT_blks hi]; exact (List.nodup_cons.1 (List.nodup_cons.1 hnd).2).1
  have hbi : (ith L i).blk ∈ ba :: blks L := List.mem_cons_of_mem _ (blk_mem hi)
  refine ⟨⟨.slice (some ⟨ba, 0, none⟩) L.length cap, bm, L2, ⟨?_, ?_, by rw [hl2]; exact hh, ?_, hkp.nodup_iff.2 h.keys, ?_, ?_, by simp [Value.ownBlock], hFp.nodup_iff.2 h.nodup, ?_, by rw [hl2]; exact h.most⟩⟩, ?_, hmod⟩
  · rw [hp.mod.block bq (by simpa using hp_lt h.q) hbq, hp_setCell_other]
    · exact h.q
    · intro e; rw [setT_blks hi] at hbq; exact hbq (by rw [show bq = (ith L i).blk from e]; exact hbi)
  · exact Or.inr ⟨ba, cap, by rw [hl2], by rw [hl2]; exact hp.hs⟩
  · have h1 : MapR Try.prog 9 w2 bm (entR L) L.length := h.mp.keep (by
      rw [hp.mod.block bm (by simpa using h.mp.lt) hbm, hp_setCell_other]
      intro e; rw [setT_blks hi] at hbm; exact hbm (by rw [show bm = (ith L i).blk from e]; exact hbi))
    rw [hl2]
    exact h1.congr (fun k v => (entR_perm hp.perm k v).trans (entR_setT hi t k v))
  · exact ins_row (delS_row h.row _) (fun y hy => (delS_mem.1 hy).2)
  · exact (perm_set h.keys h.perm hi t).1.trans (hp.perm.map It.kt).symm
  · intro x hx
    have := List.mem_map_of_mem (f := It.key) hx
    rw [hkp.mem_iff] at this
    obtain ⟨y, hy, e⟩ := List.mem_map.1 this
    rw [← e]; exact h.small y hy
  · exact fun b hb => Or.inl (hFp.mem_iff.1 hb)

theorem qset_nil (k : ByteArray) (t : Int) (w : World) : Calls Try.prog 52 #[.pointer none, .string k, .int .i64 t] w fun e w' => e = .returned (.int .i64 1) ∧ w = w' := by
  go_enter Try.func52, Try.ntmps52
  go_wp2
  go_ret
  exact ⟨rfl, rfl⟩

set_option maxHeartbeats 1000000 in
theorem qset_arg {w : World} {bq : Nat} (k : ByteArray) (t : Int) (ht : t < 0 ∨ 1099511627776 < t) : Calls Try.prog 52 #[.pointer (some ⟨bq, 0, none⟩), .string k, .int .i64 t] w fun e w' => e = .returned (.int .i64 1) ∧ w = w' := by
  by_cases h0 : t < 0
  · clear ht
    go_enter Try.func52, Try.ntmps52
    go_wp2
    go_ret
    exact ⟨rfl, rfl⟩
  · have h1 : 1099511627776 < t := by omega
    have h0' : decide (t < 0) = false := by simp; omega
    clear ht h0
    go_enter Try.func52, Try.ntmps52
    go_wp2
    go_ret
    exact ⟨rfl, rfl⟩

set_option maxHeartbeats 1000000 in
theorem qset_there {w : World} {bq ba cap bm : Nat} {L : List It} {S : List KT} {F : List Nat} (h : QS w bq (.slice (some ⟨ba, 0, none⟩) L.length cap) bm L S F) (hs : HS w bq ba L.length cap L) {i : Nat} (hi : i < L.length) (t : Int) (h0 : 0 ≤ t) (h1 : t ≤ 1099511627776)
    (hl : (Instr.lookup 117 (.map (some bm)) (.string (ith L i).key) false).run Try.prog w = .ok (.pointer (some ⟨(ith L i).blk, 0, none⟩)) w) :
    Calls Try.prog 52 #[.pointer (some ⟨bq, 0, none⟩), .string (ith L i).key, .int .i64 t] w (QPost bq (ins ((ith L i).key, t) (delS (ith L i).key S)) F (.int .i64 0) w) := by
  obtain ⟨bi, ebi⟩ : ∃ b, (ith L i).blk = b := ⟨_, rfl⟩
  have c0 := hs.cell
  have c1 : w.cell? ⟨bq, 1, none⟩ = some (.map (some bm)) := cell_of h.q rfl
  have ct := hs.tm hi
  have cx := hs.ix hi
  have ft := hs.ifree hi 1
  have hs1 := hs.setT hi t
  have hx : ExceptP L.length (gk (setT L i t)) i := (h.heap.except i hi).other (fun k _ hk => gk_setT hi t k hk)
  have cf : ∀ m, Calls Try.prog 75 #[.iface 126 (.pointer (some ⟨bq, 0, none⟩)), .int .i64 i] ((w.setCell ⟨(ith L i).blk, 1, none⟩ (.int .i64 t)).drewN m) (QPost bq (ins ((ith L i).key, t) (delS (ith L i).key S)) F (.tuple #[]) w) := by
    intro m
    refine (fix_hs (hs1.drewN m) i hi hx).mono fun e w2 ⟨he, L2, hp, hh⟩ => ?_
    have hp' : HP bq ba L.length cap L.length (setT L i t) (w.setCell ⟨(ith L i).blk, 1, none⟩ (.int .i64 t)) L2 w2 := ⟨hp.hs, hp.perm, ⟨hp.mod.os, hp.mod.tape, hp.mod.output, hp.mod.size, hp.mod.block⟩, hp.above⟩
    obtain ⟨g1, g2, g3⟩ := qs_fixed h hi t hp' hh
    exact ⟨he, ⟨_, g1, g2⟩, g3⟩
  have E : ∀ w2, QPost bq (ins ((ith L i).key, t) (delS (ith L i).key S)) F (.tuple #[]) w (.returned (.tuple #[])) w2 → QPost bq (ins ((ith L i).key, t) (delS (ith L i).key S)) F (.int .i64 0) w (.returned (.int .i64 0)) w2 :=
    fun w2 hq => ⟨rfl, hq.now, hq.mod⟩
  rw [ebi] at ct cx ft cf hl
  generalize (ith L i).key = k at *
  have HF := Lib.hid cf
  have HE := Lib.hid E
  have hlm : (L.length : Int) ≤ 4096 := by have := h.most; omega
  clear cf E hs1 hx ebi h hs
  go_enter Try.func52, Try.ntmps52
  go_wp2_with fail
  have cx1 : (w.setCell ⟨bi, 1, none⟩ (.int .i64 t)).cell? ⟨bi, 2, none⟩ = some (.int .i64 i) := by rw [World.cell?_setCell_other _ _ _ _ (by simp)]; exact cx
  generalize w.setCell ⟨bi, 1, none⟩ (.int .i64 t) = w1 at *
  go_still_tail 8, (by kernel_rfl)
  change wpList _ _ _ _ _ (w1.drewN 1)
  go_wp2_with fail
  refine (HF.out 1).mono ?_
  rintro e w2 hq
  obtain rfl := hq.ret
  have hq := Lib.hid (HE.out w2 hq)
  go_wp2_with fail
  go_ret
  exact hq.out
end Go.Proofs.Ytcakgponofbhkaa
