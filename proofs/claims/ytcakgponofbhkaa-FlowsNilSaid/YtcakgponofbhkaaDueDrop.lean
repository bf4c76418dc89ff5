/- The queue: a new one; a key dropped. -/
import Derived.Test.YtcakgponofbhkaaDueSetNew
namespace Go.Proofs.Ytcakgponofbhkaa
open Go.RowKit
open Go.Maps (Keyed)
set_option linter.unusedVariables false
set_option maxRecDepth 100000

def NewPost (w : World) (e : Ending) (w' : World) : Prop := ∃ bq F, e = .returned (.pointer (some ⟨bq, 0, none⟩)) ∧ IsQ w' bq [] F ∧ (∀ b ∈ F, w.heap.size ≤ b) ∧ Mod [] w w'
theorem new_world (w : World) : NewPost w (.returned (.pointer (some ⟨w.heap.size + 1, 0, none⟩))) ((w.alloc (.map #[] 0)).alloc (.cells #[.slice none 0 0, .map (some w.heap.size)] 121)) := by
  refine ⟨w.heap.size + 1, [w.heap.size + 1, w.heap.size], rfl, ⟨.slice none 0 0, w.heap.size, [], ?_, Or.inl ⟨rfl, rfl⟩, ?_, ?_, by simp, by simp [Row], by simp, by simp [Value.ownBlock], by simp, by simp, by simp⟩, ?_, ?_⟩
  · exact hp_alloc_at (by simp)
  · intro c h0 h1; simp at h1
  · have := map_made Try.prog 9 w
    exact (this.keep (hp_alloc_old (by simp))).congr (fun k v => by simp [entR])
  · intro b hb; simp at hb; omega
  · exact ((Mod.refl [] w).alloc _).alloc _
theorem qnew (w : World) : Calls Try.prog 50 #[] w (NewPost w) := by
  have HE := Lib.hid (new_world w)
  have hmm := @run_makeMap Try.prog
  go_enter Try.func50, Try.ntmps50
  go_wp2_with fail
  go_ret
  exact HE.out

theorem qdrop_nil (k : ByteArray) (w : World) : Calls Try.prog 60 #[.pointer none, .string k] w fun e w' => e = .returned (.bool false) ∧ w = w' := by
  go_enter Try.func60, Try.ntmps60
  go_wp2_with fail
  refine (qfind_nil _ _).mono ?_
  rintro e w1 ⟨rfl, rfl⟩
  go_wp2_with fail
  go_ret
  exact ⟨rfl, rfl⟩
theorem qdrop_none {w : World} {bq bm : Nat} {k : ByteArray} (c1 : w.cell? ⟨bq, 1, none⟩ = some (.map (some bm))) (hl : (Instr.lookup 117 (.map (some bm)) (.string k) false).run Try.prog w = .ok (.pointer none) w) :
    Calls Try.prog 60 #[.pointer (some ⟨bq, 0, none⟩), .string k] w fun e w' => e = .returned (.bool false) ∧ w = w' := by
  have cf := qfind_raw (v := .pointer none) rfl c1 hl
  clear c1 hl
  go_enter Try.func60, Try.ntmps60
  go_wp2_with fail
  refine cf.mono ?_
  rintro e w1 ⟨rfl, rfl⟩
  go_wp2_with fail
  go_ret
  exact ⟨rfl, rfl⟩

theorem entR_less {L L' : List It} {x : It} (h : (L' ++ [x]).Perm L) (hk : (L.map It.key).Nodup) (key v : Value) : entR L' key v ↔ (key ≠ .string x.key ∧ entR L key v) := by
  have hk' : ((L' ++ [x]).map It.key).Nodup := (h.map It.key).nodup_iff.2 hk
  rw [List.map_append] at hk'
  rw [← entR_perm h]
  unfold entR
  constructor
  · rintro ⟨y, hy, rfl, rfl⟩
    refine ⟨?_, y, List.mem_append_left _ hy, rfl, rfl⟩
    have := (List.nodup_append.1 hk').2.2 y.key (List.mem_map_of_mem hy) x.key (by simp)
    simpa using this
  · rintro ⟨hne, y, hy, rfl, rfl⟩
    rcases List.mem_append.1 hy with hy | hy
    · exact ⟨y, hy, rfl, rfl⟩
    · simp at hy; subst hy; exact absurd rfl hne

set_option maxRecDepth 100000 in
set_option maxHeartbeats 1000000 in
theorem qdrop_there {w : World} {bq ba cap bm : Nat} {L : List It} {S : List KT} {F : List Nat} (h : QS w bq (.slice (some ⟨ba, 0, none⟩) L.length cap) bm L S F) (hs : HS w bq ba L.length cap L) {i : Nat} (hi : i < L.length) {k : ByteArray} (hk : k.size ≤ maxLen) (hki : (ith L i).key = k)
    (hl : (Instr.lookup 117 (.map (some bm)) (.string k) false).run Try.prog w = .ok (.pointer (some ⟨(ith L i).blk, 0, none⟩)) w) :
    Calls Try.prog 60 #[.pointer (some ⟨bq, 0, none⟩), .string k] w (QPost bq (delS k S) F (.bool true) w) := by
  have cf := qfind_raw (v := .pointer none) rfl (cell_of h.q rfl) hl
  obtain ⟨n, hn⟩ : ∃ n, L.length = n + 1 := ⟨L.length - 1, by omega⟩
  have cx := hs.ix hi
  have hkey := WideMaps.keyOf_string_mk Try.underlying9 hk
  have cr : ∀ m, Calls Try.prog 81 #[.iface 126 (.pointer (some ⟨bq, 0, none⟩)), .int .i64 i] (w.drewN m) (RemPost bq ba n cap (.map (some bm)) L (ith L i) (w.drewN m)) := fun m =>
    remove_hs (by have := hs.drewN m; rwa [hn] at this) (by have := h.q; rwa [hn] at this) (by have := h.heap; rwa [hn] at this) i (by omega)
  have hfp := h.fp
  have hnd := h.nodup
  rw [hfp] at hnd
  have hbm : bm ∉ bq :: ba :: blks L := by
    intro hm
    rcases List.mem_cons.1 hm with e | hm
    · exact (List.nodup_cons.1 hnd).1 (by simp [e])
    · exact (List.nodup_cons.1 (List.nodup_cons.1 hnd).2).1 (by simpa [Value.ownBlock] using hm)
  have D : ∀ m e w2, RemPost bq ba n cap (.map (some bm)) L (ith L i) (w.drewN m) e w2 →
      w2.cell? ⟨bq, 1, none⟩ = some (.map (some bm)) ∧ ∃ w3, (Builtin.delete_ #[117, 9] 0 #[.map (some bm), .string k]).run Try.prog w2 = .ok (.tuple #[]) w3 ∧ QPost bq (delS k S) F (.bool true) w (.returned (.bool true)) w3 := by
    intro m e w2 hr
    obtain ⟨L', g1, g2, g3, g4⟩ := hr.now
    have hl' : L'.length = n := by have := g3.length_eq; simp at this; omega
    have hmod0 : Mod (bq :: ba :: blks L) w w2 := ⟨hr.mod.os, hr.mod.tape, hr.mod.output, hr.mod.size, hr.mod.block⟩
    have hm2 : MapR Try.prog 9 w2 bm (entR L) (n + 1) := by have := h.mp.keep (hmod0.block bm h.mp.lt hbm); rwa [hn] at this
    obtain ⟨w3, r1, r2, r3⟩ := hm2.del strLaw Try.underlying117 hkey 9 0
    have hm3 : MapR Try.prog 9 w3 bm (entR L') n := by
      rcases r3 with ⟨_, r3, _⟩ | ⟨r3, _⟩
      · exact r3.congr (fun key v => by rw [← hki]; exact entR_less g3 h.keys key v)
      · exact absurd ⟨ith L i, ith_mem hi, by rw [hki], rfl⟩ (r3 (ptrV (ith L i)))
    have hpb : ((blks L') ++ [(ith L i).blk]).Perm (blks L) := by have := g3.map It.blk; simpa using this
    have hsub : ∀ b, b ∈ blks L' → b ∈ blks L := fun b hb => hpb.mem_iff.1 (List.mem_append_left _ hb)
    have hq3 : w3.heap[bq]? = some (.cells #[.slice (some ⟨ba, 0, none⟩) n cap, .map (some bm)] 121 (0, 0)) := by
      rw [r2.block bq (fun e => hbm (by simp [e]))]; exact g1
    refine ⟨cell_of g1 rfl, w3, r1, rfl, ⟨bq :: bm :: ([ba] ++ blks L'), ⟨.slice (some ⟨ba, 0, none⟩) n cap, bm, L', hq3, Or.inr ⟨ba, cap, by rw [hl'], ?_⟩, by rw [hl']; exact g4, by rw [hl']; exact hm3, ?_, delS_row h.row k, ?_, by simp [Value.ownBlock], ?_, ?_, ?_⟩, ?_⟩, ?_⟩
    · rw [hl']
      refine g2.keep (fun b hb => r2.block b ?_)
      rintro rfl
      rcases List.mem_cons.1 hb with e | hb
      · exact hbm (by simp [e])
      · rcases List.mem_cons.1 hb with e | hb
        · exact hbm (by simp [e])
        · exact hbm (by simp [hsub _ hb])
    · have := (g3.map It.key).nodup_iff.2 h.keys
      rw [List.map_append] at this
      exact (List.nodup_append.1 this).1
    · rw [← hki]; exact perm_less h.keys h.perm _ g3
    · have := (((hpb.cons ba).cons bm).cons bq).nodup_iff.2 (by simpa [Value.ownBlock] using hnd)
      exact this.sublist (List.Sublist.cons_cons bq (List.Sublist.cons_cons bm (List.Sublist.cons_cons ba (List.sublist_append_left _ _))))
    · intro x hx; exact h.small x (g3.mem_iff.1 (List.mem_append_left _ hx))
    · have := h.most; omega
    · intro b hb
      left; rw [hfp]
      simp only [List.mem_cons, List.singleton_append] at hb
      rcases hb with rfl | rfl | rfl | hb
      · simp
      · simp
      · simp [Value.ownBlock]
      · simp [hsub b hb]
    · have m1 : Mod F w w2 := hmod0.mono (fun b hb => by
        rw [hfp]
        rcases List.mem_cons.1 hb with rfl | hb
        · simp
        · rcases List.mem_cons.1 hb with rfl | hb
          · simp [Value.ownBlock]
          · simp [hb])
      exact m1.trans r2.mod (fun b hb => Or.inl (by simp at hb; subst hb; rw [hfp]; simp))
  have HD := Lib.hid D
  have HR := Lib.hid cr
  generalize (ith L i).blk = bi at *
  generalize ith L i = x at *
  clear D cr hfp hnd hbm hkey hn hl h hs hki
  go_enter Try.func60, Try.ntmps60
  go_wp2_with fail
  refine cf.mono ?_
  rintro e w1 ⟨rfl, rfl⟩
  go_wp2_with fail
  go_still_tail 8, (by kernel_rfl)
  change wpList _ _ _ _ _ (w.drewN 1)
  go_wp2_with fail
  refine (HR.out 1).mono ?_
  rintro e w2 hr
  obtain ⟨c1, w3, hrun, hq⟩ := HD.out 1 e w2 hr
  obtain ⟨u, rfl⟩ := hr.ret
  have hq := Lib.hid hq
  clear hr
  go_wp2_with fail
  go_ret
  exact hq.out

/-- 'Drop'. -/
theorem qdrop {w : World} {bq : Nat} {S : List KT} {F : List Nat} (h : IsQ w bq S F) {k : ByteArray} (hk : k.size ≤ maxLen) :
    Calls Try.prog 60 #[.pointer (some ⟨bq, 0, none⟩), .string k] w (QPost bq (delS k S) F (.bool (atS S k).isSome) w) := by
  have hh := h
  obtain ⟨v, bm, L, h⟩ := h
  rcases h.find hk with ⟨i, hi, e1, e2, e3⟩ | ⟨e1, e2, e3⟩
  · rw [e2]
    rcases h.st with ⟨_, rfl⟩ | ⟨ba, cap, rfl, hs⟩
    · simp at hi
    · exact qdrop_there h hs hi hk e1 e3
  · rw [e1, delS_none (atS_none.1 e1)]
    exact (qdrop_none (cell_of h.q rfl) e3).mono fun e w' ⟨he, hw⟩ => by subst hw; exact ⟨he, ⟨F, hh, Grew.refl _ _⟩, Mod.refl _ _⟩
end Go.Proofs.Ytcakgponofbhkaa
