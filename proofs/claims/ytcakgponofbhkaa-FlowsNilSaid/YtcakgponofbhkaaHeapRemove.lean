/- The library's heap: one taken out. -/
import Derived.Test.YtcakgponofbhkaaHeapOps
namespace Go.Proofs.Ytcakgponofbhkaa
open Go.RowKit
set_option linter.unusedVariables false
set_option maxRecDepth 100000

structure RemPost (bq ba n cap : Nat) (m : Value) (L : List It) (x : It) (w : World) (e : Ending) (w' : World) : Prop where
  ret : ∃ v, e = .returned v
  now : ∃ L', w'.heap[bq]? = some (.cells #[.slice (some ⟨ba, 0, none⟩) n cap, m] 121 (0, 0)) ∧ HS w' bq ba n cap L' ∧ (L' ++ [x]).Perm L ∧ HeapP n (gk L')
  mod : Mod (bq :: ba :: blks L) w w'

theorem take_last {L : List It} {n : Nat} (h : n + 1 = L.length) : L.take n ++ [ith L n] = L := by
  rw [ith_lt (by omega)]
  have := List.take_append_getElem (l := L) (i := n) (by omega)
  rw [this, List.take_of_length_le (by omega)]

theorem rem_pop {w w2 : World} {bq ba n cap : Nat} {m : Value} {L L2 : List It} {x : It} (hq : w2.heap[bq]? = some (.cells #[.slice (some ⟨ba, 0, none⟩) (n + 1) cap, m] 121 (0, 0)))
    (h2 : HS w2 bq ba (n + 1) cap L2) (hp : L2.Perm L) (hmod : Mod (ba :: blks L) w w2) (hx : ith L2 n = x) (hh : HeapP n (gk L2)) :
    Calls Try.prog 155 #[.pointer (some ⟨bq, 0, none⟩)] w2 (RemPost bq ba n cap m L x w) := by
  refine (ipop h2 hq).mono fun e w3 ⟨h1, h3, h4, h5⟩ => ⟨h1, ⟨_, h3, h4, ?_, ?_⟩, ?_⟩
  · rw [← hx, take_last h2.len]; exact hp
  · intro c h0 hc
    have hl := h2.len
    unfold gk
    rw [ith_take hc (by omega), ith_take (by unfold par; omega) (by omega)]
    exact hh c h0 hc
  · exact (hmod.mono (fun b hb => List.mem_cons_of_mem _ hb)).trans h5 (fun b hb => by simp at hb; subst hb; left; simp)

theorem heap_less {n : Nat} {g : Nat → KT} (h : HeapP (n + 1) g) : HeapP n g := fun c h0 h1 => h c h0 (by omega)

set_option maxHeartbeats 2000000 in
theorem remove_hs {w : World} {bq ba n cap : Nat} {m : Value} {L : List It} (h : HS w bq ba (n + 1) cap L) (hq : w.heap[bq]? = some (.cells #[.slice (some ⟨ba, 0, none⟩) (n + 1) cap, m] 121 (0, 0)))
    (hh : HeapP (n + 1) (gk L)) (i : Nat) (hi : i ≤ n) :
    Calls Try.prog 81 #[.iface 126 (.pointer (some ⟨bq, 0, none⟩)), .int .i64 i] w (RemPost bq ba n cap m L (ith L i) w) := by
  have hm := m_Len h.cell
  have hms := m_Swap h.cell
  have hmp := m_Pop ⟨bq, 0, none⟩
  have hmost := h.most
  by_cases hin : i = n
  · subst hin
    have cp := Lib.hid (rem_pop hq h (List.Perm.refl _) (Mod.refl _ w) rfl (heap_less hh))
    have hb : ((i : Int) != (i : Int)) = false := by simp
    clear hq hh h
    go_enter Try.func81, Try.ntmps81
    go_wp2_with fail
    refine (ilen _ _ _ _).mono ?_
    rintro e w1 ⟨rfl, rfl⟩
    go_wp2_with fail
    refine cp.out.mono ?_
    rintro e w2 hr
    obtain ⟨v, rfl⟩ := hr.ret
    have hr := Lib.hid hr
    go_wp2_with fail
    go_ret
    exact hr.out
  · have hl : n + 1 ≤ L.length ∧ L.length ≤ n + 1 := by have := h.len; omega
    have hb : ((n : Int) != (i : Int)) = true := by simp; omega
    have cs := Lib.hid (swap_hs h (i := i) (j := n) (by omega) (by omega) hin)
    have hgs : gk (swl L i n) = swf (gk L) i n := gk_swl (by omega) (by omega)
    have hx1 : ExceptP n (gk (swl L i n)) i := by
      refine ((heap_less hh).except i (by omega)).other (fun k hk hki => ?_)
      rw [hgs]; unfold swf
      rw [if_neg (by omega), if_neg hki]
    have hxl : ith (swl L i n) n = ith L i := by rw [ith_swl (by omega) (by omega), if_pos rfl]
    have hper : (swl L i n).Perm L := swl_perm (by omega) (by omega)
    have hqb : bq ∉ ba :: blks L := (List.nodup_cons.1 h.nodup).1
    have Q : ∀ w2, Mod (ba :: blks L) w w2 → w2.heap[bq]? = some (.cells #[.slice (some ⟨ba, 0, none⟩) (n + 1) cap, m] 121 (0, 0)) := fun w2 hmo => by
      rw [hmo.block bq (hp_lt hq) hqb]; exact hq
    have hmo2 : ∀ L2 w1 w2, Mod (ba :: blks L) w w1 → HP bq ba (n + 1) cap n (swl L i n) w1 L2 w2 → Mod (ba :: blks L) w w2 := fun L2 w1 w2 h1 h2 =>
      h1.trans h2.mod (fun b hb => Or.inl (by
        rcases List.mem_cons.1 hb with rfl | hb
        · simp
        · exact List.mem_cons_of_mem _ ((hper.map It.blk).mem_iff.1 hb)))
    have D : ∀ w1, HS w1 bq ba (n + 1) cap (swl L i n) → Calls Try.prog 93 #[.iface 126 (.pointer (some ⟨bq, 0, none⟩)), .int .i64 i, .int .i64 n] w1 (DownPost bq ba (n + 1) cap n i (swl L i n) w1) :=
      fun w1 h1 => down_hs h1 (by omega) i (by omega) hx1
    have Pp : ∀ w1 L2 w2, Mod (ba :: blks L) w w1 → HP bq ba (n + 1) cap n (swl L i n) w1 L2 w2 → HeapP n (gk L2) →
        Calls Try.prog 155 #[.pointer (some ⟨bq, 0, none⟩)] w2 (RemPost bq ba n cap m L (ith L i) w) := fun w1 L2 w2 h1 h2 h3 =>
      rem_pop (Q w2 (hmo2 L2 w1 w2 h1 h2)) h2.hs (h2.perm.trans hper) (hmo2 L2 w1 w2 h1 h2) (by rw [h2.above n (Nat.le_refl n), hxl]) h3
    have U : ∀ w1 L2 w2, HP bq ba (n + 1) cap n (swl L i n) w1 L2 w2 → ExceptP n (gk L2) i → KidsP n (gk L2) i → Calls Try.prog 94 #[.iface 126 (.pointer (some ⟨bq, 0, none⟩)), .int .i64 i] w2 (UpPost bq ba (n + 1) cap n (swl L i n) w1) :=
      fun w1 L2 w2 h1 h2 h3 => (up_hs h1.hs (by omega) i (by omega) h2 h3).mono fun e w3 ⟨he, L3, h4, h5⟩ => ⟨he, L3, h1.trans h4, h5⟩
    have HD := Lib.hid D
    have HPp := Lib.hid Pp
    have HU := Lib.hid U
    clear D Pp U hq hh h Q hmo2 hxl hper hqb hgs hx1
    go_enter Try.func81, Try.ntmps81
    go_wp2_with fail
    refine (ilen _ _ _ _).mono ?_
    rintro e w1 ⟨rfl, rfl⟩
    go_wp2_with fail
    refine cs.out.mono ?_
    rintro e w1 ⟨rfl, hs1, hmo1⟩
    have cd := Lib.hid (HD.out w1 hs1)
    have HM := Lib.hid hmo1
    clear hs1 hmo1
    go_wp2_with fail
    refine cd.out.mono ?_
    rintro e w2 ⟨b, L2, rfl, hp, ht, hf⟩
    cases b with
    | true =>
      have cp := Lib.hid (HPp.out w1 L2 w2 HM.out hp (ht rfl))
      clear hp ht hf
      go_wp2_with fail
      refine cp.out.mono ?_
      rintro e w3 hr
      obtain ⟨v, rfl⟩ := hr.ret
      have hr := Lib.hid hr
      go_wp2_with fail
      go_ret
      exact hr.out
    | false =>
      have cu := Lib.hid (HU.out w1 L2 w2 hp (hf rfl).1 (hf rfl).2)
      clear hp ht hf
      go_wp2_with fail
      refine cu.out.mono ?_
      rintro e w3 ⟨he, L3, h3, h4⟩
      subst he
      have cp := Lib.hid (HPp.out w1 L3 w3 HM.out h3 h4)
      clear h3 h4
      go_wp2_with fail
      refine cp.out.mono ?_
      rintro e w4 hr
      obtain ⟨v, rfl⟩ := hr.ret
      have hr := Lib.hid hr
      go_wp2_with fail
      go_ret
      exact hr.out
end Go.Proofs.Ytcakgponofbhkaa
