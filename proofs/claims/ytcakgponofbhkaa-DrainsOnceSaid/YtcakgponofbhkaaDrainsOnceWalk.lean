/- Each backend that drains is due once. -/
import Derived.Test.YtcakgponofbhkaaDrainsAsk
import Derived.Test.YtcakgponofbhkaaPairs
namespace Go.Proofs.Ytcakgponofbhkaa
open Go.RowKit Go.Shelf
open Go.Maps (Keyed)
set_option linter.unusedVariables false
set_option maxRecDepth 100000

/-- The first loop. -/
def PutR (bl bs vl vs : Nat) (L M : List BT) : List Asrt := [Cells vl #[.map (some bl)] 26, BMap bl L, Cells vs #[.pointer (some ⟨bs, 0, none⟩)] 24, DrA bs M]
def OnceRel1 (w0 : World) (len bl bs vl vs : Nat) (k : Value) (wr : World) : Prop :=
  ∃ (j : Nat) (L M : List BT), k = .int .i64 j ∧ j ≤ len ∧ L.Perm M ∧ AskInv L M [] ∧ Own w0 wr (PutR bl bs vl vs L M)
def OnceRel2 (w0 : World) (len bn bl bt bs vl vt vs : Nat) (k : Value) (wr : World) : Prop :=
  ∃ (j : Nat) (n : Int) (L M T : List BT), k = .int .i64 j ∧ j ≤ len ∧ AskInv L M T ∧ Own w0 wr (AskR bn bl bt bs vl vt vs n L M T)

theorem inv_put {L M : List BT} {b t : Int} (h : AskInv L M []) (hp : L.Perm M) (hb : MayB b) (ht : 0 ≤ t ∧ t ≤ 1099511627776) :
    ((b, t) :: delD b L).Perm (insD (b, t) (delD b M)) ∧ AskInv ((b, t) :: delD b L) (insD (b, t) (delD b M)) [] := by
  have h1 : ((b, t) :: delD b L).Perm (insD (b, t) (delD b M)) := ((hp.filter _).cons _).trans (put_perm b t M).symm
  refine ⟨h1, ⟨?_, fun x hx => ?_, ⟨[], h1, List.Perm.refl _⟩, by simp⟩⟩
  · refine List.nodup_cons.2 ⟨fun hm => ?_, KeysD.del h.keys b⟩
    obtain ⟨x, hx, e⟩ := List.mem_map.1 hm
    exact (delD_mem.1 hx).2 e
  · rcases List.mem_cons.1 hx with rfl | hx
    · exact ⟨hb, ht⟩
    · exact h.times x (delD_mem.1 hx).1
theorem putB_case (M : List BT) (b t : Int) : ((putB M b t).2 = 0 ∧ (putB M b t).1 = insD (b, t) (delD b M) ∧ MayB b ∧ 0 ≤ t ∧ t ≤ 1099511627776) ∨ ((putB M b t).2 ≠ 0 ∧ (putB M b t).1 = M) := by
  unfold putB
  split
  · rename_i hb
    unfold putD
    split
    · exact Or.inr ⟨by simp, rfl⟩
    · rename_i ht
      split
      · exact Or.inr ⟨by simp, rfl⟩
      · exact Or.inl ⟨rfl, rfl, hb, by omega, by omega⟩
  · exact Or.inr ⟨by simp, rfl⟩

theorem drop_all {p : BT → Bool} : ∀ {l : List BT}, (∀ x ∈ l, p x = true) → l.dropWhile p = []
  | [], _ => rfl
  | y :: r, h => by
    rw [List.dropWhile_cons, if_pos (h y (by simp))]
    exact drop_all (fun x hx => h x (List.mem_cons_of_mem _ hx))

set_option maxHeartbeats 16000000 in
theorem walk_DrainsOnce (w : World) {a : Option Addr} {len cap : Nat} {ps : List BT} (hp : ArgPairs w a len cap ps) {a2 : Option Addr} {len2 cap2 : Nat} {zs : List Int} (hz : ArgInts .i64 w a2 len2 cap2 zs) :
    Calls Try.prog 3 #[.slice a len cap, .slice a2 len2 cap2] w (TruePost w) := by
  have hlen : len ≤ 9223372036854775807 := by have := hp.room; have := hp.most; unfold maxLen at this; omega
  have hlen2 : len2 ≤ 9223372036854775807 := by have := hz.room; have := hz.most; unfold maxLen at this; omega
  have HPs := Lib.hid hp
  have HZ := Lib.hid hz
  clear hp hz
  have hmm := @run_makeMap Try.prog
  go_enter Try.func3, Try.ntmps3
  go_wp2_with fail
  refine (dnew (Own.nil w)).mono ?_
  rintro e w1 ⟨bs, rfl, ho⟩
  have h1 := (o_bmake (ho.cells #[.pointer (some ⟨bs, 0, none⟩)] 24)).cells #[.map (some (w1.heap.size + 1))] 26
  simp only [World.size_alloc] at h1
  have HS : Hid (OnceRel1 w len (w1.heap.size + 1) bs (w1.heap.size + 1 + 1) w1.heap.size (.int .i64 0) (((w1.alloc (.cells #[.pointer (some ⟨bs, 0, none⟩)] 24)).alloc (.map #[] 0)).alloc (.cells #[.map (some (w1.heap.size + 1))] 26))) :=
    Lib.hid ⟨0, [], [], rfl, Nat.zero_le _, List.Perm.refl _, ⟨by simp [KeysD], by simp, ⟨[], List.Perm.refl _, List.Perm.refl _⟩, by simp⟩, h1⟩
  clear ho h1
  go_wp2_with fail
  generalize w1.heap.size + 1 + 1 = vl at *
  generalize w1.heap.size + 1 = bl at *
  generalize w1.heap.size = vs at *
  go_loopw [18] (OnceRel1 w len bl bs vl vs) (fun v _ => len - (intOf v).toNat)
  case atStart => exact HS.out
  case round =>
    obtain ⟨k, L, M, rfl, hk, hpm, hinv, ho⟩ := hrel
    clear HS
    by_cases hlt : k < len
    · obtain ⟨b, o, x, t, rfl, hb, _, ⟨wx, wt⟩, c0, c1⟩ := HPs.out.read hlt
      rw [← ho.old hb] at c0 c1
      have hlt' : (k : Int) < (len : Int) := by omega
      have HO := Lib.hid ho
      have HI := Lib.hid hinv
      have HPM := Lib.hid hpm
      clear ho hinv hpm hlt
      by_cases hk6 : k < 60
      · have hk6' : (k : Int) < 60 := by omega
        have HC := Lib.hid (HO.out.cells #[.int .i64 x, .int .i64 t] 28)
        have d0 : (wr.alloc (.cells #[.int .i64 x, .int .i64 t] 28)).cell? ⟨vs, 0, none⟩ = some (.pointer (some ⟨bs, 0, none⟩)) := cell_of (HC.out.block 3 rfl) rfl
        have HPut := Lib.hid (o_dput HC.out 4 rfl x t)
        have Hcase := Lib.hid (putB_case M x t)
        go_wp2_with fail
        refine HPut.out.mono ?_
        rintro e w2 ⟨rfl, h2⟩
        rcases Hcase.out with ⟨q1, q2, hmay, ht⟩ | ⟨q1, q2⟩
        · have d1 : w2.cell? ⟨vl, 0, none⟩ = some (.map (some bl)) := cell_of (h2.block 1 rfl) rfl
          have d2 : w2.cell? ⟨wr.heap.size, 0, none⟩ = some (.int .i64 x) := cell_of (h2.block 0 rfl) rfl
          have d3 : w2.cell? ⟨wr.heap.size, 1, none⟩ = some (.int .i64 t) := cell_of (h2.block 0 rfl) rfl
          obtain ⟨w3, hr, h3⟩ := o_bput h2 2 rfl HI.out.keys Try.underlying26 (may_lit hmay) t
          obtain ⟨i1, i2⟩ := inv_put HI.out HPM.out hmay ht
          have HR : Hid (OnceRel1 w len bl bs vl vs (.int .i64 (k + 1)) w3) := by
            refine Lib.hid ⟨k + 1, _, _, by congr 1, by omega, i1, i2, ?_⟩
            have := h3.drop
            rw [q2] at this
            exact this
          rw [q1]
          clear h2 h3 i1 i2 q1 q2 hmay ht HPut Hcase
          go_wp2_with fail
          go_roundw
          case rel => exact HR.out
          case measure => simp [intOf]; omega
        · have hn0 : ((putB M x t).2 == 0) = false := beq_eq_false_iff_ne.2 q1
          have HR : Hid (OnceRel1 w len bl bs vl vs (.int .i64 (k + 1)) w2) := by
            refine Lib.hid ⟨k + 1, L, M, by congr 1, by omega, HPM.out, HI.out, ?_⟩
            have := h2.drop
            rw [q2] at this
            exact this
          clear h2 q1 q2 HPut Hcase
          generalize (putB M x t).2 = n0 at *
          go_wp2_with fail
          go_roundw
          case rel => exact HR.out
          case measure => simp [intOf]; omega
      · have hk6' : (60 : Int) ≤ (k : Int) := by omega
        have hd60 : decide ((k : Int) < 60) = false := by simp; omega
        have HR : Hid (OnceRel1 w len bl bs vl vs (.int .i64 (k + 1)) (wr.alloc (.cells #[.int .i64 x, .int .i64 t] 28))) :=
          Lib.hid ⟨k + 1, L, M, by congr 1, by omega, HPM.out, HI.out, HO.out.alloc _⟩
        go_wp2_with fail
        go_roundw
        case rel => exact HR.out
        case measure => simp [intOf]; omega
    · obtain rfl : k = len := by omega
      have h4 := (o_bmake ho).cells #[.map (some wr.heap.size)] 31
      have h5 := h4.cells #[.int .i64 0] 2
      simp only [World.size_alloc] at h5
      have h6 := h5.perm (((by decide : [0, 1, 2, 3, 4, 5, 6].Perm [0, 5, 3, 1, 4, 2, 6])).map (fun i => ([Cells (wr.heap.size + 1 + 1) #[.int .i64 0] 2, Cells (wr.heap.size + 1) #[.map (some wr.heap.size)] 31, BMap wr.heap.size [], Cells vl #[.map (some bl)] 26, BMap bl L, Cells vs #[.pointer (some ⟨bs, 0, none⟩)] 24, DrA bs M] : List Asrt).getD i (Cells 0 #[] 0)))
      have HS : Hid (OnceRel2 w len2 (wr.heap.size + 1 + 1) bl wr.heap.size bs vl (wr.heap.size + 1) vs (.int .i64 0) (((wr.alloc (Obj.map #[] 0)).alloc (Obj.cells #[Value.map (some wr.heap.size)] 31)).alloc (Obj.cells #[Value.int IntKind.i64 0] 2))) :=
        Lib.hid ⟨0, 0, L, M, [], rfl, Nat.zero_le _, hinv, h6⟩
      clear ho hinv hpm hlt h4 h5 h6
      go_wp2_with fail
      generalize wr.heap.size + 1 + 1 = bn at *
      generalize wr.heap.size + 1 = vt at *
      generalize wr.heap.size = bt at *
      go_loopw [44] (OnceRel2 w len2 bn bl bt bs vl vt vs) (fun v _ => len2 - (intOf v).toNat)
      case atStart => exact HS.out
      case round =>
        obtain ⟨i, n, L2, M2, T, rfl, hi, hinv, ho⟩ := hrel
        clear HS
        by_cases hlt : i < len2
        · have hzl := HZ.out.length
          rcases HZ.out.at' with h0 | ⟨b, o, rfl, hb, hc⟩
          · omega
          · have c0 := hc i (by omega)
            rw [← ho.old hb] at c0
            have hlt' : (i : Int) < (len2 : Int) := by omega
            generalize zs[i]'(by omega) = z at *
            by_cases hi4 : i < 40
            · have hi4' : (i : Int) < 40 := by omega
              have HA := Lib.hid (walk_ask ho hinv (bits .and .i64 z 2199023255551))
              clear ho hinv hc hzl hlt
              go_wp2_with fail
              refine HA.out.mono ?_
              rintro e w3 ⟨rfl, T', i2, h3⟩
              have HR : Hid (OnceRel2 w len2 bn bl bt bs vl vt vs (.int .i64 (i + 1)) w3) := Lib.hid ⟨i + 1, _, L2, _, T', by congr 1, by omega, i2, h3⟩
              clear i2 h3 HA
              go_wp2_with fail
              go_roundw
              case rel => exact HR.out
              case measure => simp [intOf]; omega
            · have hi4' : (40 : Int) ≤ (i : Int) := by omega
              have hd40 : decide ((i : Int) < 40) = false := by simp; omega
              have HR : Hid (OnceRel2 w len2 bn bl bt bs vl vt vs (.int .i64 (i + 1)) wr) := Lib.hid ⟨i + 1, n, L2, M2, T, by congr 1, by omega, hinv, ho⟩
              clear ho hinv hc hzl hlt
              go_wp2_with fail
              go_roundw
              case rel => exact HR.out
              case measure => simp [intOf]; omega
        · have hge2 : (len2 : Int) ≤ (i : Int) := by omega
          have HA := Lib.hid (walk_ask ho hinv 1099511627776)
          have hd : dueDR M2 (max n 1099511627776) = [] := by
            unfold dueDR
            refine drop_all (fun x hx => ?_)
            have := (hinv.times x (hinv.apart hx).2).2.2
            simp [isDue]; omega
          have Hd := Lib.hid hd
          clear ho hinv hlt hd
          go_wp2_with fail
          refine HA.out.mono ?_
          rintro e w3 ⟨rfl, T', i2, h3⟩
          rw [Hd.out] at i2 h3
          have hTL : (T'.length : Int) = (L2.length : Int) := by
            obtain ⟨D, p1, p2⟩ := i2.parts
            have e1 := p1.length_eq
            have e2 := p2.length_eq
            simp at e1 e2; omega
          have l1 : ∀ ty, (Builtin.len_ #[31] ty #[.map (some bt)]).run Try.prog w3 = .ok (.int .i64 T'.length) w3 := fun ty => o_blen h3 5 rfl Try.underlying31 ty
          have l2 : ∀ ty, (Builtin.len_ #[26] ty #[.map (some bl)]).run Try.prog w3 = .ok (.int .i64 L2.length) w3 := fun ty => o_blen h3 4 rfl Try.underlying26 ty
          rw [hTL] at l1
          have d1 : w3.cell? ⟨vt, 0, none⟩ = some (.map (some bt)) := cell_of (h3.block 3 rfl) rfl
          have d2 : w3.cell? ⟨vl, 0, none⟩ = some (.map (some bl)) := cell_of (h3.block 2 rfl) rfl
          have d3 : w3.cell? ⟨vs, 0, none⟩ = some (.pointer (some ⟨bs, 0, none⟩)) := cell_of (h3.block 1 rfl) rfl
          have HL := Lib.hid (o_dlen h3 6 rfl)
          have H3 := Lib.hid h3
          clear h3 i2 hTL HA
          go_wp2_with fail
          refine HL.out.mono ?_
          rintro e w4 ⟨rfl, rfl⟩
          go_wp2_with fail
          refine (o_d12awake H3.out).mono ?_
          rintro e w5 ⟨rfl, h5⟩
          have H5 := Lib.hid h5
          clear h5
          go_wp2_with fail
          go_ret
          exact ⟨rfl, H5.out.mod⟩
end Go.Proofs.Ytcakgponofbhkaa
