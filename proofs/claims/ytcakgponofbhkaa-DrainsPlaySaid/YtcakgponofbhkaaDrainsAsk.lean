/- Backends are asked for: what is told, once. -/
import Derived.Test.YtcakgponofbhkaaDrainsAll
namespace Go.Proofs.Ytcakgponofbhkaa
open Go.RowKit Go.Shelf
open Go.Maps (Keyed)
set_option linter.unusedVariables false
set_option maxRecDepth 100000

/-- So much was told of L, M is left, all told once. -/
structure AskInv (L M T : List BT) : Prop where
  keys : KeysD L
  times : ∀ x ∈ L, MayB x.1 ∧ 0 ≤ x.2 ∧ x.2 ≤ 1099511627776
  parts : ∃ D, L.Perm (D ++ M) ∧ (T.map (·.1)).Perm (D.map (·.1))
  ones : ∀ x ∈ T, x.2 = 1
theorem AskInv.told {L M T : List BT} (h : AskInv L M T) : KeysD T := by
  obtain ⟨D, h1, h2⟩ := h.parts
  have : (L.map (·.1)).Perm ((D ++ M).map (·.1)) := h1.map _
  have hn := this.nodup_iff.1 h.keys
  rw [List.map_append] at hn
  exact h2.nodup_iff.2 (List.nodup_append.1 hn).1
theorem AskInv.apart {L M T : List BT} (h : AskInv L M T) {x : BT} (hx : x ∈ M) : atD T x.1 = none ∧ x ∈ L := by
  obtain ⟨D, h1, h2⟩ := h.parts
  have : (L.map (·.1)).Perm ((D ++ M).map (·.1)) := h1.map _
  have hn := this.nodup_iff.1 h.keys
  rw [List.map_append] at hn
  refine ⟨atD_none.2 (fun y hy e => ?_), h1.mem_iff.2 (List.mem_append_right _ hx)⟩
  have h3 : y.1 ∈ D.map (·.1) := h2.mem_iff.1 (List.mem_map_of_mem hy)
  exact (List.nodup_append.1 hn).2.2 _ h3 _ (List.mem_map_of_mem hx) e
/-- One more is told. -/
theorem AskInv.step {L M T : List BT} {x : BT} (h : AskInv L (x :: M) T) : AskInv L M ((x.1, 1) :: delD x.1 T) := by
  have hno := (h.apart (x := x) (by simp)).1
  have hd : delD x.1 T = T := List.filter_eq_self.2 (fun y hy => by simpa using atD_none.1 hno y hy)
  rw [hd]
  obtain ⟨D, h1, h2⟩ := h.parts
  refine ⟨h.keys, h.times, ⟨x :: D, h1.trans ?_, h2.cons _⟩, fun y hy => ?_⟩
  · exact List.perm_middle
  · rcases List.mem_cons.1 hy with rfl | hy
    · rfl
    · exact h.ones y hy

def AskR (bn bl bt bs : Nat) (vl vt vs : Nat) (n : Int) (L M T : List BT) : List Asrt :=
  [Cells bn #[.int .i64 n] 2, Cells vs #[.pointer (some ⟨bs, 0, none⟩)] 24, Cells vl #[.map (some bl)] 26, Cells vt #[.map (some bt)] 31, BMap bl L, BMap bt T, DrA bs M]
/-- Behind a question. -/
def AskPost (bn bl bt bs : Nat) (vl vt vs : Nat) (L : List BT) (n' : Int) (F0 : List Nat) (w0 : World) (M : List BT) (e : Ending) (w' : World) : Prop :=
  e = .returned (.bool true) ∧ ∃ T', AskInv L (dueDR M n') T' ∧ In F0 w0 w' (AskR bn bl bt bs vl vt vs n' L (dueDR M n') T')

def Ask1Rel (bn bl bt bs : Nat) (vl vt vs : Nat) (L D M2 : List BT) (n' : Int) (vr : Value) (F0 : List Nat) (w0 : World) (was k : Value) (wr : World) : Prop :=
  ∃ (j : Nat) (T : List BT) (u : Int), k = .int .i64 j ∧ was = .int .i64 u ∧ j ≤ D.length ∧ (∀ x, D[j]? = some x → u ≤ x.2) ∧ AskInv L (D.drop j ++ M2) T ∧
    In F0 w0 wr (RowA 3 1 vr D.length (D.map (fun x => Value.int .i64 x.1)) :: AskR bn bl bt bs vl vt vs n' L M2 T)
def Ask2Rel (R : List Asrt) (F0 : List Nat) (w0 : World) (N : Nat) (k : Value) (wr : World) : Prop := ∃ j : Nat, k = .int .i64 j ∧ j ≤ N ∧ In F0 w0 wr R

theorem DrA.facts {bs : Nat} {M : List BT} {w : World} {F : List Nat} (h : DrA bs M w F) : Row (M.map encB) ∧ M.length ≤ 1024 ∧ ∀ x ∈ M, MayB x.1 := by
  obtain ⟨bq, bm, hM, h⟩ := h
  obtain ⟨F', hq⟩ := (In.start DrR.framed h).get 2 rfl
  exact ⟨IsQ.row hq, by have := IsQ.len hq; simpa using this, hM⟩
theorem due_sorted {M : List BT} (h : Row (M.map encB)) (n : Int) : (∀ x ∈ dueD M n, x.2 ≤ n) ∧ (∀ x ∈ dueDR M n, n < x.2) ∧ (∀ j x y, (dueD M n)[j]? = some x → (dueD M n)[j + 1]? = some y → x.2 ≤ y.2) := by
  have hp : M.Pairwise (fun x y => x.2 ≤ y.2) := (List.pairwise_map.1 h).imp (fun h => klt_le h)
  refine ⟨fun x hx => ?_, fun x hx => ?_, fun j x y hx hy => ?_⟩
  · have := List.all_eq_true.1 (List.all_takeWhile (l := M) (p := isDue n)) x hx
    simpa [isDue] using this
  · unfold dueDR at hx
    have hp2 := hp.sublist (List.dropWhile_sublist (isDue n))
    cases e : M.dropWhile (isDue n) with
    | nil => rw [e] at hx; simp at hx
    | cons y r =>
      have h1 : isDue n y = false := by
        have := List.head?_dropWhile_not (isDue n) M
        rw [e] at this; simpa using this
      have h2 : n < y.2 := by simpa [isDue] using h1
      rw [e] at hx hp2
      rcases List.mem_cons.1 hx with rfl | hx
      · exact h2
      · have := (List.pairwise_cons.1 hp2).1 x hx; omega
  · have hp2 := hp.sublist (List.takeWhile_sublist (isDue n))
    obtain ⟨h1, rfl⟩ := List.getElem?_eq_some_iff.1 hx
    obtain ⟨h2, rfl⟩ := List.getElem?_eq_some_iff.1 hy
    exact List.pairwise_iff_getElem.1 hp2 j (j + 1) h1 h2 (by omega)
theorem o_dall {F0 : List Nat} {w0 w : World} {R : List Asrt} {bs : Nat} {M : List BT} (h : In F0 w0 w R) (i : Nat) (hA : R[i]? = some (DrA bs M)) :
    Calls Try.prog 17 #[.pointer (some ⟨bs, 0, none⟩)] w fun e w' => ∃ v, e = .returned v ∧ In F0 w0 w' (RowA 28 2 v (sortD M).length (flat (sortD M)) :: R.set i (DrA bs M)) := by
  have fr : ∀ v, Framed (Star [DrA bs M, RowA 28 2 v (sortD M).length (flat (sortD M))]) := fun v => Framed.star (fun A hA => by
    simp only [List.mem_cons, List.not_mem_nil, or_false] at hA
    rcases hA with rfl | rfl
    · exact DrA.framed _ _
    · exact RowA.framed _ _ _ _ _)
  refine (h.call (A' := fun v => Star [DrA bs M, RowA 28 2 v (sortD M).length (flat (sortD M))]) i hA fr fun F hF => dall hF).mono fun e w' ⟨v, he, ho⟩ => ⟨v, he, ?_⟩
  have hi := (List.getElem?_eq_some_iff.1 hA).1
  have := ho.split (A := DrA bs M) (B := RowA 28 2 v (sortD M).length (flat (sortD M))) i (by simp [hi]) (DrA.framed _ _) (RowA.framed _ _ _ _ _)
  rwa [List.set_set] at this

set_option maxHeartbeats 16000000 in
theorem walk_ask {F0 : List Nat} {w0 w : World} {bn bl bt bs vl vt vs : Nat} {n : Int} {L M T : List BT} (h : In F0 w0 w (AskR bn bl bt bs vl vt vs n L M T)) (hi : AskInv L M T) (at' : Int) :
    Calls Try.prog 15 #[.int .i64 at', .pointer (some ⟨bn, 0, none⟩), .pointer (some ⟨vs, 0, none⟩), .pointer (some ⟨vl, 0, none⟩), .pointer (some ⟨vt, 0, none⟩)] w (AskPost bn bl bt bs vl vt vs L (max n at') F0 w0 M) := by
  have c0 : w.cell? ⟨bn, 0, none⟩ = some (.int .i64 n) := cell_of (h.block 0 rfl) rfl
  have c1 : w.cell? ⟨vs, 0, none⟩ = some (.pointer (some ⟨bs, 0, none⟩)) := cell_of (h.block 1 rfl) rfl
  have f0 : w.frozen? ⟨bn, 0, none⟩ = false := free_of (h.block 0 rfl)
  have n1 : vs ≠ bn := (h.ne 0 1 (by omega) rfl rfl).symm
  have HP : Hid (In F0 w0 (w.setCell ⟨bn, 0, none⟩ (.int .i64 (max n at'))) (AskR bn bl bt bs vl vt vs (max n at') L M T)) := Lib.hid (h.put 0 rfl 0 _)
  obtain ⟨Fd, hfd⟩ := h.get 6 rfl
  obtain ⟨g1, g2, g3⟩ := hfd.facts
  have Hs := Lib.hid (due_sorted g1 (max n at'))
  have hdr := due_app M (max n at')
  have HI : Hid (AskInv L (dueD M (max n at') ++ dueDR M (max n at')) T) := Lib.hid (by rw [hdr]; exact hi)
  have HC : Hid (Calls Try.prog 16 #[.pointer (some ⟨bs, 0, none⟩), .int .i64 (max n at')] (w.setCell ⟨bn, 0, none⟩ (.int .i64 (max n at'))) fun e w' => ∃ v, e = .returned v ∧ In F0 w0 w' (RowA 3 1 v (dueD M (max n at')).length ((dueD M (max n at')).map (fun x => Value.int .i64 x.1)) :: AskR bn bl bt bs vl vt vs (max n at') L (dueDR M (max n at')) T)) :=
    Lib.hid (o_ddue HP.out 6 rfl (max n at'))
  have hDl : (dueD M (max n at')).length ≤ 1024 := by
    have := congrArg List.length hdr
    simp at this; omega
  have hMl : (dueDR M (max n at')).length ≤ 1024 := by
    have := congrArg List.length hdr
    simp at this; omega
  clear h hi hfd g1 g2 g3 hdr
  unfold AskPost
  generalize dueD M (max n at') = D at *
  generalize dueDR M (max n at') = M2 at *
  generalize hmx : max n at' = n' at *
  go_enter Try.func15, Try.ntmps15
  go_wp2_with fail
  refine HC.out.mono ?_
  rintro e w1 ⟨v, rfl, ho⟩
  obtain ⟨Fr, hr⟩ := ho.get 0 rfl
  obtain ⟨a, cap, rfl, -, -, -⟩ := hr.shape
  have HS : Hid (Ask1Rel bn bl bt bs vl vt vs L D M2 n' (.slice a D.length cap) F0 w0 (.int .i64 (-1)) (.int .i64 0) w1) := Lib.hid ⟨0, T, -1, rfl, rfl, Nat.zero_le _, fun x hx => by
    have hm : x ∈ D ++ M2 := List.mem_append_left _ (List.mem_of_getElem? hx)
    have := (HI.out.times x (HI.out.apart hm).2).2.1
    omega, HI.out, ho⟩
  clear ho hr HC HP HI c0 c1 f0
  go_wp2_with fail
  go_loopw [7, 21] (Ask1Rel bn bl bt bs vl vt vs L D M2 n' (.slice a D.length cap) F0 w0) (fun _ k _ => D.length - (intOf k).toNat)
  case atStart => exact HS.out
  case round =>
    obtain ⟨j, Tj, u, rfl, rfl, hj, hu, hinv, ho⟩ := hrel
    clear HS
    by_cases hlt : j < D.length
    · obtain ⟨x, hx⟩ : ∃ x, D[j]? = some x := ⟨D[j], List.getElem?_eq_getElem hlt⟩
      have hdrop : D.drop j = x :: D.drop (j + 1) := by rw [List.drop_eq_getElem_cons hlt]; congr 1; rw [List.getElem?_eq_getElem hlt] at hx; exact Option.some.inj hx
      rw [hdrop, List.cons_append] at hinv
      obtain ⟨hno, hin⟩ := hinv.apart (x := x) (by simp)
      have hxL := (atD_some hinv.keys).2 hin
      have hmay := (hinv.times x hin).1
      obtain ⟨Fr, hr⟩ := ho.get 0 rfl
      obtain ⟨ba, rfl, r0⟩ := hr.at.2 j (.int .i64 x.1) (by simp [hx])
      have hlt' : (j : Int) < (D.length : Int) := by omega
      have d1 : wr.cell? ⟨vl, 0, none⟩ = some (.map (some bl)) := cell_of (ho.block 3 rfl) rfl
      have d2 : wr.cell? ⟨vt, 0, none⟩ = some (.map (some bt)) := cell_of (ho.block 4 rfl) rfl
      have l1 : (Instr.lookup 26 (.map (some bl)) (.int .i64 x.1) true).run Try.prog wr = .ok (.tuple #[.int .i64 x.2, .bool true]) wr := by
        have := o_blook ho 5 rfl hinv.keys Try.underlying26 (by kernel_rfl) (may_lit hmay) true
        rw [hxL] at this; exact this
      have l2 : (Instr.lookup 31 (.map (some bt)) (.int .i64 x.1) false).run Try.prog wr = .ok (.int .i64 0) wr := by
        have := o_blook ho 6 rfl hinv.told Try.underlying31 (by kernel_rfl) (may_lit hmay) false
        rw [hno] at this; exact this
      obtain ⟨w2, l3, ho2⟩ := o_bput ho 6 rfl hinv.told Try.underlying31 (may_lit hmay) 1
      have hinv2 := hinv.step
      have d3 : w2.cell? ⟨vt, 0, none⟩ = some (.map (some bt)) := cell_of (ho2.block 4 rfl) rfl
      have d4 : w2.cell? ⟨bn, 0, none⟩ = some (.int .i64 n') := cell_of (ho2.block 1 rfl) rfl
      have l4 : (Instr.lookup 31 (.map (some bt)) (.int .i64 x.1) false).run Try.prog w2 = .ok (.int .i64 1) w2 := by
        have := o_blook ho2 6 rfl hinv2.told Try.underlying31 (by kernel_rfl) (may_lit hmay) false
        rw [(atD_some hinv2.told (b := x.1) (t := 1)).2 (by simp)] at this; exact this
      have q1 : decide (n' < x.2) = false := by have := Hs.out.1 x (List.mem_of_getElem? hx); simp; omega
      have q2 : decide (x.2 < u) = false := by have := hu x hx; simp; omega
      have HR : Hid (Ask1Rel bn bl bt bs vl vt vs L D M2 n' (.slice (some ⟨ba, 0, none⟩) D.length cap) F0 w0 (.int .i64 x.2) (.int .i64 (j + 1)) w2) :=
        Lib.hid ⟨j + 1, _, x.2, by congr 1, rfl, by omega, fun y hy => Hs.out.2.2 j x y hx hy, hinv2, ho2⟩
      clear ho ho2 hr hinv hinv2 hno hin hxL hmay hu hx hdrop hlt
      go_wp2_with fail
      go_roundw
      case rel => exact HR.out
      case measure => simp [intOf]; omega
    · have hge : (D.length : Int) ≤ (j : Int) := by omega
      have hjl : j = D.length := by omega
      subst hjl
      rw [List.drop_length, List.nil_append] at hinv
      have d1 : wr.cell? ⟨vs, 0, none⟩ = some (.pointer (some ⟨bs, 0, none⟩)) := cell_of (ho.block 2 rfl) rfl
      have HA := Lib.hid (o_dall ho 7 rfl)
      have HV := Lib.hid hinv
      clear ho hinv hu hlt
      go_wp2_with fail
      refine HA.out.mono ?_
      rintro e w2 ⟨v2, rfl, ho⟩
      obtain ⟨Fr, hr⟩ := ho.get 0 rfl
      obtain ⟨a2, cap2, rfl, -, -, -⟩ := hr.shape
      have HS : Hid (Ask2Rel (RowA 28 2 (.slice a2 (sortD M2).length cap2) (sortD M2).length (flat (sortD M2)) :: RowA 3 1 (.slice a D.length cap) D.length (D.map (fun x => Value.int .i64 x.1)) :: AskR bn bl bt bs vl vt vs n' L M2 Tj) F0 w0 (sortD M2).length (.int .i64 0) w2) := Lib.hid ⟨0, rfl, Nat.zero_le _, ho⟩
      clear ho hr HA d1
      have hSl : (sortD M2).length ≤ 1024 := by rw [sortD_length]; exact hMl
      have Hm : Hid (∀ x ∈ sortD M2, x ∈ M2) := Lib.hid fun x hx => (sortD_perm M2).mem_iff.1 hx
      generalize sortD M2 = S2 at *
      go_wp2_with fail
      go_loopw [58] (Ask2Rel (RowA 28 2 (.slice a2 S2.length cap2) S2.length (flat S2) :: RowA 3 1 (.slice a D.length cap) D.length (D.map (fun x => Value.int .i64 x.1)) :: AskR bn bl bt bs vl vt vs n' L M2 Tj) F0 w0 S2.length) (fun k _ => S2.length - (intOf k).toNat)
      case atStart => exact HS.out
      case round =>
        obtain ⟨k, rfl, hk, ho⟩ := hrel
        clear HS
        by_cases hlt : k < S2.length
        · obtain ⟨x, hx⟩ : ∃ x, S2[k]? = some x := ⟨S2[k], List.getElem?_eq_getElem hlt⟩
          have hx2 := Hm.out x (List.mem_of_getElem? hx)
          obtain ⟨hno, hin⟩ := HV.out.apart hx2
          have hmay := (HV.out.times x hin).1
          obtain ⟨Fr, hr⟩ := ho.get 0 rfl
          obtain ⟨b2, rfl, r0⟩ := hr.at.2 (k * 2) _ (flat_at hx).1
          obtain ⟨b2', e2, r1⟩ := hr.at.2 (k * 2 + 1) _ (flat_at hx).2
          cases e2
          have hlt' : (k : Int) < (S2.length : Int) := by omega
          have d1 : (wr.alloc (.cells #[.int .i64 x.1, .int .i64 x.2] 28)).cell? ⟨bn, 0, none⟩ = some (.int .i64 n') := cell_of ((ho.alloc _).block 2 rfl) rfl
          have d2 : (wr.alloc (.cells #[.int .i64 x.1, .int .i64 x.2] 28)).cell? ⟨vt, 0, none⟩ = some (.map (some bt)) := cell_of ((ho.alloc _).block 5 rfl) rfl
          have l2 : (Instr.lookup 31 (.map (some bt)) (.int .i64 x.1) false).run Try.prog (wr.alloc (.cells #[.int .i64 x.1, .int .i64 x.2] 28)) = .ok (.int .i64 0) (wr.alloc (.cells #[.int .i64 x.1, .int .i64 x.2] 28)) := by
            have := o_blook (ho.alloc (.cells #[.int .i64 x.1, .int .i64 x.2] 28)) 7 rfl HV.out.told Try.underlying31 (by kernel_rfl) (may_lit hmay) false
            rw [hno] at this; exact this
          have q1 : decide (x.2 ≤ n') = false := by have := Hs.out.2.1 x hx2; simp; omega
          have HR : Hid (Ask2Rel (RowA 28 2 (.slice (some ⟨b2, 0, none⟩) S2.length cap2) S2.length (flat S2) :: RowA 3 1 (.slice a D.length cap) D.length (D.map (fun x => Value.int .i64 x.1)) :: AskR bn bl bt bs vl vt vs n' L M2 Tj) F0 w0 S2.length (.int .i64 (k + 1)) (wr.alloc (.cells #[.int .i64 x.1, .int .i64 x.2] 28))) :=
            Lib.hid ⟨k + 1, by congr 1, by omega, ho.alloc _⟩
          clear ho hr hno hin hx2 hx hmay hlt
          go_wp2_with fail
          go_roundw
          case rel => exact HR.out
          case measure => simp [intOf]; omega
        · have hge : (S2.length : Int) ≤ (k : Int) := by omega
          have HE : Hid (∃ T', AskInv L M2 T' ∧ In F0 w0 wr (AskR bn bl bt bs vl vt vs n' L M2 T')) := Lib.hid ⟨Tj, HV.out, ho.drop.drop⟩
          clear ho hlt
          go_wp2_with fail
          go_ret
          exact ⟨rfl, HE.out⟩
end Go.Proofs.Ytcakgponofbhkaa
