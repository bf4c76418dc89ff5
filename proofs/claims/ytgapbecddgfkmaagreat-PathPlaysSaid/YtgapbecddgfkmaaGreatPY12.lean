/- Rows.PathPlaysSaid -/
import Derived.Test.YtgapbecddgfkmaaGreatPY11
import Derived.Laws.MakeOwn
import Derived.Test.YtgapbecddgfkmaaGreatPY9
import Derived.Test.YtgapbecddgfkmaaGreatPY3
import Derived.Test.YtgapbecddgfkmaaGreatPY6
import Derived.Test.YtgapbecddgfkmaaGreatPY10
namespace Go.Proofs.YtgapbecddgfkmaaGreat
open Go.RowKit
set_option linter.unusedVariables false
set_option maxHeartbeats 64000000
set_option maxRecDepth 100000
def rowsA : List Nat → List MRow → List Asrt
  | g :: gs, r :: rs => Cells g (mC r.id r.at' r.skip) 137 :: rowsA gs rs
  | _, _ => []
theorem rowsA_at : ∀ {gs : List Nat} {rs : List MRow} {j g : Nat} {r : MRow}, gs[j]? = some g → rs[j]? = some r → (rowsA gs rs)[j]? = some (Cells g (mC r.id r.at' r.skip) 137)
  | a :: gs, b :: rs, 0, g, r, h1, h2 => by simp at h1 h2; subst h1 h2; rfl
  | a :: gs, b :: rs, j + 1, g, r, h1, h2 => by simp at h1 h2; simpa [rowsA] using rowsA_at h1 h2
  | [], _, _, _, _, h, _ => by simp at h
  | _ :: _, [], _, _, _, _, h => by simp at h
theorem rowsA_set : ∀ {gs : List Nat} {rs : List MRow} {j g : Nat} (r : MRow), gs[j]? = some g → j < rs.length → (rowsA gs rs).set j (Cells g (mC r.id r.at' r.skip) 137) = rowsA gs (rs.set j r)
  | a :: gs, b :: rs, 0, g, r, h1, _ => by simp at h1; subst h1; rfl
  | a :: gs, b :: rs, j + 1, g, r, h1, h2 => by
    simp at h1 h2
    have := rowsA_set (gs := gs) (rs := rs) r h1 h2
    simp only [rowsA, List.set_cons_succ, this]
  | [], _, _, _, _, h, _ => by simp at h
  | _ :: _, [], _, _, _, _, h => by simp at h
theorem rowsA_snoc : ∀ {gs : List Nat} {rs : List MRow} (g : Nat) (r : MRow), gs.length = rs.length → rowsA (gs ++ [g]) (rs ++ [r]) = rowsA gs rs ++ [Cells g (mC r.id r.at' r.skip) 137]
  | [], [], g, r, _ => rfl
  | a :: gs, b :: rs, g, r, h => by
    have := rowsA_snoc (gs := gs) (rs := rs) g r (by simpa using h)
    simp only [List.cons_append, rowsA, this]
  | [], _ :: _, _, _, h => by simp at h
  | _ :: _, [], _, _, h => by simp at h
theorem rowsA_length : ∀ {gs : List Nat} {rs : List MRow}, gs.length = rs.length → (rowsA gs rs).length = rs.length
  | [], [], _ => rfl
  | a :: gs, b :: rs, h => by simp [rowsA, rowsA_length (gs := gs) (rs := rs) (by simpa using h)]
  | [], _ :: _, h => by simp at h
  | _ :: _, [], h => by simp at h
def fnV (g : Nat) : Value := .func (.func 69) #[.pointer (some ⟨g, 0, none⟩)] #[]
def tkV (gs ks : List Nat) : List Value := ks.map (fun j => fnV (gs.getD j 0))
theorem tkV_more {gs ks : List Nat} (g : Nat) (h : ∀ k ∈ ks, k < gs.length) : tkV (gs ++ [g]) ks = tkV gs ks := by
  unfold tkV
  refine List.map_congr_left (fun k hk => ?_)
  have := h k hk
  simp [List.getD_eq_getElem?_getD, List.getElem?_append_left this]
abbrev FnR (v : Value) (gs ks : List Nat) : Asrt := RowA 138 1 v ks.length (tkV gs ks)
theorem made_ints (w : World) {m : Nat} (hm : m ≤ 1000000) : ∃ C : Array Value, C.size = m ∧ C.toList = iV (List.replicate m 0) ∧ (Instr.makeSlice 63 (.int .i64 m) (.int .i64 m)).run Tryz.prog w = .ok (.slice (some ⟨w.heap.size, 0, none⟩) m m) (w.alloc (.cells C 3)) := by
  obtain ⟨i, hi, hz, hs, hb⟩ := info_parts' (P := Tryz.prog) (T := 3) (z := .int .i64 0) (k := 1) (by' := 8) (by kernel_rfl)
  have := run_make w 63 3 i (.int .i64 0) Tryz.underlying63 hi hz .i64 .i64 (m : Int) (m : Int) (by omega) (by omega) (by rw [hb]; omega) (by omega)
  rw [hs, Nat.mul_one, Int.toNat_natCast] at this
  refine ⟨_, ?_, ?_, this⟩
  · rw [size_madeCells]
  · apply List.ext_getElem
    · simp [madeCells, iV]
    · intro j h1 h2
      simp [madeCells, iV, Value.cells, Nat.mod_one]
section
variable {F0 : List Nat} {w0 w : World} {R : List Asrt}
theorem o_manext_at {gt m cap gr skip a0 : Nat} {t : List Int} {id : Int} {L : List Asrt} (h : In F0 w0 w (IR (.slice (some ⟨gt, 0, none⟩) m cap) t :: L)) (i : Nat) (hA : L[i]? = some (Cells gr (mC id a0 skip) 137)) (hm : t.length = m) (hm1 : 0 < m) (hm2 : m ≤ 251) (ha : a0 < m) (hsk : skip ≤ 251) (hfree : ∃ k, k < m ∧ t.getD ((a0 + k * skip) % m) 0 = -1) :
    Calls Tryz.prog 69 #[.pointer (some ⟨gr, 0, none⟩), .slice (some ⟨gt, 0, none⟩) m cap] w fun e w' => e = .returned (.tuple #[]) ∧ In F0 w0 w' (IR (.slice (some ⟨gt, 0, none⟩) m cap) (nextT t ⟨id, a0, skip⟩) :: L.set i (Cells gr (mC id (freeAt t ⟨id, a0, skip⟩) skip) 137)) := by
  have h1 := h.perm ((front hA).cons _)
  exact (o_manext h1 hm hm1 hm2 ha hsk hfree).mono fun e w' ⟨he, ho⟩ => ⟨he, ho.perm ((back hA).cons _)⟩
theorem In.right' {R1 R2 : List Asrt} (h : In F0 w0 w (R1 ++ R2)) : In F0 w0 w R2 := In.take (h.perm List.perm_append_comm)
theorem row_fn {a : Option Addr} {n cap k : Nat} {gs ks : List Nat} (h : In F0 w0 w R) (i : Nat) (hA : R[i]? = some (FnR (.slice a n cap) gs ks)) (hk : k < ks.length) : ∃ g, a = some ⟨g, 0, none⟩ ∧ w.cell? ⟨g, k, none⟩ = some (fnV (gs.getD (ks.getD k 0) 0)) := by
  obtain ⟨F, r⟩ := h.get i hA
  obtain ⟨a', c', e, _, _, hat⟩ := RowA.shape r
  rw [Value.slice.injEq] at e
  obtain ⟨g, e2, hc⟩ := hat k (fnV (gs.getD (ks.getD k 0) 0)) (by simp [tkV, List.getD_eq_getElem?_getD, hk])
  exact ⟨g, e.1.trans e2, hc⟩
theorem infoFn : (Tryz.prog.info? 138).map (fun i => (i.zero.map (fun z => z.cells.size), i.size, i.bytes)) = some (some 1, 1, 8) := by kernel_rfl
def TbPost (l : List Bk) (m : Nat) (F0 : List Nat) (w0 : World) (R : List Asrt) (e : Ending) (w' : World) : Prop := ∃ a cap, e = .returned (.slice a m cap) ∧ In F0 w0 w' (IR (.slice a m cap) (tableM l m) :: R)
def TbRel1 (g m : Nat) (F0 : List Nat) (w0 : World) (R : List Asrt) (v : Value) (wr : World) : Prop :=
  ∃ i : Nat, i ≤ m ∧ v = .int .i64 i ∧ In F0 w0 wr (IR (.slice (some ⟨g, 0, none⟩) m m) (List.replicate i (-1) ++ List.replicate (m - i) 0) :: R)
theorem rep_set (m i : Nat) (hi : i < m) : (List.replicate i (-1 : Int) ++ List.replicate (m - i) 0).set i (-1) = List.replicate (i + 1) (-1) ++ List.replicate (m - (i + 1)) 0 := by
  rw [List.set_append_right _ _ (by simp), List.length_replicate, Nat.sub_self, show m - i = (m - (i + 1)) + 1 by omega, List.replicate_succ, List.set_cons_zero, List.replicate_succ', List.append_assoc]; rfl
def TbRel2 (l : List Bk) (g m : Nat) (F0 : List Nat) (w0 : World) (R : List Asrt) (v7 v34 : Value) (wr : World) : Prop :=
  ∃ (k : Nat) (gs : List Nat) (a : Option Addr) (cp : Nat), k ≤ l.length ∧ v34 = .int .i64 k ∧ gs.length = k ∧ v7 = .slice a (takesM (l.take k) 0).length cp ∧
    In F0 w0 wr (FnR (.slice a (takesM (l.take k) 0).length cp) gs (takesM (l.take k) 0) :: IR (.slice (some ⟨g, 0, none⟩) m m) (List.replicate m (-1)) :: (rowsA gs (rowsM (l.take k) m) ++ R))
def TbRel3 (ks gs : List Nat) (k n : Nat) (F0 : List Nat) (w0 : World) (L : List Asrt) (v7 v53 : Value) (wr : World) : Prop :=
  ∃ (i : Nat) (a : Option Addr) (cp : Nat), i ≤ n ∧ v53 = .int .i64 i ∧ v7 = .slice a (ks ++ List.replicate i k).length cp ∧ In F0 w0 wr (FnR (.slice a (ks ++ List.replicate i k).length cp) gs (ks ++ List.replicate i k) :: L)
def TbRel4 (l : List Bk) (g m : Nat) (gs : List Nat) (a : Option Addr) (cp : Nat) (F0 : List Nat) (w0 : World) (R : List Asrt) (v : Value) (wr : World) : Prop :=
  ∃ i : Nat, i ≤ m ∧ v = .int .i64 i ∧ In F0 w0 wr (IR (.slice (some ⟨g, 0, none⟩) m m) (fillM (takesM l 0) m (rowsM l m) i).1 :: FnR (.slice a (takesM l 0).length cp) gs (takesM l 0) :: (rowsA gs (fillM (takesM l 0) m (rowsM l m) i).2 ++ R))
theorem o_matable {l : List Bk} {A : Option Addr} {c : Nat} (hs : BksAt F0 w0 R A l) (hl : l.length ≤ 1000000) (h : In F0 w0 w R) {m : Nat} (hm : mayM (m : Int) = true) (hc : ∀ s, 1 ≤ s → s < m → Cov m s) :
    Calls Tryz.prog 33 #[.slice A l.length c, .int .i64 m] w (TbPost l m F0 w0 R) := by
  have K0 := Lib.hid (ma_may m w)
  rw [hm] at K0
  have hm3 : 3 ≤ m ∧ m ≤ 251 := by
    have := hm
    unfold mayM at this
    rw [Bool.and_eq_true, decide_eq_true_eq] at this
    omega
  obtain ⟨C, C1, C2, hmk⟩ := made_ints w (m := m) (by omega)
  have h1 := (h.cells C 3).rowFull 0 (n := m) (k := 1) rfl (by rw [C1]; omega) (by unfold maxLen; omega)
  rw [C2] at h1
  have H1 : Hid (TbRel1 w.heap.size m F0 w0 R (.int .i64 0) (w.alloc (.cells C 3))) := Lib.hid ⟨0, Nat.zero_le _, rfl, by
    have e : List.replicate 0 (-1 : Int) ++ List.replicate (m - 0) 0 = List.replicate m 0 := by simp
    rw [e]
    unfold IR
    rw [List.length_replicate]; exact h1⟩
  have HM := Lib.hid hm3
  have HMM := Lib.hid hm
  have HC := Lib.hid hc
  have HS := Lib.hid hs
  have HL := Lib.hid hl
  clear h h1 hm hm3 hc hs hl C1 C2
  go_enter Tryz.func33, Tryz.ntmps33
  go_wp2_with fail
  refine K0.out.mono ?_
  rintro e w1 ⟨rfl, rfl⟩
  clear K0
  go_wp2_with fail
  generalize w1.heap.size = g at *
  generalize (w1.alloc (.cells C 3)) = w2 at *
  go_loopw [21] (TbRel1 g m F0 w0 R) (fun v _ => m - (intOf v).toNat)
  case atStart => exact H1.out
  case round =>
    obtain ⟨i, hi, rfl, ho⟩ := hrel
    clear H1
    by_cases hlt : i < m
    · obtain ⟨ct, ft⟩ := row_int ho 0 rfl (k := i) (by simp; omega)
      have hix : (i : Int) < (m : Int) := by omega
      have h2 := row_seti ho 0 rfl (k := i) (by simp; omega) (-1)
      rw [rep_set m i hlt] at h2
      have HR : Hid (TbRel1 g m F0 w0 R (.int .i64 ((i : Int) + 1)) (wr.setCell ⟨g, i, none⟩ (.int .i64 (-1)))) := Lib.hid ⟨i + 1, hlt, by rw [Int.natCast_add]; rfl, h2⟩
      have hw2 : wrap64 ((i : Int) + 1) = (i : Int) + 1 := by have := HM.out; unfold wrap64; omega
      clear ho h2 hi hlt
      go_wp2_with fail
      go_roundw
      case rel => (try rw [hw2]); exact HR.out
      case measure => (try rw [hw2]); exact meas_lt hix
    · have hge : (m : Int) ≤ (i : Int) := by omega
      have e : List.replicate i (-1 : Int) ++ List.replicate (m - i) 0 = List.replicate m (-1) := by rw [show i = m by omega]; simp
      rw [e] at ho
      have HO := Lib.hid ho
      have KM := Lib.hid (o_mamay (c := c) (l := l) (fun W hW => HS.out W hW.drop) (by have := HL.out; omega) ho)
      clear ho e hlt hi
      cases hml : mayL l with
      | false =>
        rw [hml] at KM
        have HT : Hid (tableM l m = List.replicate m (-1)) := Lib.hid (by unfold tableM; rw [hml]; rfl)
        clear hml HO
        go_wp2_with fail
        refine KM.out.mono ?_
        rintro e w3 ⟨rfl, ho⟩
        have G : Hid (TbPost l m F0 w0 R (.returned (.slice (some ⟨g, 0, none⟩) m m)) w3) := Lib.hid ⟨_, _, rfl, by rw [HT.out]; exact ho⟩
        clear ho KM HT
        go_wp2_with fail
        go_ret
        exact G.out
      | true =>
        rw [hml] at KM
        have HT : Hid (tableM l m = (fillM (takesM l 0) m (rowsM l m) m).1) := Lib.hid (by unfold tableM; rw [hml]; rfl)
        have hgm : gensMay l = true := by unfold mayL at hml; rw [Bool.and_eq_true] at hml; exact hml.2
        have hne : l ≠ [] := by unfold mayL at hml; rw [Bool.and_eq_true, decide_eq_true_eq] at hml; exact hml.1
        have hall : ∀ b ∈ l, mayBk b = true := by unfold gensMay at hgm; simp only [Bool.and_eq_true, List.all_eq_true] at hgm; exact hgm.2.1
        have hl16 : l.length ≤ 16 := by unfold gensMay at hgm; simp only [Bool.and_eq_true, decide_eq_true_eq] at hgm; exact hgm.1
        have HALL := Lib.hid (And.intro hall (And.intro hne hl16))
        clear hml HO hgm hne hall hl16
        go_wp2_with fail
        refine KM.out.mono ?_
        rintro e w3 ⟨rfl, ho⟩
        have H2 : Hid (TbRel2 l g m F0 w0 R (.slice none 0 0) (.int .i64 0) w3) := Lib.hid ⟨0, [], none, 0, Nat.zero_le _, rfl, rfl, by simp [takesM], by
          have := ho.rownil 138 1
          exact this⟩
        clear ho KM
        go_wp2_with fail
        go_loopw [7, 34] (TbRel2 l g m F0 w0 R) (fun _ v _ => l.length - (intOf v).toNat)
        case atStart => exact H2.out
        case round =>
          obtain ⟨k, gs, a, cp, hk, rfl, hgs, rfl, ho⟩ := hrel
          clear H2
          by_cases hlt : k < l.length
          · obtain ⟨b, hb⟩ : ∃ b, l[k]? = some b := ⟨l[k], List.getElem?_eq_getElem hlt⟩
            obtain ⟨gb0, ob, rfl, c0, c1, c2⟩ := HS.out.cell (ho.drop.drop.right') hb
            have hbm := HALL.out.1 b (List.mem_of_getElem? hb)
            have hid : 0 ≤ b.id ∧ b.id ≤ 65535 ∧ 1 ≤ b.weight ∧ b.weight ≤ 10 := by unfold mayBk at hbm; simp only [Bool.and_eq_true, decide_eq_true_eq] at hbm; omega
            have hlt' : (k : Int) < (l.length : Int) := by omega
            have hw2 : wrap64 ((k : Int) + 1) = (k : Int) + 1 := by have := HALL.out.2.2; unfold wrap64; omega
            have ho2 := ho.cells #[.int .i64 b.id, .int .u32 b.addr, .int .i64 b.weight] 33
            have KR := Lib.hid (o_marow ho2 hid.1 (by omega) (m := m) HMM.out)
            have HNX : Hid (∀ (g2 : Nat) (a' : Option Addr) (cp' : Nat) wz, In F0 w0 wz (FnR (.slice a' (takesM (l.take k) 0 ++ List.replicate b.weight.toNat k).length cp') (gs ++ [g2]) (takesM (l.take k) 0 ++ List.replicate b.weight.toNat k) :: Cells g2 (mC b.id (firstN b.id m) (skipN b.id m)) 137 :: Cells wr.heap.size #[.int .i64 b.id, .int .u32 b.addr, .int .i64 b.weight] 33 :: IR (.slice (some ⟨g, 0, none⟩) m m) (List.replicate m (-1)) :: (rowsA gs (rowsM (l.take k) m) ++ R)) →
                TbRel2 l g m F0 w0 R (.slice a' (takesM (l.take k) 0 ++ List.replicate b.weight.toNat k).length cp') (.int .i64 ((k : Int) + 1)) wz) := Lib.hid (fun g2 a' cp' wz hz => by
              have et : l.take (k + 1) = l.take k ++ [b] := by rw [List.take_add_one, hb]; rfl
              have e1 : takesM (l.take (k + 1)) 0 = takesM (l.take k) 0 ++ List.replicate b.weight.toNat k := by
                rw [et, takesM_snoc, List.length_take, Nat.zero_add, Nat.min_eq_left (by omega)]
              have e2 : rowsM (l.take (k + 1)) m = rowsM (l.take k) m ++ [⟨b.id, firstN b.id m, skipN b.id m⟩] := by rw [et]; simp [rowsM]
              refine ⟨k + 1, gs ++ [g2], a', cp', hlt, by rw [Int.natCast_add]; rfl, by simp [hgs], by rw [e1], ?_⟩
              rw [e1, e2, rowsA_snoc _ _ (by rw [hgs, rowsM, List.length_map, List.length_take, Nat.min_eq_left (by omega)])]
              have h3 := hz.sel2 (R1 := [_, _, _, _]) (R2 := rowsA gs (rowsM (l.take k) m) ++ R) [0, 3, 1] (by decide) rfl
              have h4 := h3.perm (((List.perm_middle (l₁ := rowsA gs (rowsM (l.take k) m)) (l₂ := R)).symm.cons _).cons _)
              rw [List.append_assoc]
              exact h4)
            have HTK : Hid (∀ g2, tkV (gs ++ [g2]) (takesM (l.take k) 0) = tkV gs (takesM (l.take k) 0)) := Lib.hid (fun g2 => tkV_more g2 (fun x hx => by
              have := takesM_lt (l.take k) 0 x hx
              rw [List.length_take] at this; omega))
            have HTL : Hid ((takesM (l.take k) 0).length ≤ 160) := Lib.hid (by
              have := takesM_len (l.take k) 0 (fun x hx => HALL.out.1 x (List.mem_of_mem_take hx))
              rw [List.length_take] at this
              have := HALL.out.2.2; omega)
            obtain ⟨bid, baddr, bwt⟩ := b
            simp only at c0 c1 c2 hid KR HNX
            obtain ⟨n, rfl⟩ : ∃ n : Nat, bwt = n := ⟨bwt.toNat, by omega⟩
            have HN10 : Hid (n ≤ 10) := Lib.hid (by omega)
            have HGK := Lib.hid hgs
            rw [Int.toNat_natCast] at HNX
            generalize takesM (l.take k) 0 = ks at *
            generalize rowsA gs (rowsM (l.take k) m) = RA at *
            generalize firstN bid m = fi at *
            generalize skipN bid m = sk at *
            clear ho ho2 hb hbm hid hk hlt hgs
            go_wp2_with fail
            refine KR.out.mono ?_
            rintro e w4 ⟨rfl, ho⟩
            have ho2 := ho.cells (mC bid fi sk) 137
            have d0 : w4.cell? ⟨wr.heap.size, 0, none⟩ = some (.int .i64 bid) := cell_of (ho.block 0 rfl) rfl
            have d2 : (w4.alloc (.cells (mC bid fi sk) 137)).cell? ⟨wr.heap.size, 2, none⟩ = some (.int .i64 n) := cell_of (ho2.block 1 rfl) rfl
            have H3 : Hid (TbRel3 ks (gs ++ [w4.heap.size]) k n F0 w0 (Cells w4.heap.size (mC bid fi sk) 137 :: Cells wr.heap.size #[.int .i64 bid, .int .u32 baddr, .int .i64 n] 33 :: IR (.slice (some ⟨g, 0, none⟩) m m) (List.replicate m (-1)) :: (RA ++ R)) (.slice a ks.length cp) (.int .i64 0) (w4.alloc (.cells (mC bid fi sk) 137))) := Lib.hid ⟨0, a, cp, Nat.zero_le _, rfl, by simp, by
              simp only [List.replicate_zero, List.append_nil]
              unfold FnR
              rw [HTK.out]
              exact ho2.sel2 (R1 := [_, _, _, _]) (R2 := RA ++ R) [2, 0, 1, 3] (by decide) rfl⟩
            clear ho ho2 KR
            go_upto_region 17 with fail
            generalize w4.heap.size = g2 at *
            generalize wr.heap.size = gbk at *
            generalize (w4.alloc (.cells (mC bid fi sk) 137)) = w5 at *
            go_wp2_with fail
            go_loopw [7, 53] (TbRel3 ks (gs ++ [g2]) k n F0 w0 (Cells g2 (mC bid fi sk) 137 :: Cells gbk #[.int .i64 bid, .int .u32 baddr, .int .i64 n] 33 :: IR (.slice (some ⟨g, 0, none⟩) m m) (List.replicate m (-1)) :: (RA ++ R))) (fun _ v _ => n - (intOf v).toNat)
            case atStart => exact H3.out
            case round =>
              obtain ⟨i3, a3, cp3, hi3, rfl, rfl, ho⟩ := hrel
              clear H3 d2
              by_cases hlt3 : i3 < n
              · have hlt3' : (i3 : Int) < (n : Int) := by omega
                have hw3 : wrap64 ((i3 : Int) + 1) = (i3 : Int) + 1 := by have := HN10.out; unfold wrap64; omega
                have hlen : (ks ++ List.replicate i3 k).length ≤ 170 := by rw [List.length_append, List.length_replicate]; have := HTL.out; have := HN10.out; omega
                have hgk : (gs ++ [g2]).getD k 0 = g2 := by rw [← HGK.out]; simp [List.getD_eq_getElem?_getD]
                have HNR : Hid (∀ a' cp' wz, In F0 w0 wz (RowA 138 1 (.slice a' ((ks ++ List.replicate i3 k).length + 1) cp') ((ks ++ List.replicate i3 k).length + 1) (tkV (gs ++ [g2]) (ks ++ List.replicate i3 k) ++ [fnV g2]) :: Cells g2 (mC bid fi sk) 137 :: Cells gbk #[.int .i64 bid, .int .u32 baddr, .int .i64 n] 33 :: IR (.slice (some ⟨g, 0, none⟩) m m) (List.replicate m (-1)) :: (RA ++ R)) →
                    TbRel3 ks (gs ++ [g2]) k n F0 w0 (Cells g2 (mC bid fi sk) 137 :: Cells gbk #[.int .i64 bid, .int .u32 baddr, .int .i64 n] 33 :: IR (.slice (some ⟨g, 0, none⟩) m m) (List.replicate m (-1)) :: (RA ++ R)) (.slice a' ((ks ++ List.replicate i3 k).length + 1) cp') (.int .i64 ((i3 : Int) + 1)) wz) := Lib.hid (fun a' cp' wz hz => by
                  have e : ks ++ List.replicate (i3 + 1) k = (ks ++ List.replicate i3 k) ++ [k] := by rw [List.replicate_succ', ← List.append_assoc]
                  have e2 : tkV (gs ++ [g2]) ((ks ++ List.replicate i3 k) ++ [k]) = tkV (gs ++ [g2]) (ks ++ List.replicate i3 k) ++ [fnV g2] := by
                    unfold tkV; rw [List.map_append, List.map_cons, List.map_nil, hgk]
                  have e3 : ((ks ++ List.replicate i3 k) ++ [k]).length = (ks ++ List.replicate i3 k).length + 1 := by rw [List.length_append]; rfl
                  refine ⟨i3 + 1, a', cp', hlt3, by rw [Int.natCast_add]; rfl, by rw [e, e3], ?_⟩
                  unfold FnR
                  rw [e, e2, e3]
                  exact hz)
                generalize ks ++ List.replicate i3 k = kk at *
                have HO := Lib.hid ho
                have HLN := Lib.hid hlen
                clear ho hi3 hlt3 hlen hgk
                go_wp2_with (at_builtin; refine app_list rfl (HO.out.cells #[fnV g2] 138) 1 rfl (.tmp 55) (.tmp 58) 132 (by rfl) Tryz.underlying132 infoFn (by decide) (by decide) (by rfl) (by rfl) (Src.of_block ((HO.out.cells #[fnV g2] 138).block 0 rfl) rfl) (by intro u hu; simp at hu; subst hu; rfl) (by have := HLN.out; omega) ?_)
                intro v5 w6 ho5 hg5
                have h6 := ho5.drop
                obtain ⟨Fz, rz⟩ := h6.get 0 rfl
                obtain ⟨a5, c5, rfl, -, -, -⟩ := RowA.shape rz
                have HR := Lib.hid (HNR.out a5 c5 w6 h6)
                clear ho5 hg5 h6 rz HNR HO HLN
                go_wp2_with fail
                go_roundw
                case rel => (try rw [hw3]); exact HR.out
                case measure => (try rw [hw3]); exact meas_lt hlt3'
              · have hge3 : (n : Int) ≤ (i3 : Int) := by omega
                have e3 : i3 = n := by omega
                rw [e3] at ho ⊢
                have HR := Lib.hid (HNX.out g2 a3 cp3 wr ho)
                clear ho hi3 hlt3
                go_wp2_with fail
                go_roundw
                case rel => (try rw [hw2]); exact HR.out
                case measure => (try rw [hw2]); exact meas_lt hlt'
          · have hge2 : (l.length : Int) ≤ (k : Int) := by omega
            have hkl : l.take k = l := List.take_of_length_le (by omega)
            have hkk : k = l.length := by omega
            have hdk : decide (k < l.length) = false := decide_eq_false hlt
            have hdk' : decide ((k : Int) < (l.length : Int)) = false := decide_eq_false (by omega)
            rw [hkl] at ho ⊢
            have H4 : Hid (TbRel4 l g m gs a cp F0 w0 R (.int .i64 0) wr) := Lib.hid ⟨0, Nat.zero_le _, rfl, ho.sel2 (R1 := [_, _]) [1, 0] (by decide) rfl⟩
            have HGS := Lib.hid (hgs.trans hkk)
            have HTL : Hid ((takesM l 0).length ≤ 160) := Lib.hid (by
              have := takesM_len l 0 HALL.out.1
              have := HALL.out.2.2; omega)
            have HTP := Lib.hid (takesM_pos HALL.out.2.1 HALL.out.1)
            have HFO := Lib.hid (fill_ok HALL.out.1 HALL.out.2.1 HM.out.1 HC.out)
            clear ho hkl hkk hlt hk hgs
            go_wp2_with fail
            go_loopw [64] (TbRel4 l g m gs a cp F0 w0 R) (fun v _ => m - (intOf v).toNat)
            case atStart => exact H4.out
            case round =>
              obtain ⟨i4, hi4, rfl, ho⟩ := hrel
              clear H4
              by_cases hlt4 : i4 < m
              · have hfo := HFO.out i4 hi4
                have hix4 : (i4 : Int) < (m : Int) := by omega
                have hw4 : wrap64 ((i4 : Int) + 1) = (i4 : Int) + 1 := by have := HM.out; unfold wrap64; omega
                obtain ⟨n, hn⟩ : ∃ n, n = (takesM l 0).length := ⟨_, rfl⟩
                have hn0 : 0 < n := by rw [hn]; exact HTP.out
                have hrem : Int.tmod (i4 : Int) (n : Int) = ((i4 % n : Nat) : Int) := by rw [Int.tmod_eq_emod_of_nonneg (by omega), Int.natCast_emod]
                have hrl : i4 % n < n := Nat.mod_lt _ hn0
                obtain ⟨j, hj⟩ : ∃ j, j = (takesM l 0).getD (i4 % n) 0 := ⟨_, rfl⟩
                have hjl : j < l.length := by
                  have := takesM_lt l 0 j (by rw [hj, List.getD_eq_getElem?_getD, List.getElem?_eq_getElem (by omega)]; exact List.getElem_mem _)
                  omega
                obtain ⟨r, hr⟩ : ∃ r, (fillM (takesM l 0) m (rowsM l m) i4).2[j]? = some r := ⟨_, List.getElem?_eq_getElem (by rw [hfo.rl]; exact hjl)⟩
                obtain ⟨gr, hgr⟩ : ∃ gr, gs[j]? = some gr := ⟨_, List.getElem?_eq_getElem (by rw [HGS.out]; exact hjl)⟩
                have hfree := hfo.free hlt4 HC.out (List.mem_of_getElem? hr)
                obtain ⟨_, r2, r3, r4⟩ := hfo.rows r (List.mem_of_getElem? hr)
                obtain ⟨gf, rfl, cf⟩ := row_fn ho 1 rfl (k := i4 % n) (by omega)
                have eg : gs.getD ((takesM l 0).getD (i4 % n) 0) 0 = gr := by rw [← hj, List.getD_eq_getElem?_getD, hgr]; rfl
                rw [eg] at cf
                unfold fnV at cf
                have KN := o_manext_at ho (j + 1) (gr := gr) (id := r.id) (a0 := r.at') (skip := r.skip) (by
                  rw [List.getElem?_cons_succ, List.getElem?_append_left (by rw [rowsA_length (by rw [HGS.out, hfo.rl]), hfo.rl]; exact hjl)]
                  exact rowsA_at hgr hr) hfo.tl (by omega) (by have := HM.out; omega) r2 (by have := HM.out; omega) hfree
                have HST : Hid (∀ wz, In F0 w0 wz (IR (.slice (some ⟨g, 0, none⟩) m m) (nextT (fillM (takesM l 0) m (rowsM l m) i4).1 ⟨r.id, r.at', r.skip⟩) :: (FnR (.slice (some ⟨gf, 0, none⟩) (takesM l 0).length cp) gs (takesM l 0) :: (rowsA gs (fillM (takesM l 0) m (rowsM l m) i4).2 ++ R)).set (j + 1) (Cells gr (mC r.id (freeAt (fillM (takesM l 0) m (rowsM l m) i4).1 ⟨r.id, r.at', r.skip⟩) r.skip) 137)) →
                    TbRel4 l g m gs (some ⟨gf, 0, none⟩) cp F0 w0 R (.int .i64 ((i4 : Int) + 1)) wz) := Lib.hid (fun wz hz => by
                  refine ⟨i4 + 1, hlt4, by rw [Int.natCast_add]; rfl, ?_⟩
                  have es : fillM (takesM l 0) m (rowsM l m) (i4 + 1) = (nextT (fillM (takesM l 0) m (rowsM l m) i4).1 r, (fillM (takesM l 0) m (rowsM l m) i4).2.set j (nextR (fillM (takesM l 0) m (rowsM l m) i4).1 r)) := by
                    have : (fillM (takesM l 0) m (rowsM l m) i4).2.getD j default = r := by rw [List.getD_eq_getElem?_getD, hr]; rfl
                    rw [fillM_succ]; unfold stepM; dsimp only
                    rw [← hn, ← hj, this]
                  rw [es]
                  rw [List.set_cons_succ, List.set_append_left _ _ (by rw [rowsA_length (by rw [HGS.out, hfo.rl]), hfo.rl]; exact hjl)] at hz
                  have e9 := rowsA_set (gs := gs) (rs := (fillM (takesM l 0) m (rowsM l m) i4).2) (j := j) (g := gr) (nextR (fillM (takesM l 0) m (rowsM l m) i4).1 r) hgr (by rw [hfo.rl]; exact hjl)
                  rw [← e9]
                  exact hz)
                have KN2 := Lib.hid KN
                have hn160 : n ≤ 160 := by rw [hn]; exact HTL.out
                have hixf : ((i4 % n : Nat) : Int) < (n : Int) := by omega
                have hnz : ¬ ((n : Int) = 0) := by omega
                have hnz' : ¬ (n = 0) := by omega
                rw [← hn] at KN2 HST ⊢
                generalize i4 % n = ix at *
                clear hfo hn hj hjl hr hgr hfree eg KN ho r2 r3 r4 hi4 hlt4 hn0 hrl hn160
                go_wp2_with fail
                refine KN2.out.mono ?_
                rintro e w7 ⟨rfl, ho⟩
                have HR := Lib.hid (HST.out _ ho)
                clear ho KN2 HST
                go_wp2_with fail
                go_roundw
                case rel => (try rw [hw4]); exact HR.out
                case measure => (try rw [hw4]); exact meas_lt hix4
              · have hge4 : (m : Int) ≤ (i4 : Int) := by omega
                have e4 : i4 = m := by omega
                rw [e4] at ho
                have G : Hid (TbPost l m F0 w0 R (.returned (.slice (some ⟨g, 0, none⟩) m m)) wr) := Lib.hid ⟨_, _, rfl, by
                  rw [HT.out]
                  have h6 : In F0 w0 wr ([IR (.slice (some ⟨g, 0, none⟩) m m) (fillM (takesM l 0) m (rowsM l m) m).1, FnR (.slice a (takesM l 0).length cp) gs (takesM l 0)] ++ (rowsA gs (fillM (takesM l 0) m (rowsM l m) m).2 ++ R)) := ho
                  have h7 := h6.sel2 [0] (by decide) rfl
                  have h8 : In F0 w0 wr (IR (.slice (some ⟨g, 0, none⟩) m m) (fillM (takesM l 0) m (rowsM l m) m).1 :: (rowsA gs (fillM (takesM l 0) m (rowsM l m) m).2 ++ R)) := h7
                  have h9 := h8.perm (((List.perm_append_comm (l₁ := rowsA gs (fillM (takesM l 0) m (rowsM l m) m).2) (l₂ := R))).cons _)
                  exact In.take (R1 := _ :: R) h9⟩
                clear ho hi4 hlt4
                go_wp2_with fail
                go_ret
                exact G.out
end
section
variable {F0 : List Nat} {w0 w : World} {R : List Asrt}
theorem o_thash (h : In F0 w0 w R) {t : Tup} (ht : WfT t) : Calls Tryz.prog 78 #[.agg (encT t)] w fun e w' => e = .returned (.int .u32 (hashT t : Nat)) ∧ In F0 w0 w' R := by
  have h0 := (h.cells (encT t) 24).writer
  rw [World.size_alloc] at h0
  have H0 := Lib.hid h0
  clear h0
  have C1 : Hid (∀ w1 bw g, In F0 w0 w1 (WA bw [] :: Cells g (encT t) 24 :: R) → Calls Tryz.prog 112 #[.pointer (some ⟨bw, 0, none⟩), .agg (encT t)] w1 fun e w' => e = .returned (.tuple #[]) ∧ In F0 w0 w' (WA bw (keyL t) :: Cells g (encT t) 24 :: R)) :=
    Lib.hid fun w1 bw g h1 => by simpa using o_twrite h1 0 rfl (by simp) ht
  have C2 : Hid (∀ w1 bw g, In F0 w0 w1 (WA bw (keyL t) :: Cells g (encT t) 24 :: R) → Calls Tryz.prog 104 #[.pointer (some ⟨bw, 0, none⟩)] w1 fun e w' => ∃ v, e = .returned v ∧ In F0 w0 w' (RowA 5 1 v (keyL t).length (u8s (keyL t)) :: WA bw (keyL t) :: Cells g (encT t) 24 :: R)) :=
    Lib.hid fun w1 bw g h1 => o_wbytes h1 0 rfl (by rw [keyL_length]; omega)
  have HH : Hid (hashT t = mixN 0 (keyL t)) := Lib.hid rfl
  have HLK : Hid ((keyL t).length ≤ 100000000) := Lib.hid (by rw [keyL_length]; omega)
  clear h ht
  go_enter Tryz.func78, Tryz.ntmps78
  go_wp2_with fail
  refine (C1.out _ _ _ H0.out).mono ?_
  rintro e w1 ⟨rfl, ho⟩
  have H1 := Lib.hid ho
  clear ho C1 H0
  go_wp2_with fail
  refine (C2.out _ _ _ H1.out).mono ?_
  rintro e w2 ⟨v, rfl, ho⟩
  obtain ⟨Fv, hv⟩ := ho.get 0 rfl
  obtain ⟨a, cap, rfl, -, -, -⟩ := hv.shape
  have KM := Lib.hid (su_mix (s := 0) (c := cap) (bs := keyL t) (w := w2) hv.all HLK.out (by decide))
  have H2 := Lib.hid ho.drop.drop.drop
  clear ho hv C2 H1
  go_wp2_with fail
  refine KM.out.mono ?_
  rintro e w3 ⟨rfl, rfl⟩
  clear KM
  go_wp2_with fail
  go_ret
  exact ⟨by rw [HH.out]; rfl, H2.out⟩
abbrev cC (c : ChD) (vl vt : Value) : Array Value := #[.int .i64 c.slots, vl, vt, .int .i64 c.made]
abbrev ChL (cb : Nat) (c : ChD) (vl vt : Value) (R : List Asrt) : List Asrt := Cells cb (cC c vl vt) 96 :: BkR vl c.l :: IR vt c.t :: R
abbrev pC (cb : Nat) : Value := .pointer (some ⟨cb, 0, none⟩)
theorem o_chnew {m : Nat} (hm : mayM (m : Int) = true) (hc : ∀ s, 1 ≤ s → s < m → Cov m s) (h : In F0 w0 w R) :
    Calls Tryz.prog 9 #[.int .i64 m] w fun e w' => ∃ cb a cap, e = .returned (pC cb) ∧ In F0 w0 w' (ChL cb (newCh m) (.slice none 0 0) (.slice a m cap) R) := by
  have K0 := Lib.hid (ma_may m w)
  rw [hm] at K0
  have hs : BksAt F0 w0 R none [] := fun W hW => (by
    obtain ⟨F, r⟩ := (hW.rownil 33 3).get 0 rfl
    exact r.all)
  have K1 := Lib.hid (o_matable (c := 0) hs (by simp) h hm hc)
  have HT : Hid (tableM [] m = List.replicate m (-1)) := Lib.hid rfl
  clear h hs hc hm
  go_enter Tryz.func9, Tryz.ntmps9
  go_wp2_with fail
  refine K0.out.mono ?_
  rintro e w1 ⟨rfl, rfl⟩
  clear K0
  go_wp2_with fail
  refine K1.out.mono ?_
  rintro e w2 ⟨a, cap, rfl, ho⟩
  have h3 := ((ho.rownil 33 3).cells #[.int .i64 m, .slice none 0 0, .slice a m cap, .int .i64 0] 96)
  rw [HT.out] at h3
  have G := Lib.hid h3
  clear ho h3 K1 HT
  go_wp2_with fail
  go_ret
  exact ⟨_, _, _, rfl, G.out⟩
theorem o_chfind {cb : Nat} {c : ChD} {vl vt : Value} (id : Int) (hl : c.l.length ≤ 1000000) (h : In F0 w0 w (ChL cb c vl vt R)) :
    Calls Tryz.prog 29 #[pC cb, .int .i64 id] w fun e w' => e = .returned (.tuple #[.agg (encBa ((findBk c.l id).getD zBk)), .bool (findBk c.l id).isSome]) ∧ In F0 w0 w' (ChL cb c vl vt R) := by
  obtain ⟨Fv, rv⟩ := h.get 1 rfl
  obtain ⟨pa, pc, rfl, -, -, -⟩ := RowA.shape rv
  have h1 := h.cells #[.int .i64 0, .int .u32 0, .int .i64 0] 33
  have c1 : (w.alloc (.cells #[.int .i64 0, .int .u32 0, .int .i64 0] 33)).cell? ⟨cb, 1, none⟩ = some (.slice pa c.l.length pc) := cell_of (h1.block 1 rfl) rfl
  have K := Lib.hid (o_gnfind (c := pc) (bks_row (n := c.l.length) (c := pc) rfl 2 rfl) hl id h1)
  clear h h1 rv
  go_enter Tryz.func29, Tryz.ntmps29
  go_wp2_with fail
  generalize w.heap.size = g at *
  refine K.out.mono ?_
  rintro e w1 ⟨rfl, ho⟩
  have ht := there_of (ho.block 0 rfl)
  generalize hf : (findBk c.l id).isSome = fs at *
  generalize hy : (findBk c.l id).getD zBk = y at *
  have G := Lib.hid (ho.setFull 0 rfl (xs := [.int .i64 y.id, .int .u32 y.addr, .int .i64 y.weight]) (b := g) (C := #[.int .i64 0, .int .u32 0, .int .i64 0]) (T := 33) rfl)
  clear ho K
  go_wp2_with (refine wpList_store_mid (op := ⟨none, Op.store 33 (.tmp 4) (.tmp 15), _, _, _, _⟩) (by rfl) 33 (.tmp 4) (.tmp 15) rfl g 0 (encBa y) (by rfl) (by rfl) ht (by kernel_rfl) (encBa_all _ _ _) ?_)
  exact bodyPost_ret (results_cell_tmp_row Tryz.results29 _ _ g 33 _ (0, 0) _ rfl (G.out.block 0 rfl) Tryz.underlying33 rfl (by kernel_rfl)) rfl ⟨by rw [hf, hy]; rfl, G.out.drop⟩
end
def noneOut : Int → Bool := fun _ => false
theorem withoutL_none (l : List Bk) : withoutL noneOut l = l := by unfold withoutL noneOut; simp
section
variable {F0 : List Nat} {w0 w : World} {R : List Asrt}
def SetPost (cb : Nat) (x : ChD × Int) (F0 : List Nat) (w0 : World) (R : List Asrt) (e : Ending) (w' : World) : Prop := ∃ vl vt, e = .returned (.int .i64 x.2) ∧ In F0 w0 w' (ChL cb x.1 vl vt R)
theorem o_chset {cb : Nat} {c : ChD} {vl vt : Value} {l : List Bk} {A : Option Addr} {n : Nat} (hm : mayM (c.slots : Int) = true) (hc : ∀ s, 1 ≤ s → s < c.slots → Cov c.slots s) (hmd : 0 ≤ c.made ∧ c.made ≤ 1000000000)
    (hs : BksAt F0 w0 R A l) (hn : A = none → n = 0) (hl : l.length ≤ 1000000) (h : In F0 w0 w (ChL cb c vl vt R)) :
    Calls Tryz.prog 11 #[pC cb, .slice A l.length n, .nilFunc] w (SetPost cb (setCh c l noneOut) F0 w0 R) := by
  have hs3 : BksAt F0 w0 (ChL cb c vl vt R) A l := ((hs.more _).more _).more _
  have K0 := Lib.hid (o_gnmay (c := n) hs3 (by omega) h)
  cases hg : gensMay l with
  | false =>
    have e : setCh c l noneOut = (c, 1) := by unfold setCh; rw [hg]; rfl
    rw [hg] at K0
    rw [e]
    clear e h hs hs3 hm hc hmd hl hn hg
    go_enter Tryz.func11, Tryz.ntmps11
    go_wp2_with fail
    refine K0.out.mono ?_
    rintro e w1 ⟨rfl, ho⟩
    have G := Lib.hid ho
    clear ho K0
    go_wp2_with fail
    go_ret
    exact ⟨_, _, rfl, G.out⟩
  | true =>
  rw [hg] at K0
  obtain ⟨m, tl, tt, md⟩ := c
  simp only at hm hc hmd
  have HE : Hid (setCh ⟨m, tl, tt, md⟩ l noneOut = (⟨m, l, tableM l m, md + 1⟩, 0)) := Lib.hid (by unfold setCh; rw [hg]; simp only [if_true]; rw [withoutL_none])
  have hadd : IntKind.i64.wrap (md + 1) = md + 1 := IntWalk.i64_in _ (by omega)
  have HN := Lib.hid hn
  have K1 := Lib.hid (fun w' (h' : In F0 w0 w' (ChL cb ⟨m, tl, tt, md⟩ vl vt R)) => o_bkclone (c := n) h' hn (hs3 w' h') hl)
  have K2 := Lib.hid (fun w' v (h' : In F0 w0 w' (BkR v l :: ChL cb ⟨m, tl, tt, md⟩ vl vt R)) => o_gnwithout (c := n) (hs3.more (BkR v l)) hn hl h')
  have K3 := Lib.hid (fun w' v2 v c2 (h' : In F0 w0 w' (BkR (.slice v2 l.length c2) l :: BkR v l :: ChL cb ⟨m, tl, tt, md⟩ vl vt R)) => o_matable (c := c2) (m := m) (bks_row (v := .slice v2 l.length c2) (l := l) (n := l.length) (c := c2) rfl 0 rfl) hl h' hm hc)
  clear h hs hs3 hm hc hmd hl hn hg
  go_enter Tryz.func11, Tryz.ntmps11
  go_wp2_with fail
  refine K0.out.mono ?_
  rintro e w1 ⟨rfl, ho⟩
  clear K0
  go_upto_region 3 with fail
  have hd := ho.drewN 1
  have HD := Lib.hid hd
  have hS : w1.drew.cell? ⟨cb, 0, none⟩ = some (.int .i64 m) := cell_of (hd.block 0 rfl) rfl
  clear hd ho
  refine e_start (fun w' => w'.cell? ⟨cb, 0, none⟩ = some (.int .i64 m)) (by kernel_rfl) hS (fun hS => ?_)
  refine e_take (i := 0) (v := ?_) rfl (by kernel_rfl) (fun _ _ _ h => h) (by rfl) ?_ hS ?_
  rotate_left
  · (intro w hSw; (try dsimp only at hSw); go_simp; try with_reducible rfl)
  try simp only [Act.put, List.setIfInBounds_toArray, List.set_cons_zero, List.set_cons_succ]
  refine e_take (i := 1) (v := ?_) rfl (by kernel_rfl) (fun _ _ _ h => h) (by rfl) ?_ hS ?_
  rotate_left
  · (intro w hSw; (try dsimp only at hSw); go_simp; try with_reducible rfl)
  try simp only [Act.put, List.setIfInBounds_toArray, List.set_cons_zero, List.set_cons_succ]
  refine e_take (i := 2) (v := ?_) rfl (by kernel_rfl) (fun _ _ _ h => h) (by rfl) ?_ hS ?_
  rotate_left
  · (intro w hSw; (try dsimp only at hSw); go_simp; try with_reducible rfl)
  try simp only [Act.put, List.setIfInBounds_toArray, List.set_cons_zero, List.set_cons_succ]
  refine e_take (i := 4) (v := ?_) rfl (by kernel_rfl) (fun _ _ _ h => h) (by rfl) ?_ hS ?_
  rotate_left
  · (intro w hSw; (try dsimp only at hSw); go_simp; try with_reducible rfl)
  try simp only [Act.put, List.setIfInBounds_toArray, List.set_cons_zero, List.set_cons_succ]
  refine e_take (i := 5) (v := ?_) rfl (by kernel_rfl) (fun _ _ _ h => h) (by rfl) ?_ hS ?_
  rotate_left
  · (intro w hSw; (try dsimp only at hSw); go_simp; try with_reducible rfl)
  try simp only [Act.put, List.setIfInBounds_toArray, List.set_cons_zero, List.set_cons_succ]
  refine e_take (i := 7) (v := ?_) rfl (by kernel_rfl) (fun _ _ _ h => h) (by rfl) ?_ hS ?_
  rotate_left
  · (intro w hSw; (try dsimp only at hSw); go_simp; try with_reducible rfl)
  try simp only [Act.put, List.setIfInBounds_toArray, List.set_cons_zero, List.set_cons_succ]
  refine e_take (i := 8) (v := ?_) rfl (by kernel_rfl) (fun _ _ _ h => h) (by rfl) ?_ hS ?_
  rotate_left
  · (intro w hSw; (try dsimp only at hSw); go_simp; try with_reducible rfl)
  try simp only [Act.put, List.setIfInBounds_toArray, List.set_cons_zero, List.set_cons_succ]
  refine e_take (i := 9) (v := ?_) rfl (by kernel_rfl) (fun _ _ _ h => h) (by rfl) ?_ hS ?_
  rotate_left
  · (intro w hSw; (try dsimp only at hSw); go_simp; try with_reducible rfl)
  try simp only [Act.put, List.setIfInBounds_toArray, List.set_cons_zero, List.set_cons_succ]
  refine e_take (i := 10) (v := ?_) rfl (by kernel_rfl) (fun _ _ _ h => h) (by rfl) ?_ hS ?_
  rotate_left
  · (intro w hSw; (try dsimp only at hSw); go_simp; try with_reducible rfl)
  try simp only [Act.put, List.setIfInBounds_toArray, List.set_cons_zero, List.set_cons_succ]
  refine e_pin (i := 3) rfl (by kernel_rfl) (fun K' hK => ?_)
  go_simp
  go_at_call 37
  refine (K1.out _ HD.out).mono ?_
  rintro e w3 ⟨v3, rfl, ho3⟩
  obtain ⟨F3, r3⟩ := ho3.get 0 rfl
  obtain ⟨a3, n3, rfl, -, -, -⟩ := RowA.shape r3
  have HO3 := Lib.hid ho3
  have hS3 : w3.cell? ⟨cb, 0, none⟩ = some (.int .i64 m) := cell_of (ho3.block 1 rfl) rfl
  clear ho3 r3 hS
  refine hK.out _ _ hS3 (fun hS => ?_)
  clear hK K' hS3
  try simp only [Act.put, List.setIfInBounds_toArray, List.set_cons_zero, List.set_cons_succ]
  refine e_pin (i := 6) rfl (by kernel_rfl) (fun K' hK => ?_)
  go_simp
  go_at_call 38
  refine (K2.out _ _ HO3.out).mono ?_
  rintro e w4 ⟨v4, rfl, ho4⟩
  obtain ⟨F4, r4⟩ := ho4.get 0 rfl
  obtain ⟨a4, c4, rfl, -, -, -⟩ := RowA.shape r4
  have HO4 := Lib.hid ho4
  have hS4 : w4.cell? ⟨cb, 0, none⟩ = some (.int .i64 m) := cell_of (ho4.block 2 rfl) rfl
  clear ho4 r4 hS HO3
  refine hK.out _ _ hS4 (fun hS => ?_)
  clear hK K' hS4
  try simp only [Act.put, List.setIfInBounds_toArray, List.set_cons_zero, List.set_cons_succ]
  refine e_pin (i := 11) rfl (by kernel_rfl) (fun K' hK => ?_)
  go_simp
  go_at_call 33
  refine (K3.out _ _ _ _ HO4.out).mono ?_
  rintro e w5 ⟨a5, c5, rfl, ho5⟩
  have ho5 := ho5.sel2 (R1 := [_, _, _, _, _, _]) [3, 2, 0] (by decide) rfl
  have hb5 : w5.heap[cb]? = some (.cells (cC ⟨m, tl, tt, md⟩ vl vt) 96 (0, 0)) := ho5.block 0 rfl
  have h6 := ho5.put 0 rfl 1 (.slice a3 l.length n3)
  have h7 := h6.put 0 rfl 2 (.slice a5 m c5)
  have hS5 : w5.cell? ⟨cb, 0, none⟩ = some (.int .i64 m) := cell_of hb5 rfl
  have hS6 : (w5.setCell ⟨cb, 1, none⟩ (.slice a3 l.length n3)).cell? ⟨cb, 0, none⟩ = some (.int .i64 m) := cell_of (h6.block 0 rfl) rfl
  have HF1 : Hid ((w5.frozen? ⟨cb, 1, none⟩ = false) ∧ w5.cell? ⟨cb, 1, none⟩ = some vl) := Lib.hid ⟨free_of hb5, cell_of hb5 rfl⟩
  have HF2 : Hid (((w5.setCell ⟨cb, 1, none⟩ (.slice a3 l.length n3)).frozen? ⟨cb, 2, none⟩ = false) ∧ (w5.setCell ⟨cb, 1, none⟩ (.slice a3 l.length n3)).cell? ⟨cb, 2, none⟩ = some vt) := Lib.hid ⟨free_of (h6.block 0 rfl), cell_of (h6.block 0 rfl) rfl⟩
  have HF7 := Lib.hid h7
  have HS6 := Lib.hid hS6
  clear ho5 hb5 h6 h7 hS HO4 hS6
  refine hK.out _ _ hS5 (fun hS => ?_)
  clear hK K' hS5
  try simp only [Act.put, List.setIfInBounds_toArray, List.set_cons_zero, List.set_cons_succ]
  refine e_take (i := 12) (v := ?_) rfl (by kernel_rfl) (fun _ _ _ h => h) (by rfl) ?_ hS ?_
  rotate_left
  · (intro w hSw; (try dsimp only at hSw); go_simp; try with_reducible rfl)
  try simp only [Act.put, List.setIfInBounds_toArray, List.set_cons_zero, List.set_cons_succ]
  refine e_take (i := 13) (v := ?_) rfl (by kernel_rfl) (fun _ _ _ h => h) (by rfl) ?_ hS ?_
  rotate_left
  · (intro w hSw; (try dsimp only at hSw); go_simp; try with_reducible rfl)
  try simp only [Act.put, List.setIfInBounds_toArray, List.set_cons_zero, List.set_cons_succ]
  refine e_pin (i := 14) rfl (by kernel_rfl) (fun K' hK => ?_)
  have hf := HF1.out.1
  have hc1 := HF1.out.2
  go_simp
  refine hK.out _ _ HS6.out (fun hS => ?_)
  clear hK K' HS6 hf hc1
  try simp only [Act.put, List.setIfInBounds_toArray, List.set_cons_zero, List.set_cons_succ]
  refine e_take (i := 15) (v := ?_) rfl (by kernel_rfl) (fun _ _ _ h => h) (by rfl) ?_ hS ?_
  rotate_left
  · (intro w hSw; (try dsimp only at hSw); go_simp; try with_reducible rfl)
  try simp only [Act.put, List.setIfInBounds_toArray, List.set_cons_zero, List.set_cons_succ]
  refine e_take (i := 16) (v := ?_) rfl (by kernel_rfl) (fun _ _ _ h => h) (by rfl) ?_ hS ?_
  rotate_left
  · (intro w hSw; (try dsimp only at hSw); go_simp; try with_reducible rfl)
  try simp only [Act.put, List.setIfInBounds_toArray, List.set_cons_zero, List.set_cons_succ]
  refine e_last (i := 17) rfl (by kernel_rfl) (fun K' hK => ?_)
  have hf := HF2.out.1
  have hc1 := HF2.out.2
  go_simp
  refine hK.out _ _ ?_
  clear hK K' hS hf hc1
  have c3 : ((w5.setCell ⟨cb, 1, none⟩ (.slice a3 l.length n3)).setCell ⟨cb, 2, none⟩ (.slice a5 m c5)).cell? ⟨cb, 3, none⟩ = some (.int .i64 md) := cell_of (HF7.out.block 0 rfl) rfl
  have f3 : ((w5.setCell ⟨cb, 1, none⟩ (.slice a3 l.length n3)).setCell ⟨cb, 2, none⟩ (.slice a5 m c5)).frozen? ⟨cb, 3, none⟩ = false := free_of (HF7.out.block 0 rfl)
  have G := Lib.hid (HF7.out.put 0 rfl 3 (.int .i64 (md + 1)))
  have HLT : Hid ((tableM l m).length = m) := Lib.hid (by
    obtain ⟨F, r⟩ := HF7.out.get 2 rfl
    obtain ⟨a', c', e, h2, h3, h4⟩ := RowA.shape r
    rw [Value.slice.injEq] at e
    exact e.2.1.symm)
  generalize ((w5.setCell ⟨cb, 1, none⟩ (.slice a3 l.length n3)).setCell ⟨cb, 2, none⟩ (.slice a5 m c5)) = w7 at *
  clear HF7 HF1 HF2 HD K1 K2 K3
  go_wp2_with fail
  go_ret
  rw [HE.out]
  exact ⟨.slice a3 l.length n3, .slice a5 m c5, rfl, G.out⟩
end
end Go.Proofs.YtgapbecddgfkmaaGreat
