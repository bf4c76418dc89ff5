/- Rows.PathStaysSaid -/
import Derived.Test.YtgapbecddgfkmaaGreatPS18
import Derived.Deep.CutBlock
namespace Go.Proofs.YtgapbecddgfkmaaGreat
open Go.RowKit
set_option linter.unusedVariables false
set_option maxHeartbeats 64000000
set_option maxRecDepth 100000
def insB (out : List Bk) (b : Bk) : List Bk :=
  let k := (out.takeWhile (fun y => decide (y.id < b.id))).length
  if (out[k]?).map (·.id) = some b.id then out.set k b else out.take k ++ b :: out.drop k
def sortN (l : List Bk) (i : Nat) : List Bk := (l.take i).foldl insB []
def sortBk (l : List Bk) : List Bk := sortN l 16
theorem sortN_succ {l : List Bk} {i : Nat} {b : Bk} (h : l[i]? = some b) : sortN l (i + 1) = insB (sortN l i) b := by
  unfold sortN; rw [List.take_add_one, h]; simp
theorem sortN_all {l : List Bk} {i : Nat} (h : i = l.length ∧ i ≤ 16) : sortBk l = sortN l i := by
  unfold sortBk sortN; rw [List.take_of_length_le (by omega), List.take_of_length_le (by omega)]
theorem insB_len (out : List Bk) (b : Bk) : (insB out b).length ≤ out.length + 1 := by
  unfold insB
  have hk : (out.takeWhile (fun y => decide (y.id < b.id))).length ≤ out.length := (List.takeWhile_prefix _).length_le
  dsimp only
  split
  · simp
  · simp [List.length_take, List.length_drop]; omega
theorem sortN_len (l : List Bk) : ∀ i, (sortN l i).length ≤ i
  | 0 => by simp [sortN]
  | i + 1 => by
    cases h : l[i]? with
    | none =>
      have : sortN l (i + 1) = sortN l i := by unfold sortN; rw [List.take_add_one, h]; simp
      rw [this]; have := sortN_len l i; omega
    | some b => rw [sortN_succ h]; have := insB_len (sortN l i) b; have := sortN_len l i; omega
theorem insB_mem {out : List Bk} {b x : Bk} (h : x ∈ insB out b) : x = b ∨ x ∈ out := by
  unfold insB at h
  dsimp only at h
  split at h
  · have := List.mem_or_eq_of_mem_set h
    rcases this with h | h
    · exact Or.inr h
    · exact Or.inl h
  · rcases List.mem_append.1 h with h | h
    · exact Or.inr (List.mem_of_mem_take h)
    · rcases List.mem_cons.1 h with h | h
      · exact Or.inl h
      · exact Or.inr (List.mem_of_mem_drop h)
theorem insB_in (out : List Bk) (b : Bk) : b ∈ insB out b := by
  unfold insB
  dsimp only
  split
  · rename_i h
    have hk : (out.takeWhile (fun y => decide (y.id < b.id))).length < out.length := by
      refine Nat.lt_of_not_le fun h2 => ?_
      rw [List.getElem?_eq_none h2] at h; cases h
    exact List.mem_iff_getElem?.2 ⟨_, List.getElem?_set_self hk⟩
  · simp
theorem sortN_mem {l : List Bk} {x : Bk} : ∀ {i : Nat}, x ∈ sortN l i → x ∈ l
  | 0, h => by simp [sortN] at h
  | i + 1, h => by
    cases hi : l[i]? with
    | none =>
      have e : sortN l (i + 1) = sortN l i := by unfold sortN; rw [List.take_add_one, hi]; simp
      rw [e] at h; exact sortN_mem h
    | some b =>
      rw [sortN_succ hi] at h
      rcases insB_mem h with rfl | h
      · exact List.mem_of_getElem? hi
      · exact sortN_mem h
def LowB (out : List Bk) (b : Bk) (k : Nat) : Prop := k ≤ out.length ∧ ∀ y ∈ out.take k, y.id < b.id
theorem LowB.at {out : List Bk} {b : Bk} {k : Nat} (h : LowB out b k) (hn : ∀ y, out[k]? = some y → ¬ y.id < b.id) : (out.takeWhile (fun y => decide (y.id < b.id))).length = k := by
  have e : ∀ (A B : List Bk), (∀ y ∈ A, y.id < b.id) → (∀ y, B[0]? = some y → ¬ y.id < b.id) → (A ++ B).takeWhile (fun y => decide (y.id < b.id)) = A := by
    intro A
    induction A with
    | nil =>
      intro B _ hB
      cases B with
      | nil => rfl
      | cons y r => have := hB y rfl; simp [this]
    | cons a A ih =>
      intro B hA hB
      have h1 := hA a (by simp)
      simp [List.takeWhile_cons, h1, ih B (fun y hy => hA y (List.mem_cons_of_mem _ hy)) hB]
  have := e (out.take k) (out.drop k) h.2 (fun y hy => hn y (by rw [List.getElem?_drop] at hy; simpa using hy))
  rw [List.take_append_drop] at this
  rw [this, List.length_take]; have := h.1; omega
theorem LowB.set {out : List Bk} {b y : Bk} {k : Nat} (h : LowB out b k) (hy : out[k]? = some y) (he : y.id = b.id) : insB out b = out.set k b := by
  unfold insB
  have := h.at (fun z hz => by rw [hy] at hz; cases hz; omega)
  dsimp only
  rw [this, hy, if_pos (by simp [he])]
theorem LowB.ins {out : List Bk} {b : Bk} {k : Nat} (h : LowB out b k) (hn : ∀ y, out[k]? = some y → b.id < y.id) : insB out b = out.take k ++ b :: out.drop k := by
  unfold insB
  have := h.at (fun z hz => by have := hn z hz; omega)
  dsimp only
  rw [this]
  refine if_neg (fun e => ?_)
  cases hk : out[k]? with
  | none => rw [hk] at e; cases e
  | some y => rw [hk] at e; have := hn y hk; simp at e; omega
theorem bkV_dropD (L : List Bk) (m : Nat) : (bkV L).drop (m * 3) = bkV (L.drop m) := by
  induction L generalizing m with
  | nil => simp [bkV]
  | cons y r ih =>
    cases m with
    | zero => simp
    | succ m =>
      have l1 : (encB y).length = 3 := rfl
      rw [List.drop_succ_cons, bkV_consD, ← ih, List.drop_append, l1, show (m + 1) * 3 - 3 = m * 3 by omega, List.drop_eq_nil_of_le (by rw [l1]; omega), List.nil_append]
section
variable {F0 : List Nat} {w0 w : World} {R : List Asrt}
def SbRel (l : List Bk) (F0 : List Nat) (w0 : World) (R : List Asrt) (vo vi : Value) (wr : World) : Prop := ∃ i : Nat, vi = .int .i64 i ∧ i ≤ l.length ∧ i ≤ 16 ∧ In F0 w0 wr (BkR vo (sortN l i) :: R)
def SbIn (g5 : Nat) (b : Bk) (vo : Value) (out : List Bk) (F0 : List Nat) (w0 : World) (R : List Asrt) (vk : Value) (wr : World) : Prop := ∃ k : Nat, vk = .int .i64 k ∧ LowB out b k ∧ In F0 w0 wr (Cells g5 (encBa b) 33 :: BkR vo out :: R)
def SbMid (g5 : Nat) (b : Bk) (vo : Value) (out : List Bk) (F0 : List Nat) (w0 : World) (R : List Asrt) (vk : Value) (wr : World) : Prop := ∃ k : Nat, vk = .int .i64 k ∧ LowB out b k ∧ (∀ y, out[k]? = some y → ¬ y.id < b.id) ∧ In F0 w0 wr (Cells g5 (encBa b) 33 :: BkR vo out :: R)
theorem o_sortbk {l : List Bk} {A : Option Addr} {c : Nat} (hs : BksAt F0 w0 R A l) (hl : l.length ≤ 1000000) (h : In F0 w0 w R) :
    Calls Tryz.prog 28 #[.slice A l.length c] w fun e w' => ∃ v, e = .returned v ∧ In F0 w0 w' (BkR v (sortBk l) :: R) := by
  have HS0 : Hid (SbRel l F0 w0 R (.slice none 0 0) (.int .i64 0) w) := Lib.hid ⟨0, rfl, Nat.zero_le _, by omega, h.rownil _ _⟩
  have HB := Lib.hid hs
  clear h hs
  go_enter Tryz.func28, Tryz.ntmps28
  go_wp2_with fail
  go_loopw [3, 9] (SbRel l F0 w0 R) (fun _ vi _ => l.length - (intOf vi).toNat)
  case atStart => exact HS0.out
  case round =>
    obtain ⟨i, rfl, hi, hi16, ho⟩ := hrel
    clear HS0
    by_cases hlt : i < l.length
    · obtain ⟨b, hb⟩ : ∃ b, l[i]? = some b := ⟨l[i], List.getElem?_eq_getElem hlt⟩
      obtain ⟨gg, o, rfl, c0, c1, c2⟩ := HB.out.cell ho.drop hb
      have hlt' : (i : Int) < (l.length : Int) := by omega
      by_cases h16 : i = 16
      · have h16' : (16 : Int) ≤ (i : Int) := by omega
        have hout : sortBk l = sortN l i := by rw [h16]; rfl
        rw [← hout] at ho
        have G := Lib.hid (fun (o : Obj) => (ho.alloc o))
        clear ho hout hlt hi h16 hb
        go_wp2_with fail
        go_ret
        exact ⟨_, rfl, G.out _⟩
      · have h16' : ¬ ((16 : Int) ≤ (i : Int)) := by omega
        have hn := sortN_succ hb
        obtain ⟨out, hout⟩ : ∃ out, out = sortN l i := ⟨_, rfl⟩
        rw [← hout] at ho hn
        have hol : out.length ≤ 16 := by rw [hout]; have := sortN_len l i; omega
        have HNX : Hid (∀ W v, In F0 w0 W (BkR v (insB out b) :: R) → SbRel l F0 w0 R v (.int .i64 ((i : Int) + 1)) W) := Lib.hid (fun W v hW => ⟨i + 1, by rw [Int.natCast_add]; rfl, hlt, by omega, by rw [hn]; exact hW⟩)
        have hw2 : wrap64 ((i : Int) + 1) = (i : Int) + 1 := by unfold wrap64; omega
        obtain ⟨F3, r3⟩ := ho.get 0 rfl
        obtain ⟨oa, oc, rfl, hoc, hom, -⟩ := RowA.shape r3
        have HO := Lib.hid (ho.cells (encBa b) 33)
        unfold maxLen at hom
        clear ho hn hout r3 hi hi16 h16 hb
        go_upto_block 2 with fail
        generalize wr.heap.size = g5 at *
        generalize (wr.alloc (.cells #[.int .i64 b.id, .int .u32 b.addr, .int .i64 b.weight] 33)) = wa at *
        go_cut [6] (fun vk wx => SbMid g5 b (.slice oa out.length oc) out F0 w0 R vk wx)
        case first =>
          have HR0 : Hid (SbIn g5 b (.slice oa out.length oc) out F0 w0 R (.int .i64 0) wa) := Lib.hid ⟨0, rfl, ⟨Nat.zero_le _, by simp⟩, HO.out⟩
          clear HO c0 c1 c2
          go_wp2_with fail
          go_loopw [6] (SbIn g5 b (.slice oa out.length oc) out F0 w0 R) (fun k _ => out.length - (intOf k).toNat)
          case atStart => exact HR0.out
          case round =>
            obtain ⟨k, rfl, hk, ho⟩ := hrel
            clear HR0
            have hwk : wrap64 ((k : Int) + 1) = (k : Int) + 1 := by have := hk.1; unfold wrap64; omega
            by_cases hkl : k < out.length
            · obtain ⟨y, hy⟩ : ∃ y, out[k]? = some y := ⟨out[k], List.getElem?_eq_getElem hkl⟩
              have hkl' : (k : Int) < (out.length : Int) := by omega
              have hsrc : BksAt F0 w0 (Cells g5 (encBa b) 33 :: BkR (.slice oa out.length oc) out :: R) oa out := bks_row (n := out.length) (c := oc) rfl 1 rfl
              obtain ⟨og, oo, rfl, -, -, -⟩ := hsrc.cell ho hy
              have d0 : ∀ n, (wr.drewN n).cell? ⟨og, oo + k * 3, none⟩ = some (.int .i64 y.id) := fun n => by
                obtain ⟨g', o', e, z, -, -⟩ := hsrc.cell (ho.drewN n) hy
                cases e; exact z
              have d1 : ∀ n, (wr.drewN n).cell? ⟨g5, 0, none⟩ = some (.int .i64 b.id) := fun n => cell_of ((ho.drewN n).block 0 rfl) rfl
              have HON := Lib.hid (fun n => ho.drewN n)
              by_cases hyb : y.id < b.id
              · have hyb' : decide (y.id < b.id) = true := decide_eq_true hyb
                have HR : Hid (∀ n, SbIn g5 b (.slice (some ⟨og, oo, none⟩) out.length oc) out F0 w0 R (.int .i64 ((k : Int) + 1)) (wr.drewN n)) := Lib.hid (fun n => ⟨k + 1, by rw [Int.natCast_add]; rfl, ⟨hkl, fun z hz => by
                  rw [List.take_add_one, hy] at hz
                  rcases List.mem_append.1 hz with hz | hz
                  · exact hk.2 z hz
                  · simp at hz; subst hz; exact hyb⟩, HON.out n⟩)
                clear ho hsrc hk hy HON
                go_wp2_with fail
                go_quiet (fail)
                go_wp2_with fail
                go_roundw
                case rel => (try rw [hwk]); exact HR.out _
                case measure => (try rw [hwk]); exact meas_lt hkl'
              · have hyb' : decide (y.id < b.id) = false := decide_eq_false hyb
                have HR : Hid (∀ n, SbMid g5 b (.slice (some ⟨og, oo, none⟩) out.length oc) out F0 w0 R (.int .i64 k) (wr.drewN n)) := Lib.hid (fun n => ⟨k, rfl, hk, fun z hz => by rw [hy] at hz; cases hz; exact hyb, HON.out n⟩)
                clear ho hsrc hk hy HON
                go_wp2_with fail
                go_quiet (fail)
                go_wp2_with fail
                go_meet
                exact HR.out _
            · have hkl' : decide ((k : Int) < (out.length : Int)) = false := decide_eq_false (by omega)
              have hklN : decide (k < out.length) = false := decide_eq_false hkl
              have HR : Hid (∀ n, SbMid g5 b (.slice oa out.length oc) out F0 w0 R (.int .i64 k) (wr.drewN n)) := Lib.hid (fun n => ⟨k, rfl, hk, fun z hz => absurd (List.getElem?_eq_some_iff.1 hz).1 hkl, ho.drewN n⟩)
              clear ho hk hkl
              go_wp2_with fail
              go_quiet (fail)
              go_wp2_with fail
              go_meet
              exact HR.out _
        case rest =>
        obtain ⟨k, rfl, hk, hkn, ho⟩ := hcut
        clear HO c0 c1 c2
        have hoa : oa = none ∨ ∃ g, oa = some ⟨g, 0, none⟩ := by
          obtain ⟨F, r⟩ := ho.get 1 rfl
          obtain ⟨_, ⟨h4, h5⟩ | ⟨g, cc, cur, e2, _⟩⟩ := r.2
          · rw [Value.slice.injEq] at h4; exact Or.inl h4.1
          · rw [Value.slice.injEq] at e2; exact Or.inr ⟨g, e2.1⟩
        have d1 : ∀ n, (wc.drewN n).cell? ⟨g5, 0, none⟩ = some (.int .i64 b.id) := fun n => cell_of ((ho.drewN n).block 0 rfl) rfl
        by_cases hset : ∃ y, out[k]? = some y ∧ y.id = b.id
        · obtain ⟨y, hy, hyb⟩ := hset
          have hkl := (List.getElem?_eq_some_iff.1 hy).1
          have hkl' : (k : Int) < (out.length : Int) := by omega
          have hyb' : (y.id == b.id) = true := by rw [hyb]; simp
          obtain ⟨og, rfl⟩ : ∃ g, oa = some ⟨g, 0, none⟩ := by
            rcases hoa with e | e
            · obtain ⟨og, oo, e2, -, -, -⟩ := (bks_row (n := out.length) (c := oc) rfl 1 rfl : BksAt F0 w0 (Cells g5 (encBa b) 33 :: BkR (.slice oa out.length oc) out :: R) oa out).cell ho hy
              rw [e] at e2; cases e2
            · exact e
          have d0 : ∀ n, (wc.drewN n).cell? ⟨og, k * 3, none⟩ = some (.int .i64 y.id) := fun n => by
            obtain ⟨g', o', e, z, -, -⟩ := (bks_row (n := out.length) (c := oc) rfl 1 rfl : BksAt F0 w0 (Cells g5 (encBa b) 33 :: BkR (.slice (some ⟨og, 0, none⟩) out.length oc) out :: R) (some ⟨og, 0, none⟩) out).cell (ho.drewN n) hy
            cases e; rw [Nat.zero_add] at z; exact z
          have HON := Lib.hid (fun n => ho.drewN n)
          have HI2 := Lib.hid (hk.set hy hyb)
          clear ho hk hkn hy hyb hoa
          go_wp2_with fail
          go_quiet (fail)
          have HI := Lib.hid (HON.out nq)
          clear HON d0 d1
          generalize wc.drewN nq = wz at *
          have f0 : wz.cell? ⟨g5, 0, none⟩ = some (.int .i64 b.id) := cell_of (HI.out.block 0 rfl) rfl
          have f1 : wz.cell? ⟨g5, 1, none⟩ = some (.int .u32 b.addr) := cell_of (HI.out.block 0 rfl) rfl
          have f2 : wz.cell? ⟨g5, 2, none⟩ = some (.int .i64 b.weight) := cell_of (HI.out.block 0 rfl) rfl
          have hfl : (bkV out).length = out.length * 3 := bkV_length _
          obtain ⟨F1, hr⟩ := HI.out.get 1 rfl
          have HTH : Hid (wz.there og (k * 3) (encBa b).size) := Lib.hid (hr.there (by rw [hfl]; show k * 3 + 3 ≤ _; omega))
          have HINF : Hid ((Tryz.prog.info? 33).map (·.size) = some (encBa b).size) := Lib.hid (by kernel_rfl)
          have HPUT : Hid (In F0 w0 (wz.setCells og (k * 3) (encBa b).toList) (BkR (.slice (some ⟨og, 0, none⟩) out.length oc) (insB out b) :: R)) := Lib.hid (by
            have h5 := row_put HI.out 1 rfl (o := k * 3) (us := (encBa b).toList) (by rw [hfl]; simp; omega)
            rw [show (encBa b).toList = encB b from rfl, bkV_setD b hkl] at h5
            rw [HI2.out]; unfold BkR; rw [List.length_set]
            exact h5.drop)
          clear hr hfl hkl
          go_wp2_with (refine wpList_store_mid (op := ⟨none, Op.store 33 (.tmp 49) (.tmp 48), _, _, _, _⟩) (by rfl) 33 (.tmp 49) (.tmp 48) rfl og (k * 3) (encBa b) (by rfl) (by rfl) HTH.out HINF.out (encBa_all _ _ _) ?_)
          go_roundw
          case rel => (try rw [hw2]); exact HNX.out _ _ HPUT.out
          case measure => (try rw [hw2]); exact meas_lt hlt'
        · have hins : insB out b = out.take k ++ b :: out.drop k := hk.ins (fun y hy => by
            have h1 := hkn y hy
            have h2 : y.id ≠ b.id := fun e => hset ⟨y, hy, e⟩
            omega)
          have hkl := hk.1
          have hpre : ∀ w, (Instr.slice 34 (.slice oa out.length oc) none (some (.int .i64 k)) none).run Tryz.prog w = .ok (.slice oa k oc) w := fun w => by
            rcases hoa with e | ⟨g, e⟩
            · rw [e]; exact run_prefix_none Tryz.underlying34 infoBk _ _ _ (by omega) w
            · rw [e]; exact run_prefix Tryz.underlying34 infoBk _ _ _ _ (by omega) w
          have hsuf : ∀ w, (Instr.slice 34 (.slice oa out.length oc) (some (.int .i64 k)) none none).run Tryz.prog w = .ok (.slice (sufA oa oc k 3) (out.length - k) (oc - k)) w := fun w => run_suffix Tryz.underlying34 infoBk _ _ _ _ (by omega) w
          have HSRC1 : Hid (∀ W X, In F0 w0 W (X ++ (BkR (.slice oa out.length oc) out :: R)) → Src W oa k 3 (bkV (out.take k))) := Lib.hid (fun W X hW => by
            have hg : (X ++ (BkR (.slice oa out.length oc) out :: R))[X.length]? = some (BkR (.slice oa out.length oc) out) := by simp
            obtain ⟨F', hF'⟩ := hW.get X.length hg
            have := hF'.view.src (m := k) hkl
            rwa [bkV_takeD] at this)
          have HSRC2 : Hid (∀ W X, In F0 w0 W (X ++ (BkR (.slice oa out.length oc) out :: R)) → Src W (sufA oa oc k 3) (out.length - k) 3 (bkV (out.drop k))) := Lib.hid (fun W X hW => by
            have hg : (X ++ (BkR (.slice oa out.length oc) out :: R))[X.length]? = some (BkR (.slice oa out.length oc) out) := by simp
            obtain ⟨F', hF'⟩ := hW.get X.length hg
            have := hF'.view.src_from (i := k) hkl
            rwa [bkV_dropD] at this)
          have HFIN : Hid (∀ W v, In F0 w0 W (RowA 33 3 v (0 + k + 1 + (out.length - k)) ([] ++ bkV (out.take k) ++ (encBa b).toList ++ bkV (out.drop k)) :: R) → In F0 w0 W (BkR v (insB out b) :: R)) := Lib.hid (fun W v hW => by
            have e1 : [] ++ bkV (out.take k) ++ (encBa b).toList ++ bkV (out.drop k) = bkV (insB out b) := by rw [hins]; simp [bkV]
            have e2 : 0 + k + 1 + (out.length - k) = (insB out b).length := by rw [hins]; simp; omega
            rw [e1, e2] at hW; exact hW)
          have HON := Lib.hid (fun n => ho.drewN n)
          have hkk : k ≤ 1000 := by omega
          have hkr : out.length - k ≤ 1000 := by omega
          have hq9 : ((k < out.length) ∧ ∃ (og : Nat) (y : Bk), oa = some ⟨og, 0, none⟩ ∧ y.id ≠ b.id ∧ ∀ n, (wc.drewN n).cell? ⟨og, k * 3, none⟩ = some (.int .i64 y.id)) ∨ ¬ (k < out.length) := by
            by_cases hlt2 : k < out.length
            · left
              refine ⟨hlt2, ?_⟩
              obtain ⟨y, hy⟩ : ∃ y, out[k]? = some y := ⟨out[k], List.getElem?_eq_getElem hlt2⟩
              obtain ⟨og, e⟩ : ∃ g, oa = some ⟨g, 0, none⟩ := by
                rcases hoa with e | e
                · obtain ⟨og, oo, e2, -, -, -⟩ := (bks_row (n := out.length) (c := oc) rfl 1 rfl : BksAt F0 w0 (Cells g5 (encBa b) 33 :: BkR (.slice oa out.length oc) out :: R) oa out).cell ho hy
                  rw [e] at e2; cases e2
                · exact e
              refine ⟨og, y, e, fun e2 => hset ⟨y, hy, e2⟩, fun n => ?_⟩
              obtain ⟨g', o', e3, z, -, -⟩ := (bks_row (n := out.length) (c := oc) rfl 1 rfl : BksAt F0 w0 (Cells g5 (encBa b) 33 :: BkR (.slice oa out.length oc) out :: R) oa out).cell (ho.drewN n) hy
              rw [e] at e3; cases e3; rw [Nat.zero_add] at z; exact z
            · right; exact hlt2
          clear ho hk hkn hset hins hoa hoc hom hol
          rcases hq9 with ⟨hlt2, og, y, rfl, hne, d0⟩ | hlt2
          case' inl =>
            have hkl' : (k : Int) < (out.length : Int) := by omega
            have hyb' : (y.id == b.id) = false := beq_eq_false_iff_ne.2 hne
            clear hlt2 hne hkl
            go_wp2_with fail
            go_quiet (fail)
            have HI := Lib.hid (HON.out nq)
            clear HON d0 d1
            generalize wc.drewN nq = wz at *
            go_wp2_with fail
            generalize (some (⟨og, 0, none⟩ : Addr)) = oa at *
          case' inr =>
            have hkl' : decide ((k : Int) < (out.length : Int)) = false := decide_eq_false (by omega)
            have hklN : decide (k < out.length) = false := decide_eq_false hlt2
            clear hlt2 hkl
            go_wp2_with fail
            go_quiet (fail)
            have HI := Lib.hid (HON.out nq)
            clear HON d1
            generalize wc.drewN nq = wz at *
            go_wp2_with fail
          all_goals
            have HD : Hid (In F0 w0 wz.drew (RowA 33 3 (.slice none 0 0) 0 [] :: Cells g5 (encBa b) 33 :: BkR (.slice oa out.length oc) out :: R)) := Lib.hid ((HI.out.drewN 1).rownil 33 3)
            have hS : wz.drew.cell? ⟨g5, 0, none⟩ = some (.int .i64 b.id) ∧ wz.drew.cell? ⟨g5, 1, none⟩ = some (.int .u32 b.addr) ∧ wz.drew.cell? ⟨g5, 2, none⟩ = some (.int .i64 b.weight) := ⟨cell_of (HD.out.block 1 rfl) rfl, cell_of (HD.out.block 1 rfl) rfl, cell_of (HD.out.block 1 rfl) rfl⟩
            clear HI
            refine e_start (fun w' => w'.cell? ⟨g5, 0, none⟩ = some (.int .i64 b.id) ∧ w'.cell? ⟨g5, 1, none⟩ = some (.int .u32 b.addr) ∧ w'.cell? ⟨g5, 2, none⟩ = some (.int .i64 b.weight)) (by kernel_rfl) hS (fun hS => ?_)
            generalize wz.drew = VD at *
            refine e_take (i := 0) (v := ?_) rfl (by kernel_rfl) (fun _ _ _ h => h) (by rfl) ?_ hS ?_
            rotate_left
            · (intro w hSw; (try dsimp only at hSw); go_simp; try with_reducible rfl)
            try simp only [Act.put, List.setIfInBounds_toArray, List.set_cons_zero, List.set_cons_succ]
            refine e_take (i := 1) (v := ?_) rfl (by kernel_rfl) (fun _ _ _ h => h) (by rfl) ?_ hS ?_
            rotate_left
            · (intro w hSw; (try dsimp only at hSw); go_simp; try with_reducible rfl)
            try simp only [Act.put, List.setIfInBounds_toArray, List.set_cons_zero, List.set_cons_succ]
            refine e_take (i := 2) (v := ?_) rfl (by kernel_rfl) (fun _ _ _ h => h) (by rfl) ?_ hS ?_
            rotate_left
            · (intro w hSw; (try dsimp only at hSw); go_simp; try with_reducible rfl)
            try simp only [Act.put, List.setIfInBounds_toArray, List.set_cons_zero, List.set_cons_succ]
            refine e_take (i := 4) (v := ?_) rfl (by kernel_rfl) (fun _ _ _ h => h) (by rfl) ?_ hS ?_
            rotate_left
            · (intro w hSw; (try dsimp only at hSw); go_simp; try with_reducible rfl)
            try simp only [Act.put, List.setIfInBounds_toArray, List.set_cons_zero, List.set_cons_succ]
            refine e_take (i := 7) (v := ?_) rfl (by kernel_rfl) (fun _ _ _ h => h) (by rfl) ?_ hS ?_
            rotate_left
            · (intro w hSw; (try dsimp only at hSw); go_simp; try with_reducible rfl)
            try simp only [Act.put, List.setIfInBounds_toArray, List.set_cons_zero, List.set_cons_succ]
            refine e_take (i := 8) (v := ?_) rfl (by kernel_rfl) (fun _ _ _ h => h) (by rfl) ?_ hS ?_
            rotate_left
            · (intro w hSw; (try dsimp only at hSw); go_simp; try with_reducible rfl)
            try simp only [Act.put, List.setIfInBounds_toArray, List.set_cons_zero, List.set_cons_succ]
            refine e_take (i := 9) (v := ?_) rfl (by kernel_rfl) (fun _ _ _ h => h) (by rfl) ?_ hS ?_
            rotate_left
            · (intro w hSw; (try dsimp only at hSw); go_simp; try with_reducible rfl)
            try simp only [Act.put, List.setIfInBounds_toArray, List.set_cons_zero, List.set_cons_succ]
            refine e_two (i := 3) (j := 5) rfl rfl (by kernel_rfl) (fun K' hK => ?_) (fun K' hK => ?_)
            · refine app_step rfl HD.out 0 rfl (.const (.slice none 0 0)) (.tmp 52) 34 (by rfl) Tryz.underlying34 infoBk (by decide) (by decide) (by rfl) (by rfl) (HSRC1.out _ [_, _] HD.out) (bkV_one _) (by omega) ?_
              intro v1 w1 ho hg
              have H1 := Lib.hid (show In F0 w0 w1 (RowA 33 3 v1 (0 + k) ([] ++ bkV (out.take k)) :: Cells g5 (encBa b) 33 :: BkR (.slice oa out.length oc) out :: R) from ho)
              clear ho hg
              refine hK.out _ _ ⟨cell_of (H1.out.block 1 rfl) rfl, cell_of (H1.out.block 1 rfl) rfl, cell_of (H1.out.block 1 rfl) rfl⟩ (fun hS => ?_)
              clear hK K'
              try simp only [Act.put, List.setIfInBounds_toArray, List.set_cons_zero, List.set_cons_succ]
              refine e_pin (i := 5) rfl (by kernel_rfl) (fun K' hK => ?_)
              go_simp
              have hA := H1.out.cells (encBa b) 33
              generalize w1.heap.size = gb at *
              generalize (w1.alloc (.cells #[.int .i64 b.id, .int .u32 b.addr, .int .i64 b.weight] 33)) = w2 at *
              have H2 := Lib.hid (show In F0 w0 w2 (Cells gb (encBa b) 33 :: RowA 33 3 v1 (0 + k) ([] ++ bkV (out.take k)) :: Cells g5 (encBa b) 33 :: BkR (.slice oa out.length oc) out :: R) from hA)
              clear hA
              refine hK.out _ _ ⟨cell_of (H2.out.block 2 rfl) rfl, cell_of (H2.out.block 2 rfl) rfl, cell_of (H2.out.block 2 rfl) rfl⟩ (fun hS => ?_)
              clear hK K' H1 HD
              try simp only [Act.put, List.setIfInBounds_toArray, List.set_cons_zero, List.set_cons_succ]
              refine e_pin (i := 6) rfl (by kernel_rfl) (fun K' hK => ?_)
              refine app_step rfl H2.out 1 rfl (.tmp 53) (.tmp 55) 34 (by rfl) Tryz.underlying34 infoBk (by decide) (by decide) (by rfl) (by rfl) (Src.of_block (H2.out.block 0 rfl) rfl) (fun u hu => by simp at hu; rcases hu with rfl | rfl | rfl <;> rfl) (by omega) ?_
              intro v3 w3 ho hg
              have H3 := Lib.hid (show In F0 w0 w3 (Cells gb (encBa b) 33 :: RowA 33 3 v3 (0 + k + 1) ([] ++ bkV (out.take k) ++ (encBa b).toList) :: Cells g5 (encBa b) 33 :: BkR (.slice oa out.length oc) out :: R) from ho)
              clear ho hg
              refine hK.out _ _ ⟨cell_of (H3.out.block 2 rfl) rfl, cell_of (H3.out.block 2 rfl) rfl, cell_of (H3.out.block 2 rfl) rfl⟩ (fun hS => ?_)
              clear hK K'
              try simp only [Act.put, List.setIfInBounds_toArray, List.set_cons_zero, List.set_cons_succ]
              refine e_pin (i := 10) rfl (by kernel_rfl) (fun K' hK => ?_)
              refine app_step rfl H3.out 1 rfl (.tmp 56) (.tmp 59) 34 (by rfl) Tryz.underlying34 infoBk (by decide) (by decide) (by rfl) (by rfl) (HSRC2.out _ [_, _, _] H3.out) (bkV_one _) (by omega) ?_
              intro v4 w4 ho hg
              have H4 := Lib.hid (show In F0 w0 w4 (Cells gb (encBa b) 33 :: RowA 33 3 v4 (0 + k + 1 + (out.length - k)) ([] ++ bkV (out.take k) ++ (encBa b).toList ++ bkV (out.drop k)) :: Cells g5 (encBa b) 33 :: BkR (.slice oa out.length oc) out :: R) from ho)
              clear ho hg
              refine hK.out _ _ ⟨cell_of (H4.out.block 2 rfl) rfl, cell_of (H4.out.block 2 rfl) rfl, cell_of (H4.out.block 2 rfl) rfl⟩ (fun hS => ?_)
              clear hK K'
              try simp only [Act.put, List.setIfInBounds_toArray, List.set_cons_zero, List.set_cons_succ]
              refine e_last (i := 11) rfl (by kernel_rfl) (fun K' hK => ?_)
              go_simp
              refine hK.out _ _ ?_
              clear hK K' hS
              have HF := Lib.hid (HNX.out _ _ (HFIN.out _ _ (H4.out.sel2 (R1 := [_, _, _, _]) (R2 := R) [1] (by decide) rfl)))
              clear H4 H3 H2
              go_wp2_with fail
              go_roundw
              case rel => (try rw [hw2]); exact HF.out
              case measure => (try rw [hw2]); exact meas_lt hlt'
            · go_simp
              have hA := HD.out.cells (encBa b) 33
              generalize VD.heap.size = gb at *
              generalize (VD.alloc (.cells #[.int .i64 b.id, .int .u32 b.addr, .int .i64 b.weight] 33)) = wq at *
              have H0 := Lib.hid (show In F0 w0 wq (Cells gb (encBa b) 33 :: RowA 33 3 (.slice none 0 0) 0 [] :: Cells g5 (encBa b) 33 :: BkR (.slice oa out.length oc) out :: R) from hA)
              clear hA
              refine hK.out _ _ ⟨cell_of (H0.out.block 2 rfl) rfl, cell_of (H0.out.block 2 rfl) rfl, cell_of (H0.out.block 2 rfl) rfl⟩ (fun hS => ?_)
              clear hK K' HD
              try simp only [Act.put, List.setIfInBounds_toArray, List.set_cons_zero, List.set_cons_succ]
              refine e_pin (i := 3) rfl (by kernel_rfl) (fun K' hK => ?_)
              refine app_step rfl H0.out 1 rfl (.const (.slice none 0 0)) (.tmp 52) 34 (by rfl) Tryz.underlying34 infoBk (by decide) (by decide) (by rfl) (by rfl) (HSRC1.out _ [_, _, _] H0.out) (bkV_one _) (by omega) ?_
              intro v1 w1 ho hg
              have H2 := Lib.hid (show In F0 w0 w1 (Cells gb (encBa b) 33 :: RowA 33 3 v1 (0 + k) ([] ++ bkV (out.take k)) :: Cells g5 (encBa b) 33 :: BkR (.slice oa out.length oc) out :: R) from ho)
              clear ho hg
              refine hK.out _ _ ⟨cell_of (H2.out.block 2 rfl) rfl, cell_of (H2.out.block 2 rfl) rfl, cell_of (H2.out.block 2 rfl) rfl⟩ (fun hS => ?_)
              clear hK K' H0
              try simp only [Act.put, List.setIfInBounds_toArray, List.set_cons_zero, List.set_cons_succ]
              refine e_pin (i := 6) rfl (by kernel_rfl) (fun K' hK => ?_)
              refine app_step rfl H2.out 1 rfl (.tmp 53) (.tmp 55) 34 (by rfl) Tryz.underlying34 infoBk (by decide) (by decide) (by rfl) (by rfl) (Src.of_block (H2.out.block 0 rfl) rfl) (fun u hu => by simp at hu; rcases hu with rfl | rfl | rfl <;> rfl) (by omega) ?_
              intro v3 w3 ho hg
              have H3 := Lib.hid (show In F0 w0 w3 (Cells gb (encBa b) 33 :: RowA 33 3 v3 (0 + k + 1) ([] ++ bkV (out.take k) ++ (encBa b).toList) :: Cells g5 (encBa b) 33 :: BkR (.slice oa out.length oc) out :: R) from ho)
              clear ho hg
              refine hK.out _ _ ⟨cell_of (H3.out.block 2 rfl) rfl, cell_of (H3.out.block 2 rfl) rfl, cell_of (H3.out.block 2 rfl) rfl⟩ (fun hS => ?_)
              clear hK K'
              try simp only [Act.put, List.setIfInBounds_toArray, List.set_cons_zero, List.set_cons_succ]
              refine e_pin (i := 10) rfl (by kernel_rfl) (fun K' hK => ?_)
              refine app_step rfl H3.out 1 rfl (.tmp 56) (.tmp 59) 34 (by rfl) Tryz.underlying34 infoBk (by decide) (by decide) (by rfl) (by rfl) (HSRC2.out _ [_, _, _] H3.out) (bkV_one _) (by omega) ?_
              intro v4 w4 ho hg
              have H4 := Lib.hid (show In F0 w0 w4 (Cells gb (encBa b) 33 :: RowA 33 3 v4 (0 + k + 1 + (out.length - k)) ([] ++ bkV (out.take k) ++ (encBa b).toList ++ bkV (out.drop k)) :: Cells g5 (encBa b) 33 :: BkR (.slice oa out.length oc) out :: R) from ho)
              clear ho hg
              refine hK.out _ _ ⟨cell_of (H4.out.block 2 rfl) rfl, cell_of (H4.out.block 2 rfl) rfl, cell_of (H4.out.block 2 rfl) rfl⟩ (fun hS => ?_)
              clear hK K'
              try simp only [Act.put, List.setIfInBounds_toArray, List.set_cons_zero, List.set_cons_succ]
              refine e_last (i := 11) rfl (by kernel_rfl) (fun K' hK => ?_)
              go_simp
              refine hK.out _ _ ?_
              clear hK K' hS
              have HF := Lib.hid (HNX.out _ _ (HFIN.out _ _ (H4.out.sel2 (R1 := [_, _, _, _]) (R2 := R) [1] (by decide) rfl)))
              clear H4 H3 H2
              go_wp2_with fail
              go_roundw
              case rel => (try rw [hw2]); exact HF.out
              case measure => (try rw [hw2]); exact meas_lt hlt'
    · have hge : ¬ ((i : Int) < (l.length : Int)) := by omega
      have hout := sortN_all (l := l) (i := i) ⟨by omega, hi16⟩
      rw [← hout] at ho
      have G := Lib.hid ho
      clear ho hout hlt hi
      go_wp2_with fail
      go_ret
      exact ⟨_, rfl, G.out⟩
end
end Go.Proofs.YtgapbecddgfkmaaGreat
