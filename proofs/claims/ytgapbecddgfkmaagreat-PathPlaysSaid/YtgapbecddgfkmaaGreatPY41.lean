/- Rows.PathPlaysSaid -/
import Derived.Test.YtgapbecddgfkmaaGreatPY21
import Derived.Test.YtgapbecddgfkmaaGreatPY24
import Derived.Test.YtgapbecddgfkmaaGreatPY28
import Derived.Test.YtgapbecddgfkmaaGreatPY39
import Derived.Test.YtgapbecddgfkmaaGreatPY40
import Derived.Test.YtgapbecddgfkmaaGreatPY18
namespace Go.Proofs.YtgapbecddgfkmaaGreat
open Go.RowKit
set_option linter.unusedVariables false
set_option maxHeartbeats 64000000
set_option maxRecDepth 100000
abbrev outC (v r bk : Int) (vp : Value) : Array Value := #[.int .i64 v, .int .i64 r, .int .i64 bk, vp]
theorem outC_all (v r bk : Int) (a : Option Addr) (n c : Nat) : (outC v r bk (.slice a n c)).all (·.oneCell') = true := by simp [Value.oneCell']
theorem choice_ref (L : List Fl) (c : ChD) (k : Tup) : choiceD L c k = if ((atF L k).isSome && (findBk c.l ((atF L k).getD zF).bk).isSome) = true then findBk c.l ((atF L k).getD zF).bk else pickCh c k := by
  unfold choiceD
  cases atF L k with
  | none => rfl
  | some f =>
    simp only [Option.isSome_some, Bool.true_and, Option.getD_some]
    cases findBk c.l f.bk <;> rfl
theorem keep_ref {L : List Fl} {c : ChD} {k : Tup} {be : Bk} (h : choiceD L c k = some be) : ((atF L k).isSome && (findBk c.l ((atF L k).getD zF).bk).isSome) = decide ((atF L k).isSome = true ∧ wasD L k = be.id) := by
  unfold wasD
  unfold choiceD at h
  cases hk : atF L k with
  | none => simp
  | some f =>
    rw [hk] at h
    simp only [Option.isSome_some, Bool.true_and, Option.getD_some, true_and] at h ⊢
    cases hf : findBk c.l f.bk with
    | some b =>
      rw [hf] at h
      obtain rfl := Option.some.inj h
      have := List.find?_some hf
      simp only [beq_iff_eq] at this
      simp [this]
    | none =>
      rw [hf] at h
      change pickCh c k = some be at h
      have hb : be ∈ c.l := by
        unfold pickCh at h
        split at h
        · exact List.mem_of_find?_eq_some h
        · cases h
      have hn := List.find?_eq_none.1 hf be hb
      simp only [beq_iff_eq] at hn
      simp only [Option.isSome_none]
      rw [decide_eq_false (fun e => hn e.symm)]
section
variable {F0 : List Nat} {w0 w : World} {R : List Asrt} {b : List UInt8} {bt cb : Nat} {most idle : Int} {M : List Fl} {c : ChD} {vl vt : Value}
theorem o_r20drop (why : Int) (h : In F0 w0 w R) : Calls Tryz.prog 51 #[.int .i64 why] w fun e w' => e = .returned (.agg (outC 1 why 0 (.slice none 0 0))) ∧ In F0 w0 w' R := by
  have h1 := h.cells (outC 0 0 0 (.slice none 0 0)) 40
  have G := Lib.hid (h1.setFull 0 rfl (xs := [.int .i64 1, .int .i64 why, .int .i64 0, .slice none 0 0]) (b := w.heap.size) (C := (outC 0 0 0 (.slice none 0 0))) (T := 40) rfl)
  have ht := there_of (h1.block 0 rfl)
  clear h h1
  go_enter Tryz.func51, Tryz.ntmps51
  go_wp2_with (refine wpList_store_mid (op := ⟨none, Op.store 40 (.tmp 2) (.tmp 4), _, _, _, _⟩) (by rfl) 40 (.tmp 2) (.tmp 4) rfl w.heap.size 0 (outC 1 why 0 (.slice none 0 0)) (by rfl) (by rfl) ht (by kernel_rfl) (outC_all _ _ _ _ _ _) ?_)
  exact bodyPost_ret (results_cell_row Tryz.results51 _ _ w.heap.size 40 _ (0, 0) _ rfl (G.out.block 0 rfl) Tryz.underlying40 rfl (by kernel_rfl)) rfl ⟨rfl, G.out.drop⟩
def RPkPost (x : PlanD × List Fl) (bt : Nat) (most idle : Int) (cb : Nat) (c : ChD) (vl vt : Value) (F0 : List Nat) (w0 : World) (R : List Asrt) (e : Ending) (w' : World) : Prop :=
  ∃ vp vr, e = .returned (.tuple #[.agg (outC x.1.verdict x.1.reason x.1.bk vp), vr]) ∧ In F0 w0 w' (ByR vp x.1.pkt :: RecR vr x.1.recs :: RFA bt most idle (sortF x.2) :: RChL cb c vl vt R)
theorem o_r20packet {self sl fl idle0 mtu sg qu ve : Int} (hself : 0 ≤ self ∧ self < 4294967296) (hcm : 1 ≤ c.slots ∧ c.slots ≤ 251) (hct : c.t.length = c.slots) (hcl : c.l.length ≤ 1000000) (hids : ∀ b ∈ c.l, 0 ≤ b.id)
    (hwf : ∀ x ∈ c.l, 0 ≤ x.addr ∧ x.addr < 4294967296) (hok : OkF most M) {gen now : Int} (hnow : 0 ≤ now ∧ now ≤ 1099511627776) {A : Option Addr} {n : Nat} (hb : Bytes F0 w0 R A n b) (hbl : b.length ≤ 100000000) (h : In F0 w0 w (RFA bt most idle (sortF M) :: RChL cb c vl vt R)) :
    Calls Tryz.prog 23 #[.agg (cfC self sl fl idle0 mtu sg qu ve), .pointer (some ⟨bt, 0, none⟩), pC cb, .int .i64 gen, .int .i64 now, .slice A b.length n] w (RPkPost (pktD self mtu most M c gen now b) bt most idle cb c vl vt F0 w0 R) := by
  have h1 := (h.cells (cfC self sl fl idle0 mtu sg qu ve) 46).cells (outC 0 0 0 (.slice none 0 0)) 40
  rw [World.size_alloc] at h1
  have hb6 : Bytes F0 w0 (Cells (w.heap.size + 1) (outC 0 0 0 (.slice none 0 0)) 40 :: Cells w.heap.size (cfC self sl fl idle0 mtu sg qu ve) 46 :: RFA bt most idle (sortF M) :: RChL cb c vl vt R) A n b := ⟨fun W hW => hb.src W hW.drop.drop.drop.drop.drop.drop, hb.nil, hb.ad, hb.cap, hb.room⟩
  have K0 := o_r20tuple h1 hb6 hbl
  have KD := Lib.hid (fun w' (R' : List Asrt) why (h' : In F0 w0 w' R') => o_r20drop why h')
  have hpk : pktD self mtu most M c gen now b = if (withinD b).2.2.2 ≠ 0 then (dropP (withinD b).2.2.2, M)
    else match choiceD M c (withinD b).1 with
      | none => (dropP 10, M)
      | some be =>
        if (wrapD b self be.addr mtu).2 ≠ 0 then (dropP (wrapD b self be.addr mtu).2, M)
        else (⟨2, 0, be.id, (wrapD b self be.addr mtu).1, (keepD most M ⟨(withinD b).1, be.id, gen, now⟩ (atF M (withinD b).1).isSome (wasD M (withinD b).1) (endsD (withinD b).1 b)).1⟩,
          (keepD most M ⟨(withinD b).1, be.id, gen, now⟩ (atF M (withinD b).1).isSome (wasD M (withinD b).1) (endsD (withinD b).1 b)).2) := by
    unfold pktD; rw [if_pos hnow]
    cases choiceD M c (withinD b).1 <;> rfl
  have hwt := within_wf b
  have KE := Lib.hid (fun w' (R' : List Asrt) (t : Tup) (hb' : Bytes F0 w0 R' A n b) (h' : In F0 w0 w' R') => o_r20ends h' t hb' hbl)
  have KW := Lib.hid (fun w' (R' : List Asrt) (dst : Int) (t0 : 0 ≤ dst) (t1 : dst < 4294967296) (hb' : Bytes F0 w0 R' A n b) (h' : In F0 w0 w' R') => o_r20wrap h' hb' hbl (self := self) (dst := dst) mtu hself.1 hself.2 t0 t1)
  have HPK := Lib.hid hpk
  have HB := Lib.hid hb
  have HOK := Lib.hid hok
  have HCF := Lib.hid (And.intro hcm (And.intro hct (And.intro hcl (And.intro hids hwf))))
  unfold TupPost at K0
  clear hpk hb hok hcm hct hcl hids hwf hb6 h hself hnow
  generalize withinD b = wd at *
  obtain ⟨k, ⟨a0, a1, a2, a3, a4, a5, a6, a7, a8, a9, a10⟩, rest, why⟩ := wd
  have ee : encH ⟨a0, a1, a2, a3, a4, a5, a6, a7, a8, a9, a10⟩ = (hC a0 a1 a2 a3 a4 a5 a6 a7 a8 a9 a10) := rfl
  simp only [ee] at K0
  simp only at HPK hwt
  have K := Lib.hid K0
  have HWT := Lib.hid hwt
  obtain ⟨k0, k1, k2, k3, k4⟩ := k
  clear K0 ee h1 hwt
  go_enter Tryz.func23, Tryz.ntmps23
  go_wp2_with fail
  generalize w.heap.size = g at *
  refine K.out.mono ?_
  rintro e w1 ⟨rfl, ho⟩
  clear K
  have ho2 := (ho.cells #[.int .u32 k0, .int .u32 k1, .int .i64 k2, .int .i64 k3, .int .i64 k4] 24).cells (hC a0 a1 a2 a3 a4 a5 a6 a7 a8 a9 a10) 84
  simp only [World.size_alloc] at ho2
  clear ho
  go_upto_region 2 with fail
  generalize w1.heap.size = g2 at *
  generalize ((w1.alloc (.cells #[.int .u32 k0, .int .u32 k1, .int .i64 k2, .int .i64 k3, .int .i64 k4] 24)).alloc (.cells (hC a0 a1 a2 a3 a4 a5 a6 a7 a8 a9 a10) 84)) = w2 at *
  have HO2 : Hid (In F0 w0 w2 (Cells (g2 + 1) (hC a0 a1 a2 a3 a4 a5 a6 a7 a8 a9 a10) 84 :: Cells g2 #[.int .u32 k0, .int .u32 k1, .int .i64 k2, .int .i64 k3, .int .i64 k4] 24 :: Cells (g + 1) (outC 0 0 0 (.slice none 0 0)) 40 :: Cells g (cfC self sl fl idle0 mtu sg qu ve) 46 :: RFA bt most idle (sortF M) :: RChL cb c vl vt R)) := Lib.hid ho2
  clear ho2
  by_cases hw : why = 0
  case neg =>
    have hw' : (why != 0) = true := by rw [bne_iff_ne]; exact hw
    have HE : Hid (pktD self mtu most M c gen now b = (dropP why, M)) := Lib.hid (by rw [HPK.out, if_pos hw])
    have K1 := Lib.hid (KD.out _ _ why HO2.out)
    clear hw HPK HO2 KE KW
    go_wp2_with fail
    refine K1.out.mono ?_
    rintro e w3 ⟨rfl, ho⟩
    have ht := there_of (ho.block 2 rfl)
    have G := Lib.hid (ho.setFull 2 rfl (xs := [.int .i64 1, .int .i64 why, .int .i64 0, .slice none 0 0]) (b := g + 1) (C := (outC 0 0 0 (.slice none 0 0))) (T := 40) rfl)
    clear K1 ho
    go_wp2_with (refine wpList_store_mid (op := ⟨none, Op.store 40 (.tmp 12) (.tmp 36), _, _, _, _⟩) (by rfl) 40 (.tmp 12) (.tmp 36) rfl (g + 1) 0 (outC 1 why 0 (.slice none 0 0)) (by rfl) (by rfl) ht (by kernel_rfl) (outC_all _ _ _ _ _ _) ?_)
    exact bodyPost_ret (results_cell_tmp_row Tryz.results23 _ _ (g + 1) 40 _ (0, 0) _ rfl (G.out.block 2 rfl) Tryz.underlying40 rfl (by kernel_rfl)) rfl ⟨_, _, by rw [HE.out]; rfl, by rw [HE.out]; exact (G.out.drop.drop.drop.drop.rownil 54 14).rownil 5 1⟩
  have hw' : (why != 0) = false := by rw [hw]; rfl
  obtain ⟨fb, hfb⟩ : ∃ fb, fb = (atF M ⟨k0, k1, k2, k3, k4⟩).getD zF := ⟨_, rfl⟩
  have K1 := o_rfgetM HO2.out 4 rfl HOK.out ⟨k0, k1, k2, k3, k4⟩
  rw [← hfb] at K1
  have K1H := Lib.hid K1
  have HFB := Lib.hid (And.intro hfb hw)
  obtain ⟨⟨f0, f1, f2, f3, f4⟩, f5, f6, f7⟩ := fb
  clear hw K1 hfb
  have i0 : w2.cell? ⟨g2, 0, none⟩ = some (.int .u32 k0) := cell_of (HO2.out.block 1 rfl) rfl
  have i1 : w2.cell? ⟨g2, 1, none⟩ = some (.int .u32 k1) := cell_of (HO2.out.block 1 rfl) rfl
  have i2 : w2.cell? ⟨g2, 2, none⟩ = some (.int .i64 k2) := cell_of (HO2.out.block 1 rfl) rfl
  have i3 : w2.cell? ⟨g2, 3, none⟩ = some (.int .i64 k3) := cell_of (HO2.out.block 1 rfl) rfl
  have i4 : w2.cell? ⟨g2, 4, none⟩ = some (.int .i64 k4) := cell_of (HO2.out.block 1 rfl) rfl
  go_wp2_with fail
  refine K1H.out.mono ?_
  rintro e w3 ⟨rfl, ho⟩
  have h3 := ho.cells (encF ⟨⟨f0, f1, f2, f3, f4⟩, f5, f6, f7⟩) 49
  have H3 := Lib.hid h3
  clear ho h3 K1H i0 i1 i2 i3 i4 HO2 hw'
  go_upto_region 5 with fail
  obtain ⟨Fl, rl⟩ := H3.out.get 7 rfl
  obtain ⟨pa, pc, rfl, -, -, -⟩ := RowA.shape rl
  clear rl
  have h3 := H3.out.drewN 1
  clear H3
  generalize w3.heap.size = g17 at *
  have HD : Hid (In F0 w0 (w3.alloc (.cells (encF ⟨⟨f0, f1, f2, f3, f4⟩, f5, f6, f7⟩) 49)).drew (Cells g17 (encF ⟨⟨f0, f1, f2, f3, f4⟩, f5, f6, f7⟩) 49 :: Cells (g2 + 1) (hC a0 a1 a2 a3 a4 a5 a6 a7 a8 a9 a10) 84 :: Cells g2 #[.int .u32 k0, .int .u32 k1, .int .i64 k2, .int .i64 k3, .int .i64 k4] 24 :: Cells (g + 1) (outC 0 0 0 (.slice none 0 0)) 40 :: Cells g (cfC self sl fl idle0 mtu sg qu ve) 46 :: RFA bt most idle (sortF M) :: RChL cb c (.slice pa c.l.length pc) vt R)) := Lib.hid h3
  clear h3
  have KF0 : Hid (∀ w', In F0 w0 w' (Cells g17 (encF ⟨⟨f0, f1, f2, f3, f4⟩, f5, f6, f7⟩) 49 :: Cells (g2 + 1) (hC a0 a1 a2 a3 a4 a5 a6 a7 a8 a9 a10) 84 :: Cells g2 #[.int .u32 k0, .int .u32 k1, .int .i64 k2, .int .i64 k3, .int .i64 k4] 24 :: Cells (g + 1) (outC 0 0 0 (.slice none 0 0)) 40 :: Cells g (cfC self sl fl idle0 mtu sg qu ve) 46 :: RFA bt most idle (sortF M) :: RChL cb c (.slice pa c.l.length pc) vt R) → Calls Tryz.prog 53 #[.slice pa c.l.length pc, .int .i64 f5] w' fun e w'' => e = .returned (.tuple #[.agg (encBa ((findBk c.l f5).getD zBk)), .bool (findBk c.l f5).isSome]) ∧ In F0 w0 w'' (Cells g17 (encF ⟨⟨f0, f1, f2, f3, f4⟩, f5, f6, f7⟩) 49 :: Cells (g2 + 1) (hC a0 a1 a2 a3 a4 a5 a6 a7 a8 a9 a10) 84 :: Cells g2 #[.int .u32 k0, .int .u32 k1, .int .i64 k2, .int .i64 k3, .int .i64 k4] 24 :: Cells (g + 1) (outC 0 0 0 (.slice none 0 0)) 40 :: Cells g (cfC self sl fl idle0 mtu sg qu ve) 46 :: RFA bt most idle (sortF M) :: RChL cb c (.slice pa c.l.length pc) vt R)) := Lib.hid (fun w' h' => o_r10find (bks_row (n := c.l.length) (c := pc) rfl 7 rfl) HCF.out.2.2.1 f5 h')
  have KF1 : Hid (∀ w' X, In F0 w0 w' (X :: Cells g17 (encF ⟨⟨f0, f1, f2, f3, f4⟩, f5, f6, f7⟩) 49 :: Cells (g2 + 1) (hC a0 a1 a2 a3 a4 a5 a6 a7 a8 a9 a10) 84 :: Cells g2 #[.int .u32 k0, .int .u32 k1, .int .i64 k2, .int .i64 k3, .int .i64 k4] 24 :: Cells (g + 1) (outC 0 0 0 (.slice none 0 0)) 40 :: Cells g (cfC self sl fl idle0 mtu sg qu ve) 46 :: RFA bt most idle (sortF M) :: RChL cb c (.slice pa c.l.length pc) vt R) → Calls Tryz.prog 53 #[.slice pa c.l.length pc, .int .i64 f5] w' fun e w'' => e = .returned (.tuple #[.agg (encBa ((findBk c.l f5).getD zBk)), .bool (findBk c.l f5).isSome]) ∧ In F0 w0 w'' (X :: Cells g17 (encF ⟨⟨f0, f1, f2, f3, f4⟩, f5, f6, f7⟩) 49 :: Cells (g2 + 1) (hC a0 a1 a2 a3 a4 a5 a6 a7 a8 a9 a10) 84 :: Cells g2 #[.int .u32 k0, .int .u32 k1, .int .i64 k2, .int .i64 k3, .int .i64 k4] 24 :: Cells (g + 1) (outC 0 0 0 (.slice none 0 0)) 40 :: Cells g (cfC self sl fl idle0 mtu sg qu ve) 46 :: RFA bt most idle (sortF M) :: RChL cb c (.slice pa c.l.length pc) vt R)) := Lib.hid (fun w' X h' => o_r10find (bks_row (n := c.l.length) (c := pc) rfl 8 rfl) HCF.out.2.2.1 f5 h')
  obtain ⟨yb, hyb⟩ : ∃ yb, yb = (findBk c.l f5).getD zBk := ⟨_, rfl⟩
  obtain ⟨fd, hfd⟩ : ∃ fd, fd = (findBk c.l f5).isSome := ⟨_, rfl⟩
  rw [← hyb, ← hfd] at KF0 KF1
  have HYB := Lib.hid (And.intro hyb hfd)
  clear hyb hfd
  go_cut [19, 20] (fun x19 x20 wx => ∃ g19, x19 = .pointer (some ⟨g19, 0, none⟩) ∧ x20 = .bool fd ∧ In F0 w0 wx (Cells g19 (encBa yb) 33 :: Cells g17 (encF ⟨⟨f0, f1, f2, f3, f4⟩, f5, f6, f7⟩) 49 :: Cells (g2 + 1) (hC a0 a1 a2 a3 a4 a5 a6 a7 a8 a9 a10) 84 :: Cells g2 #[.int .u32 k0, .int .u32 k1, .int .i64 k2, .int .i64 k3, .int .i64 k4] 24 :: Cells (g + 1) (outC 0 0 0 (.slice none 0 0)) 40 :: Cells g (cfC self sl fl idle0 mtu sg qu ve) 46 :: RFA bt most idle (sortF M) :: RChL cb c (.slice pa c.l.length pc) vt R))
  case first =>
    refine e_start (fun w' => w'.cell? ⟨cb, 1, none⟩ = some (.slice pa c.l.length pc) ∧ w'.cell? ⟨g17, 5, none⟩ = some (.int .i64 f5)) (by kernel_rfl) ⟨cell_of (HD.out.block 6 rfl) rfl, cell_of (HD.out.block 0 rfl) rfl⟩ (fun hS => ?_)
    generalize (w3.alloc (.cells (encF ⟨⟨f0, f1, f2, f3, f4⟩, f5, f6, f7⟩) 49)).drew = VD at *
    refine e_take (i := 0) (v := ?_) rfl (by kernel_rfl) (fun _ _ _ h => h) (by rfl) ?_ hS ?_
    rotate_left
    · (intro w hSw; (try dsimp only at hSw); go_simp; try with_reducible rfl)
    try simp only [Act.put, List.setIfInBounds_toArray, List.set_cons_zero, List.set_cons_succ]
    refine e_take (i := 1) (v := ?_) rfl (by kernel_rfl) (fun _ _ _ h => h) (by rfl) ?_ hS ?_
    rotate_left
    · (intro w hSw; (try dsimp only at hSw); go_simp; try with_reducible rfl)
    try simp only [Act.put, List.setIfInBounds_toArray, List.set_cons_zero, List.set_cons_succ]
    refine e_take (i := 2) (v := ?_) rfl (by kernel_rfl) (fun _ _ _ h => h) (by rfl) ?_ hS ?_
    rotate_left
    · (intro w hSw; (try dsimp only at hSw); go_simp; try with_reducible rfl)
    try simp only [Act.put, List.setIfInBounds_toArray, List.set_cons_zero, List.set_cons_succ]
    refine e_take (i := 3) (v := ?_) rfl (by kernel_rfl) (fun _ _ _ h => h) (by rfl) ?_ hS ?_
    rotate_left
    · (intro w hSw; (try dsimp only at hSw); go_simp; try with_reducible rfl)
    try simp only [Act.put, List.setIfInBounds_toArray, List.set_cons_zero, List.set_cons_succ]
    refine e_take (i := 4) (v := ?_) rfl (by kernel_rfl) (fun _ _ _ h => h) (by rfl) ?_ hS ?_
    rotate_left
    · (intro w hSw; (try dsimp only at hSw); go_simp; try with_reducible rfl)
    try simp only [Act.put, List.setIfInBounds_toArray, List.set_cons_zero, List.set_cons_succ]
    refine e_take (i := 5) (v := ?_) rfl (by kernel_rfl) (fun _ _ _ h => h) (by rfl) ?_ hS ?_
    rotate_left
    · (intro w hSw; (try dsimp only at hSw); go_simp; try with_reducible rfl)
    try simp only [Act.put, List.setIfInBounds_toArray, List.set_cons_zero, List.set_cons_succ]
    refine e_two (i := 6) (j := 10) rfl rfl (by kernel_rfl) (fun K' hK => ?_) (fun K' hK => ?_)
    · go_simp
      go_at_call 53
      refine (KF0.out _ HD.out).mono ?_
      rintro e u1 ⟨rfl, hN⟩
      have HU1 : Hid (In F0 w0 u1 (Cells g17 (encF ⟨⟨f0, f1, f2, f3, f4⟩, f5, f6, f7⟩) 49 :: Cells (g2 + 1) (hC a0 a1 a2 a3 a4 a5 a6 a7 a8 a9 a10) 84 :: Cells g2 #[.int .u32 k0, .int .u32 k1, .int .i64 k2, .int .i64 k3, .int .i64 k4] 24 :: Cells (g + 1) (outC 0 0 0 (.slice none 0 0)) 40 :: Cells g (cfC self sl fl idle0 mtu sg qu ve) 46 :: RFA bt most idle (sortF M) :: RChL cb c (.slice pa c.l.length pc) vt R)) := Lib.hid hN
      clear hN
      refine hK.out _ _ ⟨cell_of (HU1.out.block 6 rfl) rfl, cell_of (HU1.out.block 0 rfl) rfl⟩ (fun hS => ?_)
      clear hK K'
      try simp only [Act.put, List.setIfInBounds_toArray, List.set_cons_zero, List.set_cons_succ]
      refine e_take (i := 7) (v := ?_) rfl (by kernel_rfl) (fun _ _ _ h => h) (by rfl) ?_ hS ?_
      rotate_left
      · (intro w hSw; (try dsimp only at hSw); go_simp; try with_reducible rfl)
      try simp only [Act.put, List.setIfInBounds_toArray, List.set_cons_zero, List.set_cons_succ]
      refine e_take (i := 8) (v := ?_) rfl (by kernel_rfl) (fun _ _ _ h => h) (by rfl) ?_ hS ?_
      rotate_left
      · (intro w hSw; (try dsimp only at hSw); go_simp; try with_reducible rfl)
      try simp only [Act.put, List.setIfInBounds_toArray, List.set_cons_zero, List.set_cons_succ]
      refine e_take (i := 9) (v := ?_) rfl (by kernel_rfl) (fun _ _ _ h => h) (by rfl) ?_ hS ?_
      rotate_left
      · (intro w hSw; (try dsimp only at hSw); go_simp; try with_reducible rfl)
      try simp only [Act.put, List.setIfInBounds_toArray, List.set_cons_zero, List.set_cons_succ]
      refine e_pin (i := 10) rfl (by kernel_rfl) (fun K' hK => ?_)
      go_simp
      have hA := HU1.out.cells #[.int .i64 0, .int .u32 0, .int .i64 0] 33
      generalize u1.heap.size = gA at *
      generalize (u1.alloc (.cells #[.int .i64 0, .int .u32 0, .int .i64 0] 33)) = u2 at *
      have HU2 : Hid (In F0 w0 u2 (Cells gA (encBa zBk) 33 :: Cells g17 (encF ⟨⟨f0, f1, f2, f3, f4⟩, f5, f6, f7⟩) 49 :: Cells (g2 + 1) (hC a0 a1 a2 a3 a4 a5 a6 a7 a8 a9 a10) 84 :: Cells g2 #[.int .u32 k0, .int .u32 k1, .int .i64 k2, .int .i64 k3, .int .i64 k4] 24 :: Cells (g + 1) (outC 0 0 0 (.slice none 0 0)) 40 :: Cells g (cfC self sl fl idle0 mtu sg qu ve) 46 :: RFA bt most idle (sortF M) :: RChL cb c (.slice pa c.l.length pc) vt R)) := Lib.hid hA
      clear hA
      refine hK.out _ _ ⟨cell_of (HU2.out.block 7 rfl) rfl, cell_of (HU2.out.block 1 rfl) rfl⟩ (fun hS => ?_)
      clear hK K'
      try simp only [Act.put, List.setIfInBounds_toArray, List.set_cons_zero, List.set_cons_succ]
      refine e_pin (i := 11) rfl (by kernel_rfl) (fun K' hK => ?_)
      have hF := HU2.out.setFull 0 rfl (xs := (encBa yb).toList) (b := gA) (C := encBa zBk) (T := 33) rfl
      refine store_step (by rfl) 33 (.tmp 19) (.tmp 51) (by rfl) gA 0 (encBa yb) (by rfl) (by rfl) (there_of (C := encBa zBk) (T := 33) (HU2.out.block 0 rfl)) (by kernel_rfl) (encBa_all _ _ _) ?_
      refine hK.out _ _ ⟨cell_of (hF.block 7 rfl) rfl, cell_of (hF.block 1 rfl) rfl⟩ (fun hS => ?_)
      clear hK K'
      try simp only [Act.put, List.setIfInBounds_toArray, List.set_cons_zero, List.set_cons_succ]
      refine e_last (i := 12) rfl (by kernel_rfl) (fun K' hK => ?_)
      go_simp
      refine hK.out _ _ ?_
      clear hK K' hS
      go_wp2_with fail
      go_meet
      exact ⟨gA, rfl, rfl, hF⟩
    · go_simp
      have hA := HD.out.cells #[.int .i64 0, .int .u32 0, .int .i64 0] 33
      generalize VD.heap.size = gA at *
      generalize (VD.alloc (.cells #[.int .i64 0, .int .u32 0, .int .i64 0] 33)) = u1 at *
      have HU1 : Hid (In F0 w0 u1 (Cells gA (encBa zBk) 33 :: Cells g17 (encF ⟨⟨f0, f1, f2, f3, f4⟩, f5, f6, f7⟩) 49 :: Cells (g2 + 1) (hC a0 a1 a2 a3 a4 a5 a6 a7 a8 a9 a10) 84 :: Cells g2 #[.int .u32 k0, .int .u32 k1, .int .i64 k2, .int .i64 k3, .int .i64 k4] 24 :: Cells (g + 1) (outC 0 0 0 (.slice none 0 0)) 40 :: Cells g (cfC self sl fl idle0 mtu sg qu ve) 46 :: RFA bt most idle (sortF M) :: RChL cb c (.slice pa c.l.length pc) vt R)) := Lib.hid hA
      clear hA
      refine hK.out _ _ ⟨cell_of (HU1.out.block 7 rfl) rfl, cell_of (HU1.out.block 1 rfl) rfl⟩ (fun hS => ?_)
      clear hK K'
      try simp only [Act.put, List.setIfInBounds_toArray, List.set_cons_zero, List.set_cons_succ]
      refine e_pin (i := 6) rfl (by kernel_rfl) (fun K' hK => ?_)
      go_simp
      go_at_call 53
      refine (KF1.out _ _ HU1.out).mono ?_
      rintro e u2 ⟨rfl, hN⟩
      have HU2 : Hid (In F0 w0 u2 (Cells gA (encBa zBk) 33 :: Cells g17 (encF ⟨⟨f0, f1, f2, f3, f4⟩, f5, f6, f7⟩) 49 :: Cells (g2 + 1) (hC a0 a1 a2 a3 a4 a5 a6 a7 a8 a9 a10) 84 :: Cells g2 #[.int .u32 k0, .int .u32 k1, .int .i64 k2, .int .i64 k3, .int .i64 k4] 24 :: Cells (g + 1) (outC 0 0 0 (.slice none 0 0)) 40 :: Cells g (cfC self sl fl idle0 mtu sg qu ve) 46 :: RFA bt most idle (sortF M) :: RChL cb c (.slice pa c.l.length pc) vt R)) := Lib.hid hN
      clear hN
      refine hK.out _ _ ⟨cell_of (HU2.out.block 7 rfl) rfl, cell_of (HU2.out.block 1 rfl) rfl⟩ (fun hS => ?_)
      clear hK K'
      try simp only [Act.put, List.setIfInBounds_toArray, List.set_cons_zero, List.set_cons_succ]
      refine e_take (i := 7) (v := ?_) rfl (by kernel_rfl) (fun _ _ _ h => h) (by rfl) ?_ hS ?_
      rotate_left
      · (intro w hSw; (try dsimp only at hSw); go_simp; try with_reducible rfl)
      try simp only [Act.put, List.setIfInBounds_toArray, List.set_cons_zero, List.set_cons_succ]
      refine e_take (i := 8) (v := ?_) rfl (by kernel_rfl) (fun _ _ _ h => h) (by rfl) ?_ hS ?_
      rotate_left
      · (intro w hSw; (try dsimp only at hSw); go_simp; try with_reducible rfl)
      try simp only [Act.put, List.setIfInBounds_toArray, List.set_cons_zero, List.set_cons_succ]
      refine e_take (i := 9) (v := ?_) rfl (by kernel_rfl) (fun _ _ _ h => h) (by rfl) ?_ hS ?_
      rotate_left
      · (intro w hSw; (try dsimp only at hSw); go_simp; try with_reducible rfl)
      try simp only [Act.put, List.setIfInBounds_toArray, List.set_cons_zero, List.set_cons_succ]
      refine e_pin (i := 11) rfl (by kernel_rfl) (fun K' hK => ?_)
      have hF := HU2.out.setFull 0 rfl (xs := (encBa yb).toList) (b := gA) (C := encBa zBk) (T := 33) rfl
      refine store_step (by rfl) 33 (.tmp 19) (.tmp 51) (by rfl) gA 0 (encBa yb) (by rfl) (by rfl) (there_of (C := encBa zBk) (T := 33) (HU2.out.block 0 rfl)) (by kernel_rfl) (encBa_all _ _ _) ?_
      refine hK.out _ _ ⟨cell_of (hF.block 7 rfl) rfl, cell_of (hF.block 1 rfl) rfl⟩ (fun hS => ?_)
      clear hK K'
      try simp only [Act.put, List.setIfInBounds_toArray, List.set_cons_zero, List.set_cons_succ]
      refine e_last (i := 12) rfl (by kernel_rfl) (fun K' hK => ?_)
      go_simp
      refine hK.out _ _ ?_
      clear hK K' hS
      go_wp2_with fail
      go_meet
      exact ⟨gA, rfl, rfl, hF⟩
  case rest =>
  obtain ⟨g19, rfl, rfl, ho⟩ := hcut
  have H19 : Hid (In F0 w0 wc (Cells g19 (encBa yb) 33 :: Cells g17 (encF ⟨⟨f0, f1, f2, f3, f4⟩, f5, f6, f7⟩) 49 :: Cells (g2 + 1) (hC a0 a1 a2 a3 a4 a5 a6 a7 a8 a9 a10) 84 :: Cells g2 #[.int .u32 k0, .int .u32 k1, .int .i64 k2, .int .i64 k3, .int .i64 k4] 24 :: Cells (g + 1) (outC 0 0 0 (.slice none 0 0)) 40 :: Cells g (cfC self sl fl idle0 mtu sg qu ve) 46 :: RFA bt most idle (sortF M) :: RChL cb c (.slice pa c.l.length pc) vt R)) := Lib.hid ho
  clear ho KF0 KF1 HD
  obtain ⟨kn, hkn⟩ : ∃ kn, kn = (atF M ⟨k0, k1, k2, k3, k4⟩).isSome := ⟨_, rfl⟩
  rw [← hkn]
  have HKN := Lib.hid hkn
  clear hkn
  go_upto_region 6 with fail
  go_cut [21] (fun x21 wx => x21 = .bool (kn && fd) ∧ wx = wc)
  case first =>
    cases kn
    all_goals
      go_wp2_with fail
      go_meet
      exact ⟨rfl, rfl⟩
  case rest =>
  obtain ⟨rfl, rfl⟩ := hcut
  have HCH : Hid (choiceD M c ⟨k0, k1, k2, k3, k4⟩ = if (kn && fd) = true then findBk c.l f5 else pickCh c ⟨k0, k1, k2, k3, k4⟩) := Lib.hid (by rw [choice_ref, ← HKN.out, ← HFB.out.1, HYB.out.2])
  obtain ⟨same, hsame⟩ : ∃ same, same = (kn && fd) := ⟨_, rfl⟩
  rw [← hsame] at HCH
  rw [← hsame]
  have HSM := Lib.hid hsame
  clear hsame
  go_upto_if 58 with fail
  go_cut [20] (fun x20 wx => ∃ r : Option Bk, x20 = .bool r.isSome ∧ choiceD M c ⟨k0, k1, k2, k3, k4⟩ = r ∧ In F0 w0 wx (Cells g19 (encBa (r.getD zBk)) 33 :: Cells g17 (encF ⟨⟨f0, f1, f2, f3, f4⟩, f5, f6, f7⟩) 49 :: Cells (g2 + 1) (hC a0 a1 a2 a3 a4 a5 a6 a7 a8 a9 a10) 84 :: Cells g2 #[.int .u32 k0, .int .u32 k1, .int .i64 k2, .int .i64 k3, .int .i64 k4] 24 :: Cells (g + 1) (outC 0 0 0 (.slice none 0 0)) 40 :: Cells g (cfC self sl fl idle0 mtu sg qu ve) 46 :: RFA bt most idle (sortF M) :: RChL cb c (.slice pa c.l.length pc) vt R))
  case first =>
    cases same with
    | true =>
      have hfd : kn = true ∧ fd = true := by have := HSM.out; simpa using this.symm
      have HE : Hid (∃ r : Option Bk, (Value.bool fd) = .bool r.isSome ∧ choiceD M c ⟨k0, k1, k2, k3, k4⟩ = r ∧ In F0 w0 wc (Cells g19 (encBa (r.getD zBk)) 33 :: Cells g17 (encF ⟨⟨f0, f1, f2, f3, f4⟩, f5, f6, f7⟩) 49 :: Cells (g2 + 1) (hC a0 a1 a2 a3 a4 a5 a6 a7 a8 a9 a10) 84 :: Cells g2 #[.int .u32 k0, .int .u32 k1, .int .i64 k2, .int .i64 k3, .int .i64 k4] 24 :: Cells (g + 1) (outC 0 0 0 (.slice none 0 0)) 40 :: Cells g (cfC self sl fl idle0 mtu sg qu ve) 46 :: RFA bt most idle (sortF M) :: RChL cb c (.slice pa c.l.length pc) vt R)) := Lib.hid ⟨findBk c.l f5, by rw [HYB.out.2], by rw [HCH.out]; rfl, by rw [← HYB.out.1]; exact H19.out⟩
      clear hfd H19 HCH
      go_wp2_with fail
      go_meet
      exact HE.out
    | false =>
      have h9 := H19.out.sel2 (R1 := [_, _, _, _, _, _, _, _, _, _]) (R2 := R) [7, 8, 9, 0, 1, 2, 3, 4, 5, 6] (by decide) rfl
      have KP := Lib.hid (o_r10pick HWT.out HCF.out.1 HCF.out.2.1 HCF.out.2.2.1 HCF.out.2.2.2.1 (show In F0 w0 wc (RChL cb c (.slice pa c.l.length pc) vt (Cells g19 (encBa yb) 33 :: Cells g17 (encF ⟨⟨f0, f1, f2, f3, f4⟩, f5, f6, f7⟩) 49 :: Cells (g2 + 1) (hC a0 a1 a2 a3 a4 a5 a6 a7 a8 a9 a10) 84 :: Cells g2 #[.int .u32 k0, .int .u32 k1, .int .i64 k2, .int .i64 k3, .int .i64 k4] 24 :: Cells (g + 1) (outC 0 0 0 (.slice none 0 0)) 40 :: Cells g (cfC self sl fl idle0 mtu sg qu ve) 46 :: RFA bt most idle (sortF M) :: R)) from h9))
      have e0 : wc.cell? ⟨g2, 0, none⟩ = some (.int .u32 k0) := cell_of (H19.out.block 3 rfl) rfl
      have e1 : wc.cell? ⟨g2, 1, none⟩ = some (.int .u32 k1) := cell_of (H19.out.block 3 rfl) rfl
      have e2 : wc.cell? ⟨g2, 2, none⟩ = some (.int .i64 k2) := cell_of (H19.out.block 3 rfl) rfl
      have e3 : wc.cell? ⟨g2, 3, none⟩ = some (.int .i64 k3) := cell_of (H19.out.block 3 rfl) rfl
      have e4 : wc.cell? ⟨g2, 4, none⟩ = some (.int .i64 k4) := cell_of (H19.out.block 3 rfl) rfl
      have HCH2 : Hid (choiceD M c ⟨k0, k1, k2, k3, k4⟩ = pickCh c ⟨k0, k1, k2, k3, k4⟩) := Lib.hid (by rw [HCH.out]; rfl)
      clear h9 HCH H19
      go_wp2_with fail
      refine KP.out.mono ?_
      rintro e w4 ⟨rfl, ho⟩
      have h10 : In F0 w0 w4 (Cells g19 (encBa yb) 33 :: Cells g17 (encF ⟨⟨f0, f1, f2, f3, f4⟩, f5, f6, f7⟩) 49 :: Cells (g2 + 1) (hC a0 a1 a2 a3 a4 a5 a6 a7 a8 a9 a10) 84 :: Cells g2 #[.int .u32 k0, .int .u32 k1, .int .i64 k2, .int .i64 k3, .int .i64 k4] 24 :: Cells (g + 1) (outC 0 0 0 (.slice none 0 0)) 40 :: Cells g (cfC self sl fl idle0 mtu sg qu ve) 46 :: RFA bt most idle (sortF M) :: RChL cb c (.slice pa c.l.length pc) vt R) := ho.sel2 (R1 := [_, _, _, _, _, _, _, _, _, _]) (R2 := R) [3, 4, 5, 6, 7, 8, 9, 0, 1, 2] (by decide) rfl
      obtain ⟨r, hr⟩ : ∃ r, r = pickCh c ⟨k0, k1, k2, k3, k4⟩ := ⟨_, rfl⟩
      rw [← hr] at HCH2
      rw [← hr]
      have ht := there_of (h10.block 0 rfl)
      have HE : Hid (∃ r' : Option Bk, (Value.bool r.isSome) = .bool r'.isSome ∧ choiceD M c ⟨k0, k1, k2, k3, k4⟩ = r' ∧ In F0 w0 (w4.setCells g19 0 (encBa (r.getD zBk)).toList) (Cells g19 (encBa (r'.getD zBk)) 33 :: Cells g17 (encF ⟨⟨f0, f1, f2, f3, f4⟩, f5, f6, f7⟩) 49 :: Cells (g2 + 1) (hC a0 a1 a2 a3 a4 a5 a6 a7 a8 a9 a10) 84 :: Cells g2 #[.int .u32 k0, .int .u32 k1, .int .i64 k2, .int .i64 k3, .int .i64 k4] 24 :: Cells (g + 1) (outC 0 0 0 (.slice none 0 0)) 40 :: Cells g (cfC self sl fl idle0 mtu sg qu ve) 46 :: RFA bt most idle (sortF M) :: RChL cb c (.slice pa c.l.length pc) vt R)) := Lib.hid ⟨r, rfl, HCH2.out, h10.setFull 0 rfl (xs := (encBa (r.getD zBk)).toList) (b := g19) (C := encBa yb) (T := 33) rfl⟩
      clear ho h10 KP HCH2 hr e0 e1 e2 e3 e4
      generalize hz : r.getD zBk = z at *
      go_wp2_with (refine wpList_store_mid (op := ⟨none, Op.store 33 (.tmp 19) (.tmp 63), _, _, _, _⟩) (by rfl) 33 (.tmp 19) (.tmp 63) rfl g19 0 (encBa z) (by rfl) (by rfl) ht (by kernel_rfl) (encBa_all _ _ _) ?_)
      go_meet
      exact HE.out
  case rest =>
  obtain ⟨r, rfl, hch, ho⟩ := hcut
  have HR : Hid (choiceD M c ⟨k0, k1, k2, k3, k4⟩ = r) := Lib.hid hch
  have H19R := Lib.hid ho
  clear ho hch H19 HCH
  cases r with
  | none =>
    have HE : Hid (pktD self mtu most M c gen now b = (dropP 10, M)) := Lib.hid (by rw [HPK.out, if_neg (by rw [HFB.out.2]; decide), HR.out])
    have K1 := Lib.hid (KD.out _ _ 10 H19R.out)
    clear HPK HR KE KW H19R
    go_wp2_with fail
    refine K1.out.mono ?_
    rintro e w4 ⟨rfl, ho⟩
    have ht := there_of (ho.block 4 rfl)
    have G := Lib.hid (ho.setFull 4 rfl (xs := [.int .i64 1, .int .i64 10, .int .i64 0, .slice none 0 0]) (b := g + 1) (C := (outC 0 0 0 (.slice none 0 0))) (T := 40) rfl)
    clear K1 ho
    go_wp2_with (refine wpList_store_mid (op := ⟨none, Op.store 40 (.tmp 12) (.tmp 67), _, _, _, _⟩) (by rfl) 40 (.tmp 12) (.tmp 67) rfl (g + 1) 0 (outC 1 10 0 (.slice none 0 0)) (by rfl) (by rfl) ht (by kernel_rfl) (outC_all _ _ _ _ _ _) ?_)
    exact bodyPost_ret (results_cell_tmp_row Tryz.results23 _ _ (g + 1) 40 _ (0, 0) _ rfl (G.out.block 4 rfl) Tryz.underlying40 rfl (by kernel_rfl)) rfl ⟨_, _, by rw [HE.out]; rfl, by rw [HE.out]; exact (G.out.drop.drop.drop.drop.drop.drop.rownil 54 14).rownil 5 1⟩
  | some be =>
  obtain ⟨b0, b1, b2⟩ := be
  have hmem := choice_mem HR.out
  have hbd := HCF.out.2.2.2.2 _ hmem
  have K2 := Lib.hid (KW.out _ _ b1 hbd.1 hbd.2 ⟨fun W hW => HB.out.src W hW.drop.drop.drop.drop.drop.drop.drop.drop.drop.drop, HB.out.nil, HB.out.ad, HB.out.cap, HB.out.room⟩ H19R.out)
  have HPK2 : Hid (pktD self mtu most M c gen now b = if (wrapD b self b1 mtu).2 ≠ 0 then (dropP (wrapD b self b1 mtu).2, M)
        else (⟨2, 0, b0, (wrapD b self b1 mtu).1, (keepD most M ⟨⟨k0, k1, k2, k3, k4⟩, b0, gen, now⟩ (atF M ⟨k0, k1, k2, k3, k4⟩).isSome (wasD M ⟨k0, k1, k2, k3, k4⟩) (endsD ⟨k0, k1, k2, k3, k4⟩ b)).1⟩,
          (keepD most M ⟨⟨k0, k1, k2, k3, k4⟩, b0, gen, now⟩ (atF M ⟨k0, k1, k2, k3, k4⟩).isSome (wasD M ⟨k0, k1, k2, k3, k4⟩) (endsD ⟨k0, k1, k2, k3, k4⟩ b)).2)) := Lib.hid (by rw [HPK.out, if_neg (by rw [HFB.out.2]; decide), HR.out])
  have HKR := Lib.hid (keep_ref HR.out)
  have c0 : wc.cell? ⟨g, 0, none⟩ = some (.int .u32 self) := cell_of (H19R.out.block 5 rfl) rfl
  have c4 : wc.cell? ⟨g, 4, none⟩ = some (.int .i64 mtu) := cell_of (H19R.out.block 5 rfl) rfl
  have d1 : wc.cell? ⟨g19, 1, none⟩ = some (.int .u32 b1) := cell_of (H19R.out.block 0 rfl) rfl
  clear hmem hbd HPK KW H19R
  unfold WrapPost at K2
  generalize wrapD b self b1 mtu = wr at *
  obtain ⟨wp, we⟩ := wr
  simp only at K2 HPK2
  go_wp2_with fail
  refine K2.out.mono ?_
  rintro e w5 ⟨v, rfl, ho⟩
  obtain ⟨qa, qc, rfl⟩ := ByR.shape ho
  have H5 : Hid (In F0 w0 w5 (ByR (.slice qa wp.length qc) wp :: Cells g19 (encBa ⟨b0, b1, b2⟩) 33 :: Cells g17 (encF ⟨⟨f0, f1, f2, f3, f4⟩, f5, f6, f7⟩) 49 :: Cells (g2 + 1) (hC a0 a1 a2 a3 a4 a5 a6 a7 a8 a9 a10) 84 :: Cells g2 #[.int .u32 k0, .int .u32 k1, .int .i64 k2, .int .i64 k3, .int .i64 k4] 24 :: Cells (g + 1) (outC 0 0 0 (.slice none 0 0)) 40 :: Cells g (cfC self sl fl idle0 mtu sg qu ve) 46 :: RFA bt most idle (sortF M) :: RChL cb c (.slice pa c.l.length pc) vt R)) := Lib.hid ho
  clear ho K2 c0 c4 d1
  by_cases hwe : we = 0
  case neg =>
    have hwe' : (we != 0) = true := by rw [bne_iff_ne]; exact hwe
    have HE : Hid (pktD self mtu most M c gen now b = (dropP we, M)) := Lib.hid (by rw [HPK2.out, if_pos hwe])
    have K1 := Lib.hid (KD.out _ _ we H5.out)
    clear hwe HPK2 H5 KE
    go_wp2_with fail
    refine K1.out.mono ?_
    rintro e w6 ⟨rfl, ho⟩
    have ht := there_of (ho.block 5 rfl)
    have G := Lib.hid (ho.setFull 5 rfl (xs := [.int .i64 1, .int .i64 we, .int .i64 0, .slice none 0 0]) (b := g + 1) (C := (outC 0 0 0 (.slice none 0 0))) (T := 40) rfl)
    clear K1 ho
    go_wp2_with (refine wpList_store_mid (op := ⟨none, Op.store 40 (.tmp 12) (.tmp 82), _, _, _, _⟩) (by rfl) 40 (.tmp 12) (.tmp 82) rfl (g + 1) 0 (outC 1 we 0 (.slice none 0 0)) (by rfl) (by rfl) ht (by kernel_rfl) (outC_all _ _ _ _ _ _) ?_)
    exact bodyPost_ret (results_cell_tmp_row Tryz.results23 _ _ (g + 1) 40 _ (0, 0) _ rfl (G.out.block 5 rfl) Tryz.underlying40 rfl (by kernel_rfl)) rfl ⟨_, _, by rw [HE.out]; rfl, by rw [HE.out]; exact (G.out.drop.drop.drop.drop.drop.drop.drop.rownil 54 14).rownil 5 1⟩
  have hwe' : (we != 0) = false := by rw [hwe]; rfl
  have HPK3 : Hid (pktD self mtu most M c gen now b = (⟨2, 0, b0, wp, (keepD most M ⟨⟨k0, k1, k2, k3, k4⟩, b0, gen, now⟩ kn (wasD M ⟨k0, k1, k2, k3, k4⟩) (endsD ⟨k0, k1, k2, k3, k4⟩ b)).1⟩,
          (keepD most M ⟨⟨k0, k1, k2, k3, k4⟩, b0, gen, now⟩ kn (wasD M ⟨k0, k1, k2, k3, k4⟩) (endsD ⟨k0, k1, k2, k3, k4⟩ b)).2)) := Lib.hid (by rw [HPK2.out, if_neg (by rw [hwe]; decide), HKN.out])
  have h6 := (H5.out.cells (outC 2 0 b0 (.slice qa wp.length qc)) 40).cells (encF ⟨⟨k0, k1, k2, k3, k4⟩, b0, gen, now⟩) 49
  rw [World.size_alloc] at h6
  have H6 := Lib.hid h6
  have d0 : w5.cell? ⟨g19, 0, none⟩ = some (.int .i64 b0) := cell_of (H5.out.block 1 rfl) rfl
  have h5b := H5.out.cells (outC 2 0 b0 (.slice qa wp.length qc)) 40
  have d0' : (w5.alloc (.cells (outC 2 0 b0 (.slice qa wp.length qc)) 40)).cell? ⟨g19, 0, none⟩ = some (.int .i64 b0) := cell_of (h5b.block 2 rfl) rfl
  have e0 : (w5.alloc (.cells (outC 2 0 b0 (.slice qa wp.length qc)) 40)).cell? ⟨g2, 0, none⟩ = some (.int .u32 k0) := cell_of (h5b.block 5 rfl) rfl
  have e1 : (w5.alloc (.cells (outC 2 0 b0 (.slice qa wp.length qc)) 40)).cell? ⟨g2, 1, none⟩ = some (.int .u32 k1) := cell_of (h5b.block 5 rfl) rfl
  have e2 : (w5.alloc (.cells (outC 2 0 b0 (.slice qa wp.length qc)) 40)).cell? ⟨g2, 2, none⟩ = some (.int .i64 k2) := cell_of (h5b.block 5 rfl) rfl
  have e3 : (w5.alloc (.cells (outC 2 0 b0 (.slice qa wp.length qc)) 40)).cell? ⟨g2, 3, none⟩ = some (.int .i64 k3) := cell_of (h5b.block 5 rfl) rfl
  have e4 : (w5.alloc (.cells (outC 2 0 b0 (.slice qa wp.length qc)) 40)).cell? ⟨g2, 4, none⟩ = some (.int .i64 k4) := cell_of (h5b.block 5 rfl) rfl
  clear hwe HPK2 h6 h5b
  go_upto_region 16 with fail
  generalize w5.heap.size = g23 at *
  generalize ((w5.alloc (.cells (outC 2 0 b0 (.slice qa wp.length qc)) 40)).alloc (.cells (encF ⟨⟨k0, k1, k2, k3, k4⟩, b0, gen, now⟩) 49)) = w6 at *
  have H7 : Hid (In F0 w0 w6 (Cells (g23 + 1) (encF ⟨⟨k0, k1, k2, k3, k4⟩, b0, gen, now⟩) 49 :: Cells g23 (outC 2 0 b0 (.slice qa wp.length qc)) 40 :: ByR (.slice qa wp.length qc) wp :: Cells g19 (encBa ⟨b0, b1, b2⟩) 33 :: Cells g17 (encF ⟨⟨f0, f1, f2, f3, f4⟩, f5, f6, f7⟩) 49 :: Cells (g2 + 1) (hC a0 a1 a2 a3 a4 a5 a6 a7 a8 a9 a10) 84 :: Cells g2 #[.int .u32 k0, .int .u32 k1, .int .i64 k2, .int .i64 k3, .int .i64 k4] 24 :: Cells (g + 1) (outC 0 0 0 (.slice none 0 0)) 40 :: Cells g (cfC self sl fl idle0 mtu sg qu ve) 46 :: RFA bt most idle (sortF M) :: RChL cb c (.slice pa c.l.length pc) vt R)) := Lib.hid H6.out
  clear H6 H5 d0 d0' e0 e1 e2 e3 e4 hwe'
  have K3 := Lib.hid (KE.out _ _ ⟨k0, k1, k2, k3, k4⟩ ⟨fun W hW => HB.out.src W hW.drop.drop.drop.drop.drop.drop.drop.drop.drop.drop.drop.drop.drop, HB.out.nil, HB.out.ad, HB.out.cap, HB.out.room⟩ H7.out)
  have e0 : w6.cell? ⟨g2, 0, none⟩ = some (.int .u32 k0) := cell_of (H7.out.block 6 rfl) rfl
  have e1 : w6.cell? ⟨g2, 1, none⟩ = some (.int .u32 k1) := cell_of (H7.out.block 6 rfl) rfl
  have e2 : w6.cell? ⟨g2, 2, none⟩ = some (.int .i64 k2) := cell_of (H7.out.block 6 rfl) rfl
  have e3 : w6.cell? ⟨g2, 3, none⟩ = some (.int .i64 k3) := cell_of (H7.out.block 6 rfl) rfl
  have e4 : w6.cell? ⟨g2, 4, none⟩ = some (.int .i64 k4) := cell_of (H7.out.block 6 rfl) rfl
  clear H7
  generalize hen : endsD ⟨k0, k1, k2, k3, k4⟩ b = en at *
  clear hen
  go_wp2_with fail
  refine K3.out.mono ?_
  rintro e w7 ⟨rfl, ho⟩
  have H8 : Hid (In F0 w0 w7 (Cells (g23 + 1) (encF ⟨⟨k0, k1, k2, k3, k4⟩, b0, gen, now⟩) 49 :: Cells g23 (outC 2 0 b0 (.slice qa wp.length qc)) 40 :: ByR (.slice qa wp.length qc) wp :: Cells g19 (encBa ⟨b0, b1, b2⟩) 33 :: Cells g17 (encF ⟨⟨f0, f1, f2, f3, f4⟩, f5, f6, f7⟩) 49 :: Cells (g2 + 1) (hC a0 a1 a2 a3 a4 a5 a6 a7 a8 a9 a10) 84 :: Cells g2 #[.int .u32 k0, .int .u32 k1, .int .i64 k2, .int .i64 k3, .int .i64 k4] 24 :: Cells (g + 1) (outC 0 0 0 (.slice none 0 0)) 40 :: Cells g (cfC self sl fl idle0 mtu sg qu ve) 46 :: RFA bt most idle (sortF M) :: RChL cb c (.slice pa c.l.length pc) vt R)) := Lib.hid ho
  clear ho K3 e0 e1 e2 e3 e4
  cases en with
  | true =>
    have K4 := Lib.hid (o_rfdropM H8.out 9 rfl HOK.out ⟨k0, k1, k2, k3, k4⟩)
    have e0 : w7.cell? ⟨g2, 0, none⟩ = some (.int .u32 k0) := cell_of (H8.out.block 6 rfl) rfl
    have e1 : w7.cell? ⟨g2, 1, none⟩ = some (.int .u32 k1) := cell_of (H8.out.block 6 rfl) rfl
    have e2 : w7.cell? ⟨g2, 2, none⟩ = some (.int .i64 k2) := cell_of (H8.out.block 6 rfl) rfl
    have e3 : w7.cell? ⟨g2, 3, none⟩ = some (.int .i64 k3) := cell_of (H8.out.block 6 rfl) rfl
    have e4 : w7.cell? ⟨g2, 4, none⟩ = some (.int .i64 k4) := cell_of (H8.out.block 6 rfl) rfl
    rw [← HKN.out] at K4
    clear H8
    go_wp2_with fail
    refine K4.out.mono ?_
    rintro e w8 ⟨rfl, ho⟩
    clear K4 e0 e1 e2 e3 e4
    cases kn with
    | true =>
      have H9 : Hid (In F0 w0 w8 (Cells (g23 + 1) (encF ⟨⟨k0, k1, k2, k3, k4⟩, b0, gen, now⟩) 49 :: Cells g23 (outC 2 0 b0 (.slice qa wp.length qc)) 40 :: ByR (.slice qa wp.length qc) wp :: Cells g19 (encBa ⟨b0, b1, b2⟩) 33 :: Cells g17 (encF ⟨⟨f0, f1, f2, f3, f4⟩, f5, f6, f7⟩) 49 :: Cells (g2 + 1) (hC a0 a1 a2 a3 a4 a5 a6 a7 a8 a9 a10) 84 :: Cells g2 #[.int .u32 k0, .int .u32 k1, .int .i64 k2, .int .i64 k3, .int .i64 k4] 24 :: Cells (g + 1) (outC 0 0 0 (.slice none 0 0)) 40 :: Cells g (cfC self sl fl idle0 mtu sg qu ve) 46 :: RFA bt most idle (sortF (delF ⟨k0, k1, k2, k3, k4⟩ M)) :: RChL cb c (.slice pa c.l.length pc) vt R)) := Lib.hid ho
      have HK : Hid (pktD self mtu most M c gen now b = (⟨2, 0, b0, wp, [delRec ⟨k0, k1, k2, k3, k4⟩]⟩, delF ⟨k0, k1, k2, k3, k4⟩ M)) := Lib.hid (by rw [HPK3.out]; rfl)
      clear ho HPK3 HKR HSM HKN
      go_upto_region 18 with fail
      have hd := H9.out.drewN 1
      have HDz : Hid (In F0 w0 w8.drew (Cells (g23 + 1) (encF ⟨⟨k0, k1, k2, k3, k4⟩, b0, gen, now⟩) 49 :: Cells g23 (outC 2 0 b0 (.slice qa wp.length qc)) 40 :: ByR (.slice qa wp.length qc) wp :: Cells g19 (encBa ⟨b0, b1, b2⟩) 33 :: Cells g17 (encF ⟨⟨f0, f1, f2, f3, f4⟩, f5, f6, f7⟩) 49 :: Cells (g2 + 1) (hC a0 a1 a2 a3 a4 a5 a6 a7 a8 a9 a10) 84 :: Cells g2 #[.int .u32 k0, .int .u32 k1, .int .i64 k2, .int .i64 k3, .int .i64 k4] 24 :: Cells (g + 1) (outC 0 0 0 (.slice none 0 0)) 40 :: Cells g (cfC self sl fl idle0 mtu sg qu ve) 46 :: RFA bt most idle (sortF (delF ⟨k0, k1, k2, k3, k4⟩ M)) :: RChL cb c (.slice pa c.l.length pc) vt R)) := Lib.hid hd
      clear hd H9 KE KD
      refine e_start (fun w' => w'.cell? ⟨g23, 0, none⟩ = some (.int .i64 2) ∧ w'.cell? ⟨g23, 1, none⟩ = some (.int .i64 0) ∧ w'.cell? ⟨g23, 2, none⟩ = some (.int .i64 b0) ∧ w'.cell? ⟨g23, 3, none⟩ = some ((.slice qa wp.length qc)) ∧ w'.cell? ⟨g2, 0, none⟩ = some (.int .u32 k0) ∧ w'.cell? ⟨g2, 1, none⟩ = some (.int .u32 k1) ∧ w'.cell? ⟨g2, 2, none⟩ = some (.int .i64 k2) ∧ w'.cell? ⟨g2, 3, none⟩ = some (.int .i64 k3) ∧ w'.cell? ⟨g2, 4, none⟩ = some (.int .i64 k4)) (by kernel_rfl) ⟨cell_of (HDz.out.block 1 rfl) rfl, cell_of (HDz.out.block 1 rfl) rfl, cell_of (HDz.out.block 1 rfl) rfl, cell_of (HDz.out.block 1 rfl) rfl, cell_of (HDz.out.block 6 rfl) rfl, cell_of (HDz.out.block 6 rfl) rfl, cell_of (HDz.out.block 6 rfl) rfl, cell_of (HDz.out.block 6 rfl) rfl, cell_of (HDz.out.block 6 rfl) rfl⟩ (fun hS => ?_)
      generalize w8.drew = VZ at *
      refine e_take (i := 0) (v := ?_) rfl (by kernel_rfl) (fun _ _ _ h => h) (by rfl) ?_ hS ?_
      rotate_left
      · (intro w hSw; (try dsimp only at hSw); go_simp; try with_reducible rfl)
      try simp only [Act.put, List.setIfInBounds_toArray, List.set_cons_zero, List.set_cons_succ]
      refine e_take (i := 1) (v := ?_) rfl (by kernel_rfl) (fun _ _ _ h => h) (by rfl) ?_ hS ?_
      rotate_left
      · (intro w hSw; (try dsimp only at hSw); go_simp; try with_reducible rfl)
      try simp only [Act.put, List.setIfInBounds_toArray, List.set_cons_zero, List.set_cons_succ]
      refine e_take (i := 2) (v := ?_) rfl (by kernel_rfl) (fun _ _ _ h => h) (by rfl) ?_ hS ?_
      rotate_left
      · (intro w hSw; (try dsimp only at hSw); go_simp; try with_reducible rfl)
      try simp only [Act.put, List.setIfInBounds_toArray, List.set_cons_zero, List.set_cons_succ]
      refine e_take (i := 3) (v := ?_) rfl (by kernel_rfl) (fun _ _ _ h => h) (by rfl) ?_ hS ?_
      rotate_left
      · (intro w hSw; (try dsimp only at hSw); go_simp; try with_reducible rfl)
      try simp only [Act.put, List.setIfInBounds_toArray, List.set_cons_zero, List.set_cons_succ]
      refine e_two (i := 4) (j := 5) rfl rfl (by kernel_rfl) (fun K' hK => ?_) (fun K' hK => ?_)
      · go_simp
        have hA : In F0 w0 (VZ.alloc (.cells #[.int .i64 2, .int .u32 k0, .int .u32 k1, .int .i64 k2, .int .i64 k3, .int .i64 k4, .int .i64 0, .int .i64 0, .int .i64 0, .int .i64 0, .slice none 0 0, .int .i64 0, .int .i64 0, .int .i64 0] 54)) (RecR (.slice (some ⟨VZ.heap.size, 0, none⟩) 1 1) [(delRec ⟨k0, k1, k2, k3, k4⟩)] :: Cells (g23 + 1) (encF ⟨⟨k0, k1, k2, k3, k4⟩, b0, gen, now⟩) 49 :: Cells g23 (outC 2 0 b0 (.slice qa wp.length qc)) 40 :: ByR (.slice qa wp.length qc) wp :: Cells g19 (encBa ⟨b0, b1, b2⟩) 33 :: Cells g17 (encF ⟨⟨f0, f1, f2, f3, f4⟩, f5, f6, f7⟩) 49 :: Cells (g2 + 1) (hC a0 a1 a2 a3 a4 a5 a6 a7 a8 a9 a10) 84 :: Cells g2 #[.int .u32 k0, .int .u32 k1, .int .i64 k2, .int .i64 k3, .int .i64 k4] 24 :: Cells (g + 1) (outC 0 0 0 (.slice none 0 0)) 40 :: Cells g (cfC self sl fl idle0 mtu sg qu ve) 46 :: RFA bt most idle (sortF (delF ⟨k0, k1, k2, k3, k4⟩ M)) :: RChL cb c (.slice pa c.l.length pc) vt R) := rec_one HDz.out (delRec ⟨k0, k1, k2, k3, k4⟩)
        generalize VZ.heap.size = gR at *
        generalize (VZ.alloc (.cells #[.int .i64 2, .int .u32 k0, .int .u32 k1, .int .i64 k2, .int .i64 k3, .int .i64 k4, .int .i64 0, .int .i64 0, .int .i64 0, .int .i64 0, .slice none 0 0, .int .i64 0, .int .i64 0, .int .i64 0] 54)) = VY at *
        have HY := Lib.hid hA
        clear hA
        refine hK.out _ _ ⟨cell_of (HY.out.block 2 rfl) rfl, cell_of (HY.out.block 2 rfl) rfl, cell_of (HY.out.block 2 rfl) rfl, cell_of (HY.out.block 2 rfl) rfl, cell_of (HY.out.block 7 rfl) rfl, cell_of (HY.out.block 7 rfl) rfl, cell_of (HY.out.block 7 rfl) rfl, cell_of (HY.out.block 7 rfl) rfl, cell_of (HY.out.block 7 rfl) rfl⟩ (fun hS => ?_)
        clear hK K'
        try simp only [Act.put, List.setIfInBounds_toArray, List.set_cons_zero, List.set_cons_succ]
        refine e_pin (i := 5) rfl (by kernel_rfl) (fun K' hK => ?_)
        have hF := HY.out.setFull 8 rfl (xs := (outC 2 0 b0 (.slice qa wp.length qc)).toList) (b := g + 1) (C := (outC 0 0 0 (.slice none 0 0))) (T := 40) rfl
        refine store_step (by rfl) 40 (.tmp 12) (.tmp 100) (by rfl) (g + 1) 0 (outC 2 0 b0 (.slice qa wp.length qc)) (by rfl) (by rfl) (there_of (C := (outC 0 0 0 (.slice none 0 0))) (T := 40) (HY.out.block 8 rfl)) (by kernel_rfl) (outC_all _ _ _ _ _ _) ?_
        refine hK.out _ _ ⟨cell_of (hF.block 2 rfl) rfl, cell_of (hF.block 2 rfl) rfl, cell_of (hF.block 2 rfl) rfl, cell_of (hF.block 2 rfl) rfl, cell_of (hF.block 7 rfl) rfl, cell_of (hF.block 7 rfl) rfl, cell_of (hF.block 7 rfl) rfl, cell_of (hF.block 7 rfl) rfl, cell_of (hF.block 7 rfl) rfl⟩ (fun hS => ?_)
        clear hK K'
        try simp only [Act.put, List.setIfInBounds_toArray, List.set_cons_zero, List.set_cons_succ]
        refine e_last (i := 6) rfl (by kernel_rfl) (fun K' hK => ?_)
        go_simp
        refine hK.out _ _ ?_
        clear hK K' hS
        have G := Lib.hid hF
        go_wp2_with fail
        exact bodyPost_ret (results_cell_tmp_row Tryz.results23 _ _ (g + 1) 40 _ (0, 0) _ rfl (G.out.block 8 rfl) Tryz.underlying40 rfl (by kernel_rfl)) rfl ⟨_, _, by rw [HK.out] <;> rfl, by rw [HK.out]; exact G.out.sel2 (R1 := [_, _, _, _, _, _, _, _, _, _, _, _, _, _]) (R2 := R) [3, 0, 10, 11, 12, 13] (by decide) rfl⟩
      · have hF := HDz.out.setFull 7 rfl (xs := (outC 2 0 b0 (.slice qa wp.length qc)).toList) (b := g + 1) (C := (outC 0 0 0 (.slice none 0 0))) (T := 40) rfl
        refine store_step (by rfl) 40 (.tmp 12) (.tmp 100) (by rfl) (g + 1) 0 (outC 2 0 b0 (.slice qa wp.length qc)) (by rfl) (by rfl) (there_of (C := (outC 0 0 0 (.slice none 0 0))) (T := 40) (HDz.out.block 7 rfl)) (by kernel_rfl) (outC_all _ _ _ _ _ _) ?_
        refine hK.out _ _ ⟨cell_of (hF.block 1 rfl) rfl, cell_of (hF.block 1 rfl) rfl, cell_of (hF.block 1 rfl) rfl, cell_of (hF.block 1 rfl) rfl, cell_of (hF.block 6 rfl) rfl, cell_of (hF.block 6 rfl) rfl, cell_of (hF.block 6 rfl) rfl, cell_of (hF.block 6 rfl) rfl, cell_of (hF.block 6 rfl) rfl⟩ (fun hS => ?_)
        clear hK K'
        try simp only [Act.put, List.setIfInBounds_toArray, List.set_cons_zero, List.set_cons_succ]
        have HF2 : Hid (In F0 w0 (VZ.setCells (g + 1) 0 (outC 2 0 b0 (.slice qa wp.length qc)).toList) (Cells (g23 + 1) (encF ⟨⟨k0, k1, k2, k3, k4⟩, b0, gen, now⟩) 49 :: Cells g23 (outC 2 0 b0 (.slice qa wp.length qc)) 40 :: ByR (.slice qa wp.length qc) wp :: Cells g19 (encBa ⟨b0, b1, b2⟩) 33 :: Cells g17 (encF ⟨⟨f0, f1, f2, f3, f4⟩, f5, f6, f7⟩) 49 :: Cells (g2 + 1) (hC a0 a1 a2 a3 a4 a5 a6 a7 a8 a9 a10) 84 :: Cells g2 #[.int .u32 k0, .int .u32 k1, .int .i64 k2, .int .i64 k3, .int .i64 k4] 24 :: Cells (g + 1) (outC 2 0 b0 (.slice qa wp.length qc)).toList.toArray 40 :: Cells g (cfC self sl fl idle0 mtu sg qu ve) 46 :: RFA bt most idle (sortF (delF ⟨k0, k1, k2, k3, k4⟩ M)) :: RChL cb c (.slice pa c.l.length pc) vt R)) := Lib.hid hF
        clear hF
        generalize (VZ.setCells (g + 1) 0 (outC 2 0 b0 (.slice qa wp.length qc)).toList) = VX at *
        refine e_pin (i := 4) rfl (by kernel_rfl) (fun K' hK => ?_)
        go_simp
        have hA : In F0 w0 (VX.alloc (.cells #[.int .i64 2, .int .u32 k0, .int .u32 k1, .int .i64 k2, .int .i64 k3, .int .i64 k4, .int .i64 0, .int .i64 0, .int .i64 0, .int .i64 0, .slice none 0 0, .int .i64 0, .int .i64 0, .int .i64 0] 54)) (RecR (.slice (some ⟨VX.heap.size, 0, none⟩) 1 1) [(delRec ⟨k0, k1, k2, k3, k4⟩)] :: Cells (g23 + 1) (encF ⟨⟨k0, k1, k2, k3, k4⟩, b0, gen, now⟩) 49 :: Cells g23 (outC 2 0 b0 (.slice qa wp.length qc)) 40 :: ByR (.slice qa wp.length qc) wp :: Cells g19 (encBa ⟨b0, b1, b2⟩) 33 :: Cells g17 (encF ⟨⟨f0, f1, f2, f3, f4⟩, f5, f6, f7⟩) 49 :: Cells (g2 + 1) (hC a0 a1 a2 a3 a4 a5 a6 a7 a8 a9 a10) 84 :: Cells g2 #[.int .u32 k0, .int .u32 k1, .int .i64 k2, .int .i64 k3, .int .i64 k4] 24 :: Cells (g + 1) (outC 2 0 b0 (.slice qa wp.length qc)).toList.toArray 40 :: Cells g (cfC self sl fl idle0 mtu sg qu ve) 46 :: RFA bt most idle (sortF (delF ⟨k0, k1, k2, k3, k4⟩ M)) :: RChL cb c (.slice pa c.l.length pc) vt R) := rec_one HF2.out (delRec ⟨k0, k1, k2, k3, k4⟩)
        generalize VX.heap.size = gR at *
        generalize (VX.alloc (.cells #[.int .i64 2, .int .u32 k0, .int .u32 k1, .int .i64 k2, .int .i64 k3, .int .i64 k4, .int .i64 0, .int .i64 0, .int .i64 0, .int .i64 0, .slice none 0 0, .int .i64 0, .int .i64 0, .int .i64 0] 54)) = VY at *
        have HY := Lib.hid hA
        clear hA
        refine hK.out _ _ ⟨cell_of (HY.out.block 2 rfl) rfl, cell_of (HY.out.block 2 rfl) rfl, cell_of (HY.out.block 2 rfl) rfl, cell_of (HY.out.block 2 rfl) rfl, cell_of (HY.out.block 7 rfl) rfl, cell_of (HY.out.block 7 rfl) rfl, cell_of (HY.out.block 7 rfl) rfl, cell_of (HY.out.block 7 rfl) rfl, cell_of (HY.out.block 7 rfl) rfl⟩ (fun hS => ?_)
        clear hK K'
        try simp only [Act.put, List.setIfInBounds_toArray, List.set_cons_zero, List.set_cons_succ]
        refine e_last (i := 6) rfl (by kernel_rfl) (fun K' hK => ?_)
        go_simp
        refine hK.out _ _ ?_
        clear hK K' hS
        have G := Lib.hid HY.out
        go_wp2_with fail
        exact bodyPost_ret (results_cell_tmp_row Tryz.results23 _ _ (g + 1) 40 _ (0, 0) _ rfl (G.out.block 8 rfl) Tryz.underlying40 rfl (by kernel_rfl)) rfl ⟨_, _, by rw [HK.out] <;> rfl, by rw [HK.out]; exact G.out.sel2 (R1 := [_, _, _, _, _, _, _, _, _, _, _, _, _, _]) (R2 := R) [3, 0, 10, 11, 12, 13] (by decide) rfl⟩
    | false =>
      have hdn : delF ⟨k0, k1, k2, k3, k4⟩ M = M := del_none (by have := HKN.out; cases hq : atF M ⟨k0, k1, k2, k3, k4⟩ with
        | none => rfl
        | some x => rw [hq] at this; cases this)
      have H9 : Hid (In F0 w0 w8 (Cells (g23 + 1) (encF ⟨⟨k0, k1, k2, k3, k4⟩, b0, gen, now⟩) 49 :: Cells g23 (outC 2 0 b0 (.slice qa wp.length qc)) 40 :: ByR (.slice qa wp.length qc) wp :: Cells g19 (encBa ⟨b0, b1, b2⟩) 33 :: Cells g17 (encF ⟨⟨f0, f1, f2, f3, f4⟩, f5, f6, f7⟩) 49 :: Cells (g2 + 1) (hC a0 a1 a2 a3 a4 a5 a6 a7 a8 a9 a10) 84 :: Cells g2 #[.int .u32 k0, .int .u32 k1, .int .i64 k2, .int .i64 k3, .int .i64 k4] 24 :: Cells (g + 1) (outC 0 0 0 (.slice none 0 0)) 40 :: Cells g (cfC self sl fl idle0 mtu sg qu ve) 46 :: RFA bt most idle (sortF M) :: RChL cb c (.slice pa c.l.length pc) vt R)) := Lib.hid (by rw [hdn] at ho; exact ho)
      have HK : Hid (pktD self mtu most M c gen now b = (⟨2, 0, b0, wp, []⟩, M)) := Lib.hid (by rw [HPK3.out]; rfl)
      clear ho HPK3 HKR HSM HKN hdn
      have o0 : w8.cell? ⟨g23, 0, none⟩ = some (.int .i64 2) := cell_of (H9.out.block 1 rfl) rfl
      have o1 : w8.cell? ⟨g23, 1, none⟩ = some (.int .i64 0) := cell_of (H9.out.block 1 rfl) rfl
      have o2 : w8.cell? ⟨g23, 2, none⟩ = some (.int .i64 b0) := cell_of (H9.out.block 1 rfl) rfl
      have o3 : w8.cell? ⟨g23, 3, none⟩ = some ((.slice qa wp.length qc)) := cell_of (H9.out.block 1 rfl) rfl
      have ht := there_of (H9.out.block 7 rfl)
      have G := Lib.hid (H9.out.setFull 7 rfl (xs := (outC 2 0 b0 (.slice qa wp.length qc)).toList) (b := g + 1) (C := (outC 0 0 0 (.slice none 0 0))) (T := 40) rfl)
      clear H9 KE KD
      go_wp2_with (refine wpList_store_mid (op := ⟨none, Op.store 40 (.tmp 12) (.tmp 105), _, _, _, _⟩) (by rfl) 40 (.tmp 12) (.tmp 105) rfl (g + 1) 0 (outC 2 0 b0 (.slice qa wp.length qc)) (by rfl) (by rfl) ht (by kernel_rfl) (outC_all _ _ _ _ _ _) ?_)
      exact bodyPost_ret (results_cell_tmp_row Tryz.results23 _ _ (g + 1) 40 _ (0, 0) _ rfl (G.out.block 7 rfl) Tryz.underlying40 rfl (by kernel_rfl)) rfl ⟨_, _, by rw [HK.out] <;> rfl, by rw [HK.out]; exact ((G.out.sel2 (R1 := [_, _, _, _, _, _, _, _, _, _, _, _, _]) (R2 := R) [2, 9, 10, 11, 12] (by decide) rfl).rownil 54 14).sel2 (R1 := [_, _, _, _, _, _]) (R2 := R) [1, 0, 2, 3, 4, 5] (by decide) rfl⟩
  | false =>
    have hkd : keepD most M ⟨⟨k0, k1, k2, k3, k4⟩, b0, gen, now⟩ kn (wasD M ⟨k0, k1, k2, k3, k4⟩) false = if same = true then ([], (touchF M ⟨k0, k1, k2, k3, k4⟩ now).1) else (if (putF most M ⟨⟨k0, k1, k2, k3, k4⟩, b0, gen, now⟩).2.2 = 0 then ([putRec ⟨⟨k0, k1, k2, k3, k4⟩, b0, gen, now⟩], (putF most M ⟨⟨k0, k1, k2, k3, k4⟩, b0, gen, now⟩).1) else ([], (putF most M ⟨⟨k0, k1, k2, k3, k4⟩, b0, gen, now⟩).1)) := by
      have hs : same = decide (kn = true ∧ wasD M ⟨k0, k1, k2, k3, k4⟩ = b0) := by
        rw [HSM.out, HYB.out.2, HKN.out, ← HKR.out, ← HFB.out.1]
      unfold keepD
      rw [if_neg (by simp)]
      by_cases hq : kn = true ∧ wasD M ⟨k0, k1, k2, k3, k4⟩ = b0
      · have hst : same = true := by rw [hs]; exact decide_eq_true hq
        rw [if_pos hq, hst] <;> rfl
      · have hsf : same = false := by rw [hs]; exact decide_eq_false hq
        rw [if_neg hq, hsf] <;> rfl
    have HK0 : Hid (pktD self mtu most M c gen now b = (⟨2, 0, b0, wp, (if same = true then (([] : List Rec), (touchF M ⟨k0, k1, k2, k3, k4⟩ now).1) else (if (putF most M ⟨⟨k0, k1, k2, k3, k4⟩, b0, gen, now⟩).2.2 = 0 then ([putRec ⟨⟨k0, k1, k2, k3, k4⟩, b0, gen, now⟩], (putF most M ⟨⟨k0, k1, k2, k3, k4⟩, b0, gen, now⟩).1) else ([], (putF most M ⟨⟨k0, k1, k2, k3, k4⟩, b0, gen, now⟩).1))).1⟩, (if same = true then (([] : List Rec), (touchF M ⟨k0, k1, k2, k3, k4⟩ now).1) else (if (putF most M ⟨⟨k0, k1, k2, k3, k4⟩, b0, gen, now⟩).2.2 = 0 then ([putRec ⟨⟨k0, k1, k2, k3, k4⟩, b0, gen, now⟩], (putF most M ⟨⟨k0, k1, k2, k3, k4⟩, b0, gen, now⟩).1) else ([], (putF most M ⟨⟨k0, k1, k2, k3, k4⟩, b0, gen, now⟩).1))).2)) := Lib.hid (by rw [HPK3.out, hkd])
    clear hkd HPK3 HKR HSM HKN
    cases same with
    | true =>
      have K4 := Lib.hid (o_rftouchM H8.out 9 rfl HOK.out ⟨k0, k1, k2, k3, k4⟩ now)
      have e0 : w7.cell? ⟨g2, 0, none⟩ = some (.int .u32 k0) := cell_of (H8.out.block 6 rfl) rfl
      have e1 : w7.cell? ⟨g2, 1, none⟩ = some (.int .u32 k1) := cell_of (H8.out.block 6 rfl) rfl
      have e2 : w7.cell? ⟨g2, 2, none⟩ = some (.int .i64 k2) := cell_of (H8.out.block 6 rfl) rfl
      have e3 : w7.cell? ⟨g2, 3, none⟩ = some (.int .i64 k3) := cell_of (H8.out.block 6 rfl) rfl
      have e4 : w7.cell? ⟨g2, 4, none⟩ = some (.int .i64 k4) := cell_of (H8.out.block 6 rfl) rfl
      have HK : Hid (pktD self mtu most M c gen now b = (⟨2, 0, b0, wp, []⟩, (touchF M ⟨k0, k1, k2, k3, k4⟩ now).1)) := Lib.hid (by rw [HK0.out]; rfl)
      clear H8 HK0
      go_wp2_with fail
      refine K4.out.mono ?_
      rintro e w8 ⟨rfl, ho⟩
      have H9 : Hid (In F0 w0 w8 (Cells (g23 + 1) (encF ⟨⟨k0, k1, k2, k3, k4⟩, b0, gen, now⟩) 49 :: Cells g23 (outC 2 0 b0 (.slice qa wp.length qc)) 40 :: ByR (.slice qa wp.length qc) wp :: Cells g19 (encBa ⟨b0, b1, b2⟩) 33 :: Cells g17 (encF ⟨⟨f0, f1, f2, f3, f4⟩, f5, f6, f7⟩) 49 :: Cells (g2 + 1) (hC a0 a1 a2 a3 a4 a5 a6 a7 a8 a9 a10) 84 :: Cells g2 #[.int .u32 k0, .int .u32 k1, .int .i64 k2, .int .i64 k3, .int .i64 k4] 24 :: Cells (g + 1) (outC 0 0 0 (.slice none 0 0)) 40 :: Cells g (cfC self sl fl idle0 mtu sg qu ve) 46 :: RFA bt most idle (sortF (touchF M ⟨k0, k1, k2, k3, k4⟩ now).1) :: RChL cb c (.slice pa c.l.length pc) vt R)) := Lib.hid ho
      clear ho K4 e0 e1 e2 e3 e4
      have o0 : w8.cell? ⟨g23, 0, none⟩ = some (.int .i64 2) := cell_of (H9.out.block 1 rfl) rfl
      have o1 : w8.cell? ⟨g23, 1, none⟩ = some (.int .i64 0) := cell_of (H9.out.block 1 rfl) rfl
      have o2 : w8.cell? ⟨g23, 2, none⟩ = some (.int .i64 b0) := cell_of (H9.out.block 1 rfl) rfl
      have o3 : w8.cell? ⟨g23, 3, none⟩ = some ((.slice qa wp.length qc)) := cell_of (H9.out.block 1 rfl) rfl
      have ht := there_of (H9.out.block 7 rfl)
      have G := Lib.hid (H9.out.setFull 7 rfl (xs := (outC 2 0 b0 (.slice qa wp.length qc)).toList) (b := g + 1) (C := (outC 0 0 0 (.slice none 0 0))) (T := 40) rfl)
      clear H9 KE KD
      go_wp2_with (refine wpList_store_mid (op := ⟨none, Op.store 40 (.tmp 12) (.tmp 112), _, _, _, _⟩) (by rfl) 40 (.tmp 12) (.tmp 112) rfl (g + 1) 0 (outC 2 0 b0 (.slice qa wp.length qc)) (by rfl) (by rfl) ht (by kernel_rfl) (outC_all _ _ _ _ _ _) ?_)
      exact bodyPost_ret (results_cell_tmp_row Tryz.results23 _ _ (g + 1) 40 _ (0, 0) _ rfl (G.out.block 7 rfl) Tryz.underlying40 rfl (by kernel_rfl)) rfl ⟨_, _, by rw [HK.out] <;> rfl, by rw [HK.out]; exact ((G.out.sel2 (R1 := [_, _, _, _, _, _, _, _, _, _, _, _, _]) (R2 := R) [2, 9, 10, 11, 12] (by decide) rfl).rownil 54 14).sel2 (R1 := [_, _, _, _, _, _]) (R2 := R) [1, 0, 2, 3, 4, 5] (by decide) rfl⟩
    | false =>
      have K4 := Lib.hid (o_rfputM H8.out 9 rfl HOK.out (f := ⟨⟨k0, k1, k2, k3, k4⟩, b0, gen, now⟩) HWT.out)
      have p0 : w7.cell? ⟨g23 + 1, 0, none⟩ = some (.int .u32 k0) := cell_of (H8.out.block 0 rfl) rfl
      have p1 : w7.cell? ⟨g23 + 1, 1, none⟩ = some (.int .u32 k1) := cell_of (H8.out.block 0 rfl) rfl
      have p2 : w7.cell? ⟨g23 + 1, 2, none⟩ = some (.int .i64 k2) := cell_of (H8.out.block 0 rfl) rfl
      have p3 : w7.cell? ⟨g23 + 1, 3, none⟩ = some (.int .i64 k3) := cell_of (H8.out.block 0 rfl) rfl
      have p4 : w7.cell? ⟨g23 + 1, 4, none⟩ = some (.int .i64 k4) := cell_of (H8.out.block 0 rfl) rfl
      have p5 : w7.cell? ⟨g23 + 1, 5, none⟩ = some (.int .i64 b0) := cell_of (H8.out.block 0 rfl) rfl
      have p6 : w7.cell? ⟨g23 + 1, 6, none⟩ = some (.int .i64 gen) := cell_of (H8.out.block 0 rfl) rfl
      have p7 : w7.cell? ⟨g23 + 1, 7, none⟩ = some (.int .i64 now) := cell_of (H8.out.block 0 rfl) rfl
      generalize putF most M ⟨⟨k0, k1, k2, k3, k4⟩, b0, gen, now⟩ = pr at *
      obtain ⟨M2, pok, pe⟩ := pr
      simp only at K4 HK0
      clear H8
      go_wp2_with fail
      refine K4.out.mono ?_
      rintro e w8 ⟨rfl, ho⟩
      have H9 : Hid (In F0 w0 w8 (Cells (g23 + 1) (encF ⟨⟨k0, k1, k2, k3, k4⟩, b0, gen, now⟩) 49 :: Cells g23 (outC 2 0 b0 (.slice qa wp.length qc)) 40 :: ByR (.slice qa wp.length qc) wp :: Cells g19 (encBa ⟨b0, b1, b2⟩) 33 :: Cells g17 (encF ⟨⟨f0, f1, f2, f3, f4⟩, f5, f6, f7⟩) 49 :: Cells (g2 + 1) (hC a0 a1 a2 a3 a4 a5 a6 a7 a8 a9 a10) 84 :: Cells g2 #[.int .u32 k0, .int .u32 k1, .int .i64 k2, .int .i64 k3, .int .i64 k4] 24 :: Cells (g + 1) (outC 0 0 0 (.slice none 0 0)) 40 :: Cells g (cfC self sl fl idle0 mtu sg qu ve) 46 :: RFA bt most idle (sortF M2) :: RChL cb c (.slice pa c.l.length pc) vt R)) := Lib.hid ho
      clear ho K4 p0 p1 p2 p3 p4 p5 p6 p7
      by_cases hpe : pe = 0
      · have hpe' : (pe != 0) = false := by rw [hpe]; rfl
        have HK : Hid (pktD self mtu most M c gen now b = (⟨2, 0, b0, wp, [putRec ⟨⟨k0, k1, k2, k3, k4⟩, b0, gen, now⟩]⟩, M2)) := Lib.hid (by rw [HK0.out]; simp only [Bool.false_eq_true, if_false, if_pos hpe])
        clear hpe HK0
        go_upto_region 26 with fail
        have hd := H9.out.drewN 1
        have HDz : Hid (In F0 w0 w8.drew (Cells (g23 + 1) (encF ⟨⟨k0, k1, k2, k3, k4⟩, b0, gen, now⟩) 49 :: Cells g23 (outC 2 0 b0 (.slice qa wp.length qc)) 40 :: ByR (.slice qa wp.length qc) wp :: Cells g19 (encBa ⟨b0, b1, b2⟩) 33 :: Cells g17 (encF ⟨⟨f0, f1, f2, f3, f4⟩, f5, f6, f7⟩) 49 :: Cells (g2 + 1) (hC a0 a1 a2 a3 a4 a5 a6 a7 a8 a9 a10) 84 :: Cells g2 #[.int .u32 k0, .int .u32 k1, .int .i64 k2, .int .i64 k3, .int .i64 k4] 24 :: Cells (g + 1) (outC 0 0 0 (.slice none 0 0)) 40 :: Cells g (cfC self sl fl idle0 mtu sg qu ve) 46 :: RFA bt most idle (sortF M2) :: RChL cb c (.slice pa c.l.length pc) vt R)) := Lib.hid hd
        clear hd H9 KE KD
        refine e_start (fun w' => w'.cell? ⟨g23, 0, none⟩ = some (.int .i64 2) ∧ w'.cell? ⟨g23, 1, none⟩ = some (.int .i64 0) ∧ w'.cell? ⟨g23, 2, none⟩ = some (.int .i64 b0) ∧ w'.cell? ⟨g23, 3, none⟩ = some ((.slice qa wp.length qc)) ∧ w'.cell? ⟨g23 + 1, 0, none⟩ = some (.int .u32 k0) ∧ w'.cell? ⟨g23 + 1, 1, none⟩ = some (.int .u32 k1) ∧ w'.cell? ⟨g23 + 1, 2, none⟩ = some (.int .i64 k2) ∧ w'.cell? ⟨g23 + 1, 3, none⟩ = some (.int .i64 k3) ∧ w'.cell? ⟨g23 + 1, 4, none⟩ = some (.int .i64 k4) ∧ w'.cell? ⟨g23 + 1, 5, none⟩ = some (.int .i64 b0) ∧ w'.cell? ⟨g23 + 1, 6, none⟩ = some (.int .i64 gen) ∧ w'.cell? ⟨g23 + 1, 7, none⟩ = some (.int .i64 now)) (by kernel_rfl) ⟨cell_of (HDz.out.block 1 rfl) rfl, cell_of (HDz.out.block 1 rfl) rfl, cell_of (HDz.out.block 1 rfl) rfl, cell_of (HDz.out.block 1 rfl) rfl, cell_of (HDz.out.block 0 rfl) rfl, cell_of (HDz.out.block 0 rfl) rfl, cell_of (HDz.out.block 0 rfl) rfl, cell_of (HDz.out.block 0 rfl) rfl, cell_of (HDz.out.block 0 rfl) rfl, cell_of (HDz.out.block 0 rfl) rfl, cell_of (HDz.out.block 0 rfl) rfl, cell_of (HDz.out.block 0 rfl) rfl⟩ (fun hS => ?_)
        generalize w8.drew = VZ at *
        refine e_take (i := 0) (v := ?_) rfl (by kernel_rfl) (fun _ _ _ h => h) (by rfl) ?_ hS ?_
        rotate_left
        · (intro w hSw; (try dsimp only at hSw); go_simp; try with_reducible rfl)
        try simp only [Act.put, List.setIfInBounds_toArray, List.set_cons_zero, List.set_cons_succ]
        refine e_take (i := 1) (v := ?_) rfl (by kernel_rfl) (fun _ _ _ h => h) (by rfl) ?_ hS ?_
        rotate_left
        · (intro w hSw; (try dsimp only at hSw); go_simp; try with_reducible rfl)
        try simp only [Act.put, List.setIfInBounds_toArray, List.set_cons_zero, List.set_cons_succ]
        refine e_take (i := 2) (v := ?_) rfl (by kernel_rfl) (fun _ _ _ h => h) (by rfl) ?_ hS ?_
        rotate_left
        · (intro w hSw; (try dsimp only at hSw); go_simp; try with_reducible rfl)
        try simp only [Act.put, List.setIfInBounds_toArray, List.set_cons_zero, List.set_cons_succ]
        refine e_two (i := 3) (j := 4) rfl rfl (by kernel_rfl) (fun K' hK => ?_) (fun K' hK => ?_)
        · go_simp
          have hA : In F0 w0 (VZ.alloc (.cells #[.int .i64 1, .int .u32 k0, .int .u32 k1, .int .i64 k2, .int .i64 k3, .int .i64 k4, .int .i64 b0, .int .i64 gen, .int .i64 now, .int .i64 0, .slice none 0 0, .int .i64 0, .int .i64 0, .int .i64 0] 54)) (RecR (.slice (some ⟨VZ.heap.size, 0, none⟩) 1 1) [(putRec ⟨⟨k0, k1, k2, k3, k4⟩, b0, gen, now⟩)] :: Cells (g23 + 1) (encF ⟨⟨k0, k1, k2, k3, k4⟩, b0, gen, now⟩) 49 :: Cells g23 (outC 2 0 b0 (.slice qa wp.length qc)) 40 :: ByR (.slice qa wp.length qc) wp :: Cells g19 (encBa ⟨b0, b1, b2⟩) 33 :: Cells g17 (encF ⟨⟨f0, f1, f2, f3, f4⟩, f5, f6, f7⟩) 49 :: Cells (g2 + 1) (hC a0 a1 a2 a3 a4 a5 a6 a7 a8 a9 a10) 84 :: Cells g2 #[.int .u32 k0, .int .u32 k1, .int .i64 k2, .int .i64 k3, .int .i64 k4] 24 :: Cells (g + 1) (outC 0 0 0 (.slice none 0 0)) 40 :: Cells g (cfC self sl fl idle0 mtu sg qu ve) 46 :: RFA bt most idle (sortF M2) :: RChL cb c (.slice pa c.l.length pc) vt R) := rec_one HDz.out (putRec ⟨⟨k0, k1, k2, k3, k4⟩, b0, gen, now⟩)
          generalize VZ.heap.size = gR at *
          generalize (VZ.alloc (.cells #[.int .i64 1, .int .u32 k0, .int .u32 k1, .int .i64 k2, .int .i64 k3, .int .i64 k4, .int .i64 b0, .int .i64 gen, .int .i64 now, .int .i64 0, .slice none 0 0, .int .i64 0, .int .i64 0, .int .i64 0] 54)) = VY at *
          have HY := Lib.hid hA
          clear hA
          refine hK.out _ _ ⟨cell_of (HY.out.block 2 rfl) rfl, cell_of (HY.out.block 2 rfl) rfl, cell_of (HY.out.block 2 rfl) rfl, cell_of (HY.out.block 2 rfl) rfl, cell_of (HY.out.block 1 rfl) rfl, cell_of (HY.out.block 1 rfl) rfl, cell_of (HY.out.block 1 rfl) rfl, cell_of (HY.out.block 1 rfl) rfl, cell_of (HY.out.block 1 rfl) rfl, cell_of (HY.out.block 1 rfl) rfl, cell_of (HY.out.block 1 rfl) rfl, cell_of (HY.out.block 1 rfl) rfl⟩ (fun hS => ?_)
          clear hK K'
          try simp only [Act.put, List.setIfInBounds_toArray, List.set_cons_zero, List.set_cons_succ]
          refine e_pin (i := 4) rfl (by kernel_rfl) (fun K' hK => ?_)
          have hF := HY.out.setFull 8 rfl (xs := (outC 2 0 b0 (.slice qa wp.length qc)).toList) (b := g + 1) (C := (outC 0 0 0 (.slice none 0 0))) (T := 40) rfl
          refine store_step (by rfl) 40 (.tmp 12) (.tmp 122) (by rfl) (g + 1) 0 (outC 2 0 b0 (.slice qa wp.length qc)) (by rfl) (by rfl) (there_of (C := (outC 0 0 0 (.slice none 0 0))) (T := 40) (HY.out.block 8 rfl)) (by kernel_rfl) (outC_all _ _ _ _ _ _) ?_
          refine hK.out _ _ ⟨cell_of (hF.block 2 rfl) rfl, cell_of (hF.block 2 rfl) rfl, cell_of (hF.block 2 rfl) rfl, cell_of (hF.block 2 rfl) rfl, cell_of (hF.block 1 rfl) rfl, cell_of (hF.block 1 rfl) rfl, cell_of (hF.block 1 rfl) rfl, cell_of (hF.block 1 rfl) rfl, cell_of (hF.block 1 rfl) rfl, cell_of (hF.block 1 rfl) rfl, cell_of (hF.block 1 rfl) rfl, cell_of (hF.block 1 rfl) rfl⟩ (fun hS => ?_)
          clear hK K'
          try simp only [Act.put, List.setIfInBounds_toArray, List.set_cons_zero, List.set_cons_succ]
          refine e_last (i := 5) rfl (by kernel_rfl) (fun K' hK => ?_)
          go_simp
          refine hK.out _ _ ?_
          clear hK K' hS
          have G := Lib.hid hF
          go_wp2_with fail
          exact bodyPost_ret (results_cell_tmp_row Tryz.results23 _ _ (g + 1) 40 _ (0, 0) _ rfl (G.out.block 8 rfl) Tryz.underlying40 rfl (by kernel_rfl)) rfl ⟨_, _, by rw [HK.out] <;> rfl, by rw [HK.out]; exact G.out.sel2 (R1 := [_, _, _, _, _, _, _, _, _, _, _, _, _, _]) (R2 := R) [3, 0, 10, 11, 12, 13] (by decide) rfl⟩
        · have hF := HDz.out.setFull 7 rfl (xs := (outC 2 0 b0 (.slice qa wp.length qc)).toList) (b := g + 1) (C := (outC 0 0 0 (.slice none 0 0))) (T := 40) rfl
          refine store_step (by rfl) 40 (.tmp 12) (.tmp 122) (by rfl) (g + 1) 0 (outC 2 0 b0 (.slice qa wp.length qc)) (by rfl) (by rfl) (there_of (C := (outC 0 0 0 (.slice none 0 0))) (T := 40) (HDz.out.block 7 rfl)) (by kernel_rfl) (outC_all _ _ _ _ _ _) ?_
          refine hK.out _ _ ⟨cell_of (hF.block 1 rfl) rfl, cell_of (hF.block 1 rfl) rfl, cell_of (hF.block 1 rfl) rfl, cell_of (hF.block 1 rfl) rfl, cell_of (hF.block 0 rfl) rfl, cell_of (hF.block 0 rfl) rfl, cell_of (hF.block 0 rfl) rfl, cell_of (hF.block 0 rfl) rfl, cell_of (hF.block 0 rfl) rfl, cell_of (hF.block 0 rfl) rfl, cell_of (hF.block 0 rfl) rfl, cell_of (hF.block 0 rfl) rfl⟩ (fun hS => ?_)
          clear hK K'
          try simp only [Act.put, List.setIfInBounds_toArray, List.set_cons_zero, List.set_cons_succ]
          have HF2 : Hid (In F0 w0 (VZ.setCells (g + 1) 0 (outC 2 0 b0 (.slice qa wp.length qc)).toList) (Cells (g23 + 1) (encF ⟨⟨k0, k1, k2, k3, k4⟩, b0, gen, now⟩) 49 :: Cells g23 (outC 2 0 b0 (.slice qa wp.length qc)) 40 :: ByR (.slice qa wp.length qc) wp :: Cells g19 (encBa ⟨b0, b1, b2⟩) 33 :: Cells g17 (encF ⟨⟨f0, f1, f2, f3, f4⟩, f5, f6, f7⟩) 49 :: Cells (g2 + 1) (hC a0 a1 a2 a3 a4 a5 a6 a7 a8 a9 a10) 84 :: Cells g2 #[.int .u32 k0, .int .u32 k1, .int .i64 k2, .int .i64 k3, .int .i64 k4] 24 :: Cells (g + 1) (outC 2 0 b0 (.slice qa wp.length qc)).toList.toArray 40 :: Cells g (cfC self sl fl idle0 mtu sg qu ve) 46 :: RFA bt most idle (sortF M2) :: RChL cb c (.slice pa c.l.length pc) vt R)) := Lib.hid hF
          clear hF
          generalize (VZ.setCells (g + 1) 0 (outC 2 0 b0 (.slice qa wp.length qc)).toList) = VX at *
          refine e_pin (i := 3) rfl (by kernel_rfl) (fun K' hK => ?_)
          go_simp
          have hA : In F0 w0 (VX.alloc (.cells #[.int .i64 1, .int .u32 k0, .int .u32 k1, .int .i64 k2, .int .i64 k3, .int .i64 k4, .int .i64 b0, .int .i64 gen, .int .i64 now, .int .i64 0, .slice none 0 0, .int .i64 0, .int .i64 0, .int .i64 0] 54)) (RecR (.slice (some ⟨VX.heap.size, 0, none⟩) 1 1) [(putRec ⟨⟨k0, k1, k2, k3, k4⟩, b0, gen, now⟩)] :: Cells (g23 + 1) (encF ⟨⟨k0, k1, k2, k3, k4⟩, b0, gen, now⟩) 49 :: Cells g23 (outC 2 0 b0 (.slice qa wp.length qc)) 40 :: ByR (.slice qa wp.length qc) wp :: Cells g19 (encBa ⟨b0, b1, b2⟩) 33 :: Cells g17 (encF ⟨⟨f0, f1, f2, f3, f4⟩, f5, f6, f7⟩) 49 :: Cells (g2 + 1) (hC a0 a1 a2 a3 a4 a5 a6 a7 a8 a9 a10) 84 :: Cells g2 #[.int .u32 k0, .int .u32 k1, .int .i64 k2, .int .i64 k3, .int .i64 k4] 24 :: Cells (g + 1) (outC 2 0 b0 (.slice qa wp.length qc)).toList.toArray 40 :: Cells g (cfC self sl fl idle0 mtu sg qu ve) 46 :: RFA bt most idle (sortF M2) :: RChL cb c (.slice pa c.l.length pc) vt R) := rec_one HF2.out (putRec ⟨⟨k0, k1, k2, k3, k4⟩, b0, gen, now⟩)
          generalize VX.heap.size = gR at *
          generalize (VX.alloc (.cells #[.int .i64 1, .int .u32 k0, .int .u32 k1, .int .i64 k2, .int .i64 k3, .int .i64 k4, .int .i64 b0, .int .i64 gen, .int .i64 now, .int .i64 0, .slice none 0 0, .int .i64 0, .int .i64 0, .int .i64 0] 54)) = VY at *
          have HY := Lib.hid hA
          clear hA
          refine hK.out _ _ ⟨cell_of (HY.out.block 2 rfl) rfl, cell_of (HY.out.block 2 rfl) rfl, cell_of (HY.out.block 2 rfl) rfl, cell_of (HY.out.block 2 rfl) rfl, cell_of (HY.out.block 1 rfl) rfl, cell_of (HY.out.block 1 rfl) rfl, cell_of (HY.out.block 1 rfl) rfl, cell_of (HY.out.block 1 rfl) rfl, cell_of (HY.out.block 1 rfl) rfl, cell_of (HY.out.block 1 rfl) rfl, cell_of (HY.out.block 1 rfl) rfl, cell_of (HY.out.block 1 rfl) rfl⟩ (fun hS => ?_)
          clear hK K'
          try simp only [Act.put, List.setIfInBounds_toArray, List.set_cons_zero, List.set_cons_succ]
          refine e_last (i := 5) rfl (by kernel_rfl) (fun K' hK => ?_)
          go_simp
          refine hK.out _ _ ?_
          clear hK K' hS
          have G := Lib.hid HY.out
          go_wp2_with fail
          exact bodyPost_ret (results_cell_tmp_row Tryz.results23 _ _ (g + 1) 40 _ (0, 0) _ rfl (G.out.block 8 rfl) Tryz.underlying40 rfl (by kernel_rfl)) rfl ⟨_, _, by rw [HK.out] <;> rfl, by rw [HK.out]; exact G.out.sel2 (R1 := [_, _, _, _, _, _, _, _, _, _, _, _, _, _]) (R2 := R) [3, 0, 10, 11, 12, 13] (by decide) rfl⟩
      · have hpe' : (pe != 0) = true := by rw [bne_iff_ne]; exact hpe
        have HK : Hid (pktD self mtu most M c gen now b = (⟨2, 0, b0, wp, []⟩, M2)) := Lib.hid (by rw [HK0.out]; simp only [Bool.false_eq_true, if_false, if_neg hpe])
        clear hpe HK0
        have o0 : w8.cell? ⟨g23, 0, none⟩ = some (.int .i64 2) := cell_of (H9.out.block 1 rfl) rfl
        have o1 : w8.cell? ⟨g23, 1, none⟩ = some (.int .i64 0) := cell_of (H9.out.block 1 rfl) rfl
        have o2 : w8.cell? ⟨g23, 2, none⟩ = some (.int .i64 b0) := cell_of (H9.out.block 1 rfl) rfl
        have o3 : w8.cell? ⟨g23, 3, none⟩ = some ((.slice qa wp.length qc)) := cell_of (H9.out.block 1 rfl) rfl
        have ht := there_of (H9.out.block 7 rfl)
        have G := Lib.hid (H9.out.setFull 7 rfl (xs := (outC 2 0 b0 (.slice qa wp.length qc)).toList) (b := g + 1) (C := (outC 0 0 0 (.slice none 0 0))) (T := 40) rfl)
        clear H9 KE KD
        go_wp2_with (refine wpList_store_mid (op := ⟨none, Op.store 40 (.tmp 12) (.tmp 121), _, _, _, _⟩) (by rfl) 40 (.tmp 12) (.tmp 121) rfl (g + 1) 0 (outC 2 0 b0 (.slice qa wp.length qc)) (by rfl) (by rfl) ht (by kernel_rfl) (outC_all _ _ _ _ _ _) ?_)
        exact bodyPost_ret (results_cell_tmp_row Tryz.results23 _ _ (g + 1) 40 _ (0, 0) _ rfl (G.out.block 7 rfl) Tryz.underlying40 rfl (by kernel_rfl)) rfl ⟨_, _, by rw [HK.out] <;> rfl, by rw [HK.out]; exact ((G.out.sel2 (R1 := [_, _, _, _, _, _, _, _, _, _, _, _, _]) (R2 := R) [2, 9, 10, 11, 12] (by decide) rfl).rownil 54 14).sel2 (R1 := [_, _, _, _, _, _]) (R2 := R) [1, 0, 2, 3, 4, 5] (by decide) rfl⟩
end
end Go.Proofs.YtgapbecddgfkmaaGreat
