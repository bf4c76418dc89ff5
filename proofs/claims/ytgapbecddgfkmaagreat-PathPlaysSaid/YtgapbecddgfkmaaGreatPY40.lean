/- Rows.PathPlaysSaid -/
import Derived.Test.YtgapbecddgfkmaaGreatPY18
namespace Go.Proofs.YtgapbecddgfkmaaGreat
open Go.RowKit
set_option linter.unusedVariables false
set_option maxHeartbeats 64000000
set_option maxRecDepth 100000
section
variable {F0 : List Nat} {w0 w : World} {R : List Asrt} {bt cb : Nat} {most idle : Int} {L : List Fl} {c : ChD} {vl vt : Value} {b : List UInt8}
abbrev cfC (self sl fl idle0 mtu sg qu ve : Int) : Array Value := #[.int .u32 self, .int .i64 sl, .int .i64 fl, .int .i64 idle0, .int .i64 mtu, .int .i64 sg, .int .i64 qu, .int .i64 ve]
def PktPost (r : PlanD × List Fl) (bt : Nat) (most idle : Int) (cb : Nat) (c : ChD) (vl vt : Value) (F0 : List Nat) (w0 : World) (R : List Asrt) (e : Ending) (w' : World) : Prop :=
  ∃ vp vr, e = .returned (planV r.1 vp vr) ∧ In F0 w0 w' (ByR vp r.1.pkt :: RecR vr r.1.recs :: FA bt most idle r.2 :: ChL cb c vl vt R)
theorem pkt_end {p : PlanD} {C0 : Array Value} {g : Nat} (hp : p.pkt = []) (hr : p.recs = []) (i : Nat) {Q : List Asrt} (hA : Q[i]? = some (Cells g C0 43)) (h : In F0 w0 w Q) (hC : C0.size = 5)
    (hQ : ∀ X, ∃ T, (Q.set i X).Perm (T ++ (FA bt most idle L :: ChL cb c vl vt R))) :
    w.there g 0 5 ∧ (w.setCells g 0 (plC p.verdict p.reason p.bk (.slice none 0 0) (.slice none 0 0)).toList).heap[g]? = some (.cells (plC p.verdict p.reason p.bk (.slice none 0 0) (.slice none 0 0)) 43 (0, 0)) ∧
    PktPost (p, L) bt most idle cb c vl vt F0 w0 R (.returned (planV p (.slice none 0 0) (.slice none 0 0))) (w.setCells g 0 (plC p.verdict p.reason p.bk (.slice none 0 0) (.slice none 0 0)).toList) := by
  have h1 := h.setFull i hA (xs := (plC p.verdict p.reason p.bk (.slice none 0 0) (.slice none 0 0)).toList) (b := g) (C := C0) (T := 43) (by rw [hC]; rfl)
  have hi := (List.getElem?_eq_some_iff.1 hA).1
  have ht := there_of (h.block i hA)
  rw [hC] at ht
  refine ⟨ht, h1.block i (by simp [hi]), _, _, rfl, ?_⟩
  obtain ⟨T, hT⟩ := hQ (Cells g (plC p.verdict p.reason p.bk (.slice none 0 0) (.slice none 0 0)).toList.toArray 43)
  have h2 := (h1.perm hT).right'
  simp only [hp, hr]
  exact (h2.rownil 54 14).rownil 5 1
theorem o_packet {self sl fl idle0 mtu sg qu ve : Int} (hself : 0 ≤ self ∧ self < 4294967296) (hcm : 1 ≤ c.slots ∧ c.slots ≤ 251) (hct : c.t.length = c.slots) (hcl : c.l.length ≤ 1000000)
    (hwf : ∀ x ∈ c.l, 0 ≤ x.addr ∧ x.addr < 4294967296) {gen now : Int} {A : Option Addr} {n : Nat} (hb : Bytes F0 w0 R A n b) (hbl : b.length ≤ 100000000) (h : In F0 w0 w (FA bt most idle L :: ChL cb c vl vt R)) :
    Calls Tryz.prog 12 #[.agg (cfC self sl fl idle0 mtu sg qu ve), .pointer (some ⟨bt, 0, none⟩), pC cb, .int .i64 gen, .int .i64 now, .slice A b.length n] w (PktPost (pktD self mtu most L c gen now b) bt most idle cb c vl vt F0 w0 R) := by
  have h1 := (h.cells (cfC self sl fl idle0 mtu sg qu ve) 46).cells (plC 0 0 0 (.slice none 0 0) (.slice none 0 0)) 43
  rw [World.size_alloc] at h1
  have hb4 : Bytes F0 w0 (FA bt most idle L :: ChL cb c vl vt R) A n b := (((hb.more _).more _).more _).more _
  have hb6 := (hb4.more (Cells w.heap.size (cfC self sl fl idle0 mtu sg qu ve) 46)).more (Cells (w.heap.size + 1) (plC 0 0 0 (.slice none 0 0) (.slice none 0 0)) 43)
  by_cases hnow : ¬ (0 ≤ now ∧ now ≤ 1099511627776)
  · have e : pktD self mtu most L c gen now b = (⟨0, 0, 0, [], []⟩, L) := by unfold pktD; rw [if_neg hnow]
    rw [e]
    obtain ⟨p1, p2, p3⟩ := pkt_end (p := ⟨0, 0, 0, [], []⟩) rfl rfl 0 rfl h1 rfl (fun X => ⟨[X, _], List.Perm.refl _⟩)
    have HP := Lib.hid p3
    have HB2 := Lib.hid p2
    have q : now < 0 ∨ (¬ now < 0 ∧ 1099511627776 < now) := by omega
    clear h h1 hb hb4 hb6 hbl hwf hcm hct hcl hself e hnow p2 p3
    go_enter Tryz.func12, Tryz.ntmps12
    rcases q with q | ⟨q0, q⟩
    · go_wp2_with (refine wpList_store_mid (op := ⟨none, Op.store 43 (.tmp 12) (.tmp 37), _, _, _, _⟩) (by rfl) 43 (.tmp 12) (.tmp 37) rfl (w.heap.size + 1) 0 (plC 0 0 0 (.slice none 0 0) (.slice none 0 0)) (by rfl) (by rfl) p1 (by kernel_rfl) (plC_all _ _ _ _ _ _ _ _ _) ?_)
      exact bodyPost_ret (results_cell_row Tryz.results12 _ _ (w.heap.size + 1) 43 _ (0, 0) _ rfl HB2.out Tryz.underlying43 rfl (by kernel_rfl)) rfl HP.out
    · have q0' : decide (now < 0) = false := decide_eq_false q0
      go_wp2_with (refine wpList_store_mid (op := ⟨none, Op.store 43 (.tmp 12) (.tmp 37), _, _, _, _⟩) (by rfl) 43 (.tmp 12) (.tmp 37) rfl (w.heap.size + 1) 0 (plC 0 0 0 (.slice none 0 0) (.slice none 0 0)) (by rfl) (by rfl) p1 (by kernel_rfl) (plC_all _ _ _ _ _ _ _ _ _) ?_)
      exact bodyPost_ret (results_cell_row Tryz.results12 _ _ (w.heap.size + 1) 43 _ (0, 0) _ rfl HB2.out Tryz.underlying43 rfl (by kernel_rfl)) rfl HP.out
  have hnow' : 0 ≤ now ∧ now ≤ 1099511627776 := Decidable.not_not.1 hnow
  have qn0 : decide (now < 0) = false := decide_eq_false (by omega)
  have qn1 : decide (1099511627776 < now) = false := decide_eq_false (by omega)
  have HPK0 := pkt_of (self := self) (mtu := mtu) (most := most) (L := L) (c := c) (gen := gen) (b := b) hnow'
  have K00 := o_pttuple h1 hb6 hbl
  have wk := within_wf b
  have HCM := fun (x : Bk) => choice_mem (L := L) (ch := c) (k := (withinD b).1) (b := x)
  have HCE := choice_eq L c (withinD b).1
  unfold wasD at HPK0
  generalize withinD b = wd at *
  obtain ⟨⟨k0, k1, k2, k3, k4⟩, ⟨a0, a1, a2, a3, a4, a5, a6, a7, a8, a9, a10⟩, rest, why⟩ := wd
  have ee : encH ⟨a0, a1, a2, a3, a4, a5, a6, a7, a8, a9, a10⟩ = (hC a0 a1 a2 a3 a4 a5 a6 a7 a8 a9 a10) := rfl
  simp only [ee] at K00
  simp only at HPK0 wk HCM HCE
  have HPK := Lib.hid HPK0
  have K0 := Lib.hid K00
  have WK := Lib.hid wk
  have HCMH := Lib.hid HCM
  have HCEH := Lib.hid HCE
  have HBY := Lib.hid hb
  have HBL := Lib.hid hbl
  have HWF := Lib.hid hwf
  have HSF := Lib.hid hself
  have HCH := Lib.hid (And.intro hcm (And.intro hct hcl))
  clear hb hb4 hb6 hbl hwf hself hcm hct hcl hnow hnow' HPK0 K00 wk HCM HCE ee h h1
  go_enter Tryz.func12, Tryz.ntmps12
  go_wp2_with fail
  generalize w.heap.size = g at *
  refine K0.out.mono ?_
  rintro e w1 ⟨rfl, ho⟩
  clear K0
  have ho2 := (ho.cells #[.int .u32 k0, .int .u32 k1, .int .i64 k2, .int .i64 k3, .int .i64 k4] 24).cells (hC a0 a1 a2 a3 a4 a5 a6 a7 a8 a9 a10) 84
  simp only [World.size_alloc] at ho2
  clear ho
  by_cases hwhy : why ≠ 0
  · have hq : (why != 0) = true := by rw [bne_iff_ne]; exact hwhy
    have HE : Hid (pktD self mtu most L c gen now b = (dropP why, L)) := Lib.hid (by rw [HPK.out]; unfold pktOf; rw [if_pos hwhy])
    clear HPK hwhy HCMH HCEH WK HCH
    go_wp2_with fail
    refine (pa_drop why _).mono ?_
    rintro e w9 ⟨rfl, rfl⟩
    obtain ⟨p1, p2, p3⟩ := pkt_end (p := dropP why) rfl rfl 2 rfl (ho2.alloc (.cells (plC 1 why 0 (.slice none 0 0) (.slice none 0 0)) 43)) rfl (fun X => ⟨[_, _, X, _], List.Perm.refl _⟩)
    have HP := Lib.hid p3
    have HB2 := Lib.hid p2
    clear p2 p3
    go_wp2_with (refine wpList_store_mid (op := ⟨none, Op.store 43 (.tmp 12) (.tmp 47), _, _, _, _⟩) (by rfl) 43 (.tmp 12) (.tmp 47) rfl (g + 1) 0 (plC 1 why 0 (.slice none 0 0) (.slice none 0 0)) (by rfl) (by rfl) p1 (by kernel_rfl) (plC_all _ _ _ _ _ _ _ _ _) ?_)
    exact bodyPost_ret (results_cell_row Tryz.results12 _ _ (g + 1) 43 _ (0, 0) _ rfl HB2.out Tryz.underlying43 rfl (by kernel_rfl)) rfl (by rw [HE.out]; exact HP.out)
  have hq : (why != 0) = false := by rw [bne_eq_false_iff_eq]; exact Decidable.not_not.1 hwhy
  have HPK1 : Hid (∀ co, choiceD L c ⟨k0, k1, k2, k3, k4⟩ = co → pktD self mtu most L c gen now b = pktOf most L ⟨k0, k1, k2, k3, k4⟩ 0 co (fun be => wrapD b self be.addr mtu) gen now (atF L ⟨k0, k1, k2, k3, k4⟩).isSome ((atF L ⟨k0, k1, k2, k3, k4⟩).getD zF).bk (endsD ⟨k0, k1, k2, k3, k4⟩ b)) := Lib.hid (fun co hco => by rw [HPK.out, hco, Decidable.not_not.1 hwhy])
  clear HPK
  have e0 : ((w1.alloc (.cells #[.int .u32 k0, .int .u32 k1, .int .i64 k2, .int .i64 k3, .int .i64 k4] 24)).alloc (.cells (hC a0 a1 a2 a3 a4 a5 a6 a7 a8 a9 a10) 84)).cell? ⟨w1.heap.size, 0, none⟩ = some (.int .u32 k0) := cell_of (ho2.block 1 rfl) rfl
  have e1 : ((w1.alloc (.cells #[.int .u32 k0, .int .u32 k1, .int .i64 k2, .int .i64 k3, .int .i64 k4] 24)).alloc (.cells (hC a0 a1 a2 a3 a4 a5 a6 a7 a8 a9 a10) 84)).cell? ⟨w1.heap.size, 1, none⟩ = some (.int .u32 k1) := cell_of (ho2.block 1 rfl) rfl
  have e2 : ((w1.alloc (.cells #[.int .u32 k0, .int .u32 k1, .int .i64 k2, .int .i64 k3, .int .i64 k4] 24)).alloc (.cells (hC a0 a1 a2 a3 a4 a5 a6 a7 a8 a9 a10) 84)).cell? ⟨w1.heap.size, 2, none⟩ = some (.int .i64 k2) := cell_of (ho2.block 1 rfl) rfl
  have e3 : ((w1.alloc (.cells #[.int .u32 k0, .int .u32 k1, .int .i64 k2, .int .i64 k3, .int .i64 k4] 24)).alloc (.cells (hC a0 a1 a2 a3 a4 a5 a6 a7 a8 a9 a10) 84)).cell? ⟨w1.heap.size, 3, none⟩ = some (.int .i64 k3) := cell_of (ho2.block 1 rfl) rfl
  have e4 : ((w1.alloc (.cells #[.int .u32 k0, .int .u32 k1, .int .i64 k2, .int .i64 k3, .int .i64 k4] 24)).alloc (.cells (hC a0 a1 a2 a3 a4 a5 a6 a7 a8 a9 a10) 84)).cell? ⟨w1.heap.size, 4, none⟩ = some (.int .i64 k4) := cell_of (ho2.block 1 rfl) rfl
  have K1 := o_fget ho2 4 rfl WK.out
  have HCE2 := HCEH.out
  have HPK2 := HPK1.out
  clear HPK1 HCEH
  generalize (atF L ⟨k0, k1, k2, k3, k4⟩).isSome = kn at *
  generalize (atF L ⟨k0, k1, k2, k3, k4⟩).getD zF = fo at *
  obtain ⟨⟨f0, f1, f2, f3, f4⟩, fbk, fgen, fseen⟩ := fo
  simp only at HPK2 HCE2
  have HPK := Lib.hid HPK2
  have HCE := Lib.hid HCE2
  have K1H := Lib.hid K1
  clear HPK2 HCE2 K1 hwhy ho2
  go_wp2_with fail
  generalize w1.heap.size = g2 at *
  generalize ((w1.alloc (.cells #[.int .u32 k0, .int .u32 k1, .int .i64 k2, .int .i64 k3, .int .i64 k4] 24)).alloc (.cells (hC a0 a1 a2 a3 a4 a5 a6 a7 a8 a9 a10) 84)) = wA at *
  refine K1H.out.mono ?_
  rintro e w2 ⟨rfl, ho⟩
  clear K1H e0 e1 e2 e3 e4
  have ho3 := ho.cells #[.int .u32 f0, .int .u32 f1, .int .i64 f2, .int .i64 f3, .int .i64 f4, .int .i64 fbk, .int .i64 fgen, .int .i64 fseen] 49
  clear ho
  have u5 : (w2.alloc (.cells #[.int .u32 f0, .int .u32 f1, .int .i64 f2, .int .i64 f3, .int .i64 f4, .int .i64 fbk, .int .i64 fgen, .int .i64 fseen] 49)).cell? ⟨w2.heap.size, 5, none⟩ = some (.int .i64 fbk) := cell_of (ho3.block 0 rfl) rfl
  have hF3 : In F0 w0 (w2.alloc (.cells #[.int .u32 f0, .int .u32 f1, .int .i64 f2, .int .i64 f3, .int .i64 f4, .int .i64 fbk, .int .i64 fgen, .int .i64 fseen] 49)) (ChL cb c vl vt (Cells w2.heap.size #[.int .u32 f0, .int .u32 f1, .int .i64 f2, .int .i64 f3, .int .i64 f4, .int .i64 fbk, .int .i64 fgen, .int .i64 fseen] 49 :: Cells (g2 + 1) (hC a0 a1 a2 a3 a4 a5 a6 a7 a8 a9 a10) 84 :: Cells g2 #[.int .u32 k0, .int .u32 k1, .int .i64 k2, .int .i64 k3, .int .i64 k4] 24 :: Cells (g + 1) (plC 0 0 0 (.slice none 0 0) (.slice none 0 0)) 43 :: Cells g (cfC self sl fl idle0 mtu sg qu ve) 46 :: FA bt most idle L :: R)) := ho3.sel2 (R1 := [_, _, _, _, _, _, _, _, _]) [6, 7, 8, 0, 1, 2, 3, 4, 5] (by decide) rfl
  have K2 := o_chfind (cb := cb) (c := c) (vl := vl) (vt := vt) fbk HCH.out.2.2 hF3
  clear hF3
  have HCE2 := HCE.out
  clear HCE
  have HFB : Hid (∀ x, findBk c.l fbk = x → x = findBk c.l fbk) := Lib.hid (fun x hx => hx.symm)
  obtain ⟨fb, hfb⟩ : ∃ fb, fb = findBk c.l fbk := ⟨_, rfl⟩
  rw [← hfb] at K2 HCE2
  clear hfb HFB
  have hyA : kn = true → fb.isSome = true → choiceD L c ⟨k0, k1, k2, k3, k4⟩ = fb := fun q1 q2 => by rw [HCE2, if_pos ⟨q1, q2⟩]
  have hyB : (kn = false ∨ fb.isSome = false) → choiceD L c ⟨k0, k1, k2, k3, k4⟩ = pickCh c ⟨k0, k1, k2, k3, k4⟩ := fun q => by
    rw [HCE2, if_neg (fun ⟨q1, q2⟩ => by rcases q with q | q <;> simp_all)]
  have HYA := Lib.hid hyA
  have HYB := Lib.hid hyB
  obtain ⟨y, hy⟩ : ∃ y, y = fb.getD zBk := ⟨_, rfl⟩
  have HY := Lib.hid hy
  rw [← hy] at K2
  clear HCE2 hyA hyB hy ho3
  obtain ⟨ok1, hok1⟩ : ∃ ok1, ok1 = fb.isSome := ⟨_, rfl⟩
  have HOK := Lib.hid hok1
  rw [← hok1] at K2
  clear hok1
  obtain ⟨y0, y1, y2⟩ := y
  have K2H := Lib.hid K2
  clear K2
  go_wp2_with fail
  generalize w2.heap.size = g4 at *
  generalize (w2.alloc (.cells #[.int .u32 f0, .int .u32 f1, .int .i64 f2, .int .i64 f3, .int .i64 f4, .int .i64 fbk, .int .i64 fgen, .int .i64 fseen] 49)) = wB at *
  refine K2H.out.mono ?_
  rintro e w3 ⟨rfl, ho⟩
  clear K2H u5
  have ho4 := ho.cells #[.int .i64 y0, .int .u32 y1, .int .i64 y2] 33
  clear ho
  have hTL : In F0 w0 (w3.alloc (.cells #[.int .i64 y0, .int .u32 y1, .int .i64 y2] 33)) (Cells w3.heap.size #[.int .i64 y0, .int .u32 y1, .int .i64 y2] 33 :: Cells g4 #[.int .u32 f0, .int .u32 f1, .int .i64 f2, .int .i64 f3, .int .i64 f4, .int .i64 fbk, .int .i64 fgen, .int .i64 fseen] 49 :: Cells (g2 + 1) (hC a0 a1 a2 a3 a4 a5 a6 a7 a8 a9 a10) 84 :: Cells g2 #[.int .u32 k0, .int .u32 k1, .int .i64 k2, .int .i64 k3, .int .i64 k4] 24 :: Cells (g + 1) (plC 0 0 0 (.slice none 0 0) (.slice none 0 0)) 43 :: Cells g (cfC self sl fl idle0 mtu sg qu ve) 46 :: FA bt most idle L :: ChL cb c vl vt R) := ho4.sel2 (R1 := [_, _, _, _, _, _, _, _, _, _]) [0, 4, 5, 6, 7, 8, 9, 1, 2, 3] (by decide) rfl
  have hPI : In F0 w0 (w3.alloc (.cells #[.int .i64 y0, .int .u32 y1, .int .i64 y2] 33)) (ChL cb c vl vt (Cells w3.heap.size #[.int .i64 y0, .int .u32 y1, .int .i64 y2] 33 :: Cells g4 #[.int .u32 f0, .int .u32 f1, .int .i64 f2, .int .i64 f3, .int .i64 f4, .int .i64 fbk, .int .i64 fgen, .int .i64 fseen] 49 :: Cells (g2 + 1) (hC a0 a1 a2 a3 a4 a5 a6 a7 a8 a9 a10) 84 :: Cells g2 #[.int .u32 k0, .int .u32 k1, .int .i64 k2, .int .i64 k3, .int .i64 k4] 24 :: Cells (g + 1) (plC 0 0 0 (.slice none 0 0) (.slice none 0 0)) 43 :: Cells g (cfC self sl fl idle0 mtu sg qu ve) 46 :: FA bt most idle L :: R)) := ho4.sel2 (R1 := [_, _, _, _, _, _, _, _, _, _]) [1, 2, 3, 0, 4, 5, 6, 7, 8, 9] (by decide) rfl
  have e0 : (w3.alloc (.cells #[.int .i64 y0, .int .u32 y1, .int .i64 y2] 33)).cell? ⟨g2, 0, none⟩ = some (.int .u32 k0) := cell_of (hTL.block 3 rfl) rfl
  have e1 : (w3.alloc (.cells #[.int .i64 y0, .int .u32 y1, .int .i64 y2] 33)).cell? ⟨g2, 1, none⟩ = some (.int .u32 k1) := cell_of (hTL.block 3 rfl) rfl
  have e2 : (w3.alloc (.cells #[.int .i64 y0, .int .u32 y1, .int .i64 y2] 33)).cell? ⟨g2, 2, none⟩ = some (.int .i64 k2) := cell_of (hTL.block 3 rfl) rfl
  have e3 : (w3.alloc (.cells #[.int .i64 y0, .int .u32 y1, .int .i64 y2] 33)).cell? ⟨g2, 3, none⟩ = some (.int .i64 k3) := cell_of (hTL.block 3 rfl) rfl
  have e4 : (w3.alloc (.cells #[.int .i64 y0, .int .u32 y1, .int .i64 y2] 33)).cell? ⟨g2, 4, none⟩ = some (.int .i64 k4) := cell_of (hTL.block 3 rfl) rfl
  clear ho4
  cases kn with
  | false =>
    have K3 := o_chpick (cb := cb) (c := c) (vl := vl) (vt := vt) WK.out HCH.out.1 HCH.out.2.1 HCH.out.2.2 hPI
    unfold PickPost at K3
    clear hPI hTL
    obtain ⟨pc, hpc⟩ : ∃ pc, pc = pickCh c ⟨k0, k1, k2, k3, k4⟩ := ⟨_, rfl⟩
    rw [← hpc] at K3
    have HCP : Hid (choiceD L c ⟨k0, k1, k2, k3, k4⟩ = pc) := Lib.hid (by rw [hpc]; exact HYB.out (Or.inl rfl))
    clear hpc HYA HYB HY HOK
    cases pc with
    | none =>
      have K3H := Lib.hid K3
      have HE : Hid (pktD self mtu most L c gen now b = (dropP 10, L)) := Lib.hid (by rw [HPK.out _ HCP.out]; rfl)
      clear K3 HPK HCMH
      go_wp2_with fail
      generalize hW3 : (w3.alloc (.cells #[.int .i64 y0, .int .u32 y1, .int .i64 y2] 33)) = wC at *
      generalize w3.heap.size = g5 at *
      refine K3H.out.mono ?_
      rintro e w4 ⟨rfl, ho⟩
      clear K3H e0 e1 e2 e3 e4
      simp only [Option.getD_none, Option.isSome_none]
      have ho5 := ho.setFull 3 rfl (xs := [.int .i64 0, .int .u32 0, .int .i64 0]) (b := g5) (C := #[.int .i64 y0, .int .u32 y1, .int .i64 y2]) (T := 33) rfl
      have hT : In F0 w0 (w4.setCells g5 0 [.int .i64 0, .int .u32 0, .int .i64 0]) (Cells g5 #[.int .i64 0, .int .u32 0, .int .i64 0] 33 :: Cells g4 #[.int .u32 f0, .int .u32 f1, .int .i64 f2, .int .i64 f3, .int .i64 f4, .int .i64 fbk, .int .i64 fgen, .int .i64 fseen] 49 :: Cells (g2 + 1) (hC a0 a1 a2 a3 a4 a5 a6 a7 a8 a9 a10) 84 :: Cells g2 #[.int .u32 k0, .int .u32 k1, .int .i64 k2, .int .i64 k3, .int .i64 k4] 24 :: Cells (g + 1) (plC 0 0 0 (.slice none 0 0) (.slice none 0 0)) 43 :: Cells g (cfC self sl fl idle0 mtu sg qu ve) 46 :: FA bt most idle L :: ChL cb c vl vt R) := ho5.sel2 (R1 := [_, _, _, _, _, _, _, _, _, _]) [3, 4, 5, 6, 7, 8, 9, 0, 1, 2] (by decide) rfl
      have ht := there_of (ho.block 3 rfl)
      clear ho ho5
      go_wp2_with (refine wpList_store_mid (op := ⟨none, Op.store 33 (.tmp 18) (.tmp 71), _, _, _, _⟩) (by rfl) 33 (.tmp 18) (.tmp 71) rfl g5 0 (encBa zBk) (by rfl) (by rfl) ht (by kernel_rfl) (encBa_all _ _ _) ?_)
      have hT2 : In F0 w0 (w4.setCells g5 0 (encBa zBk).toList) (Cells g5 #[.int .i64 0, .int .u32 0, .int .i64 0] 33 :: Cells g4 #[.int .u32 f0, .int .u32 f1, .int .i64 f2, .int .i64 f3, .int .i64 f4, .int .i64 fbk, .int .i64 fgen, .int .i64 fseen] 49 :: Cells (g2 + 1) (hC a0 a1 a2 a3 a4 a5 a6 a7 a8 a9 a10) 84 :: Cells g2 #[.int .u32 k0, .int .u32 k1, .int .i64 k2, .int .i64 k3, .int .i64 k4] 24 :: Cells (g + 1) (plC 0 0 0 (.slice none 0 0) (.slice none 0 0)) 43 :: Cells g (cfC self sl fl idle0 mtu sg qu ve) 46 :: FA bt most idle L :: ChL cb c vl vt R) := hT
      clear hT
      refine (pa_drop 10 _).mono ?_
      rintro e w9 ⟨rfl, rfl⟩
      obtain ⟨p1, p2, p3⟩ := pkt_end (p := dropP 10) rfl rfl 4 rfl (hT2.alloc (.cells (plC 1 10 0 (.slice none 0 0) (.slice none 0 0)) 43)) rfl (fun X => ⟨[_, _, _, _, X, _], List.Perm.refl _⟩)
      have HP := Lib.hid p3
      have HB2 := Lib.hid p2
      clear p2 p3
      go_wp2_with (refine wpList_store_mid (op := ⟨none, Op.store 43 (.tmp 12) (.tmp 75), _, _, _, _⟩) (by rfl) 43 (.tmp 12) (.tmp 75) rfl (g + 1) 0 (plC 1 10 0 (.slice none 0 0) (.slice none 0 0)) (by rfl) (by rfl) p1 (by kernel_rfl) (plC_all _ _ _ _ _ _ _ _ _) ?_)
      exact bodyPost_ret (results_cell_row Tryz.results12 _ _ (g + 1) 43 _ (0, 0) _ rfl HB2.out Tryz.underlying43 rfl (by kernel_rfl)) rfl (by rw [HE.out]; exact HP.out)
    | some yy =>
      obtain ⟨z0, z1, z2⟩ := yy
      have K3H := Lib.hid K3
      clear K3
      go_wp2_with fail
      generalize hW3 : (w3.alloc (.cells #[.int .i64 y0, .int .u32 y1, .int .i64 y2] 33)) = wC at *
      generalize w3.heap.size = g5 at *
      refine K3H.out.mono ?_
      rintro e w4 ⟨rfl, ho⟩
      clear K3H e0 e1 e2 e3 e4
      simp only [Option.getD_some, Option.isSome_some]
      have ho5 := ho.setFull 3 rfl (xs := [.int .i64 z0, .int .u32 z1, .int .i64 z2]) (b := g5) (C := #[.int .i64 y0, .int .u32 y1, .int .i64 y2]) (T := 33) rfl
      have hT : In F0 w0 (w4.setCells g5 0 [.int .i64 z0, .int .u32 z1, .int .i64 z2]) (Cells g5 #[.int .i64 z0, .int .u32 z1, .int .i64 z2] 33 :: Cells g4 #[.int .u32 f0, .int .u32 f1, .int .i64 f2, .int .i64 f3, .int .i64 f4, .int .i64 fbk, .int .i64 fgen, .int .i64 fseen] 49 :: Cells (g2 + 1) (hC a0 a1 a2 a3 a4 a5 a6 a7 a8 a9 a10) 84 :: Cells g2 #[.int .u32 k0, .int .u32 k1, .int .i64 k2, .int .i64 k3, .int .i64 k4] 24 :: Cells (g + 1) (plC 0 0 0 (.slice none 0 0) (.slice none 0 0)) 43 :: Cells g (cfC self sl fl idle0 mtu sg qu ve) 46 :: FA bt most idle L :: ChL cb c vl vt R) := ho5.sel2 (R1 := [_, _, _, _, _, _, _, _, _, _]) [3, 4, 5, 6, 7, 8, 9, 0, 1, 2] (by decide) rfl
      have ht := there_of (ho.block 3 rfl)
      clear ho ho5
      have HCO := HCP
      clear HCP
      have K4 := o_enwrap hT (HBY.out.moreL [_, _, _, _, _, _, _, _, _, _]) HBL.out mtu HSF.out.1 HSF.out.2 (dst := z1) (HWF.out _ (HCMH.out _ HCO.out)).1 (HWF.out _ (HCMH.out _ HCO.out)).2
      have HPK3 := HPK.out _ HCO.out
      clear HPK
      unfold WrapPost at K4
      unfold pktOf at HPK3
      rw [if_neg (by decide)] at HPK3
      simp only at HPK3
      generalize wrapD b self z1 mtu = wp at *
      obtain ⟨pk, rs⟩ := wp
      simp only at HPK3 K4
      have K4H := Lib.hid K4
      have HPK3H := Lib.hid HPK3
      have s0 : (w4.setCells g5 0 [.int .i64 z0, .int .u32 z1, .int .i64 z2]).cell? ⟨g, 0, none⟩ = some (.int .u32 self) := cell_of (hT.block 5 rfl) rfl
      have s1 : (w4.setCells g5 0 [.int .i64 z0, .int .u32 z1, .int .i64 z2]).cell? ⟨g, 1, none⟩ = some (.int .i64 sl) := cell_of (hT.block 5 rfl) rfl
      have s2 : (w4.setCells g5 0 [.int .i64 z0, .int .u32 z1, .int .i64 z2]).cell? ⟨g, 2, none⟩ = some (.int .i64 fl) := cell_of (hT.block 5 rfl) rfl
      have s3 : (w4.setCells g5 0 [.int .i64 z0, .int .u32 z1, .int .i64 z2]).cell? ⟨g, 3, none⟩ = some (.int .i64 idle0) := cell_of (hT.block 5 rfl) rfl
      have s4 : (w4.setCells g5 0 [.int .i64 z0, .int .u32 z1, .int .i64 z2]).cell? ⟨g, 4, none⟩ = some (.int .i64 mtu) := cell_of (hT.block 5 rfl) rfl
      have s5 : (w4.setCells g5 0 [.int .i64 z0, .int .u32 z1, .int .i64 z2]).cell? ⟨g, 5, none⟩ = some (.int .i64 sg) := cell_of (hT.block 5 rfl) rfl
      have s6 : (w4.setCells g5 0 [.int .i64 z0, .int .u32 z1, .int .i64 z2]).cell? ⟨g, 6, none⟩ = some (.int .i64 qu) := cell_of (hT.block 5 rfl) rfl
      have s7 : (w4.setCells g5 0 [.int .i64 z0, .int .u32 z1, .int .i64 z2]).cell? ⟨g, 7, none⟩ = some (.int .i64 ve) := cell_of (hT.block 5 rfl) rfl
      have t0 : (w4.setCells g5 0 [.int .i64 z0, .int .u32 z1, .int .i64 z2]).cell? ⟨g5, 0, none⟩ = some (.int .i64 z0) := cell_of (hT.block 0 rfl) rfl
      have t1 : (w4.setCells g5 0 [.int .i64 z0, .int .u32 z1, .int .i64 z2]).cell? ⟨g5, 1, none⟩ = some (.int .u32 z1) := cell_of (hT.block 0 rfl) rfl
      have t2 : (w4.setCells g5 0 [.int .i64 z0, .int .u32 z1, .int .i64 z2]).cell? ⟨g5, 2, none⟩ = some (.int .i64 z2) := cell_of (hT.block 0 rfl) rfl
      clear K4 hT HPK3
      go_wp2_with (refine wpList_store_mid (op := ⟨none, Op.store 33 (.tmp 18) (.tmp 71), _, _, _, _⟩) (by rfl) 33 (.tmp 18) (.tmp 71) rfl g5 0 (encBa ⟨z0, z1, z2⟩) (by rfl) (by rfl) ht (by kernel_rfl) (encBa_all _ _ _) ?_)
      clear ht
      generalize (w4.setCells g5 0 [.int .i64 z0, .int .u32 z1, .int .i64 z2]) = wT at *
      refine K4H.out.mono ?_
      rintro e w5 ⟨v5, rfl, ho⟩
      clear K4H s0 s1 s2 s3 s4 s5 s6 s7 t0 t1 t2
      obtain ⟨pa5, pn5, rfl⟩ := ByR.shape ho
      have HPK3 := HPK3H.out
      clear HPK3H
      by_cases hrs : rs ≠ 0
      · have hqr : (rs != 0) = true := by rw [bne_iff_ne]; exact hrs
        have HE : Hid (pktD self mtu most L c gen now b = (dropP rs, L)) := Lib.hid (by rw [HPK3, if_pos hrs])
        clear HPK3 hrs
        go_wp2_with fail
        refine (pa_drop rs _).mono ?_
        rintro e w9 ⟨rfl, rfl⟩
        obtain ⟨p1, p2, p3⟩ := pkt_end (p := dropP rs) rfl rfl 5 rfl (ho.alloc (.cells (plC 1 rs 0 (.slice none 0 0) (.slice none 0 0)) 43)) rfl (fun X => ⟨[_, _, _, _, _, X, _], List.Perm.refl _⟩)
        have HP := Lib.hid p3
        have HB2 := Lib.hid p2
        clear p2 p3
        go_wp2_with (refine wpList_store_mid (op := ⟨none, Op.store 43 (.tmp 12) (.tmp 90), _, _, _, _⟩) (by rfl) 43 (.tmp 12) (.tmp 90) rfl (g + 1) 0 (plC 1 rs 0 (.slice none 0 0) (.slice none 0 0)) (by rfl) (by rfl) p1 (by kernel_rfl) (plC_all _ _ _ _ _ _ _ _ _) ?_)
        exact bodyPost_ret (results_cell_row Tryz.results12 _ _ (g + 1) 43 _ (0, 0) _ rfl HB2.out Tryz.underlying43 rfl (by kernel_rfl)) rfl (by rw [HE.out]; exact HP.out)
      · have hqr : (rs != 0) = false := by rw [bne_eq_false_iff_eq]; exact Decidable.not_not.1 hrs
        rw [if_neg hrs] at HPK3
        obtain ⟨en, hen⟩ : ∃ en, en = endsD ⟨k0, k1, k2, k3, k4⟩ b := ⟨_, rfl⟩
        rw [← hen] at HPK3
        have HEN := Lib.hid hen.symm
        clear hen
        have HPKF := Lib.hid HPK3
        have h6 := (ho.cells #[.int .i64 2, .int .i64 0, .int .i64 z0, .slice pa5 pk.length pn5] 40).cells #[.int .u32 k0, .int .u32 k1, .int .i64 k2, .int .i64 k3, .int .i64 k4, .int .i64 z0, .int .i64 gen, .int .i64 now] 49
        simp only [World.size_alloc] at h6
        have t0 : w5.cell? ⟨g5, 0, none⟩ = some (.int .i64 z0) := cell_of (ho.block 1 rfl) rfl
        have t1 : w5.cell? ⟨g5, 1, none⟩ = some (.int .u32 z1) := cell_of (ho.block 1 rfl) rfl
        have t2 : w5.cell? ⟨g5, 2, none⟩ = some (.int .i64 z2) := cell_of (ho.block 1 rfl) rfl
        have h5 := ho.alloc (.cells #[.int .i64 2, .int .i64 0, .int .i64 z0, .slice pa5 pk.length pn5] 40)
        have e0 : (w5.alloc (.cells #[.int .i64 2, .int .i64 0, .int .i64 z0, .slice pa5 pk.length pn5] 40)).cell? ⟨g2, 0, none⟩ = some (.int .u32 k0) := cell_of (h5.block 4 rfl) rfl
        have e1 : (w5.alloc (.cells #[.int .i64 2, .int .i64 0, .int .i64 z0, .slice pa5 pk.length pn5] 40)).cell? ⟨g2, 1, none⟩ = some (.int .u32 k1) := cell_of (h5.block 4 rfl) rfl
        have e2 : (w5.alloc (.cells #[.int .i64 2, .int .i64 0, .int .i64 z0, .slice pa5 pk.length pn5] 40)).cell? ⟨g2, 2, none⟩ = some (.int .i64 k2) := cell_of (h5.block 4 rfl) rfl
        have e3 : (w5.alloc (.cells #[.int .i64 2, .int .i64 0, .int .i64 z0, .slice pa5 pk.length pn5] 40)).cell? ⟨g2, 3, none⟩ = some (.int .i64 k3) := cell_of (h5.block 4 rfl) rfl
        have e4 : (w5.alloc (.cells #[.int .i64 2, .int .i64 0, .int .i64 z0, .slice pa5 pk.length pn5] 40)).cell? ⟨g2, 4, none⟩ = some (.int .i64 k4) := cell_of (h5.block 4 rfl) rfl
        have tt0 : (w5.alloc (.cells #[.int .i64 2, .int .i64 0, .int .i64 z0, .slice pa5 pk.length pn5] 40)).cell? ⟨g5, 0, none⟩ = some (.int .i64 z0) := cell_of (h5.block 1 rfl) rfl
        have tt1 : (w5.alloc (.cells #[.int .i64 2, .int .i64 0, .int .i64 z0, .slice pa5 pk.length pn5] 40)).cell? ⟨g5, 1, none⟩ = some (.int .u32 z1) := cell_of (h5.block 1 rfl) rfl
        have tt2 : (w5.alloc (.cells #[.int .i64 2, .int .i64 0, .int .i64 z0, .slice pa5 pk.length pn5] 40)).cell? ⟨g5, 2, none⟩ = some (.int .i64 z2) := cell_of (h5.block 1 rfl) rfl
        clear HPK3 h5 ho hrs
        go_upto_region 17 with fail
        generalize w5.heap.size = g6 at *
        generalize ((w5.alloc (.cells #[.int .i64 2, .int .i64 0, .int .i64 z0, .slice pa5 pk.length pn5] 40)).alloc (.cells #[.int .u32 k0, .int .u32 k1, .int .i64 k2, .int .i64 k3, .int .i64 k4, .int .i64 z0, .int .i64 gen, .int .i64 now] 49)) = V at *
        clear e0 e1 e2 e3 e4 t0 t1 t2 tt0 tt1 tt2
        have hd : In F0 w0 V.drew (Cells (g6 + 1) #[.int .u32 k0, .int .u32 k1, .int .i64 k2, .int .i64 k3, .int .i64 k4, .int .i64 z0, .int .i64 gen, .int .i64 now] 49 :: Cells g6 #[.int .i64 2, .int .i64 0, .int .i64 z0, .slice pa5 pk.length pn5] 40 :: ByR (.slice pa5 pk.length pn5) pk :: Cells g5 #[.int .i64 z0, .int .u32 z1, .int .i64 z2] 33 :: Cells g4 #[.int .u32 f0, .int .u32 f1, .int .i64 f2, .int .i64 f3, .int .i64 f4, .int .i64 fbk, .int .i64 fgen, .int .i64 fseen] 49 :: Cells (g2 + 1) (hC a0 a1 a2 a3 a4 a5 a6 a7 a8 a9 a10) 84 :: Cells g2 #[.int .u32 k0, .int .u32 k1, .int .i64 k2, .int .i64 k3, .int .i64 k4] 24 :: Cells (g + 1) (plC 0 0 0 (.slice none 0 0) (.slice none 0 0)) 43 :: Cells g (cfC self sl fl idle0 mtu sg qu ve) 46 :: FA bt most idle L :: ChL cb c vl vt R) := h6.drewN 1
        have HD := Lib.hid hd
        have KE0 := o_ptends (b := b) hd ⟨k0, k1, k2, k3, k4⟩ (HBY.out.moreL [_, _, _, _, _, _, _, _, _, _, _, _, _]) HBL.out
        have KE : Hid (Calls Tryz.prog 44 #[.agg (encT ⟨k0, k1, k2, k3, k4⟩), .slice A b.length n] V.drew fun e w' => e = .returned (.bool en) ∧ In F0 w0 w' (Cells (g6 + 1) #[.int .u32 k0, .int .u32 k1, .int .i64 k2, .int .i64 k3, .int .i64 k4, .int .i64 z0, .int .i64 gen, .int .i64 now] 49 :: Cells g6 #[.int .i64 2, .int .i64 0, .int .i64 z0, .slice pa5 pk.length pn5] 40 :: ByR (.slice pa5 pk.length pn5) pk :: Cells g5 #[.int .i64 z0, .int .u32 z1, .int .i64 z2] 33 :: Cells g4 #[.int .u32 f0, .int .u32 f1, .int .i64 f2, .int .i64 f3, .int .i64 f4, .int .i64 fbk, .int .i64 fgen, .int .i64 fseen] 49 :: Cells (g2 + 1) (hC a0 a1 a2 a3 a4 a5 a6 a7 a8 a9 a10) 84 :: Cells g2 #[.int .u32 k0, .int .u32 k1, .int .i64 k2, .int .i64 k3, .int .i64 k4] 24 :: Cells (g + 1) (plC 0 0 0 (.slice none 0 0) (.slice none 0 0)) 43 :: Cells g (cfC self sl fl idle0 mtu sg qu ve) 46 :: FA bt most idle L :: ChL cb c vl vt R)) := Lib.hid (by rw [HEN.out] at KE0; exact KE0)
        have KK := Lib.hid (fun w' (h' : In F0 w0 w' (Cells (g6 + 1) #[.int .u32 k0, .int .u32 k1, .int .i64 k2, .int .i64 k3, .int .i64 k4, .int .i64 z0, .int .i64 gen, .int .i64 now] 49 :: Cells g6 #[.int .i64 2, .int .i64 0, .int .i64 z0, .slice pa5 pk.length pn5] 40 :: ByR (.slice pa5 pk.length pn5) pk :: Cells g5 #[.int .i64 z0, .int .u32 z1, .int .i64 z2] 33 :: Cells g4 #[.int .u32 f0, .int .u32 f1, .int .i64 f2, .int .i64 f3, .int .i64 f4, .int .i64 fbk, .int .i64 fgen, .int .i64 fseen] 49 :: Cells (g2 + 1) (hC a0 a1 a2 a3 a4 a5 a6 a7 a8 a9 a10) 84 :: Cells g2 #[.int .u32 k0, .int .u32 k1, .int .i64 k2, .int .i64 k3, .int .i64 k4] 24 :: Cells (g + 1) (plC 0 0 0 (.slice none 0 0) (.slice none 0 0)) 43 :: Cells g (cfC self sl fl idle0 mtu sg qu ve) 46 :: FA bt most idle L :: ChL cb c vl vt R)) => o_pakeep h' 9 rfl (f := ⟨⟨k0, k1, k2, k3, k4⟩, z0, gen, now⟩) WK.out false fbk en)
        clear KE0 h6 hd
        generalize keepD most L ⟨⟨k0, k1, k2, k3, k4⟩, z0, gen, now⟩ false fbk en = kr at *
        obtain ⟨krr, krl⟩ := kr
        refine e_start (fun w' => w'.cell? ⟨g6, 0, none⟩ = some (.int .i64 2) ∧ w'.cell? ⟨g6, 1, none⟩ = some (.int .i64 0) ∧ w'.cell? ⟨g6, 2, none⟩ = some (.int .i64 z0) ∧ w'.cell? ⟨g6, 3, none⟩ = some (.slice pa5 pk.length pn5) ∧ w'.cell? ⟨g6 + 1, 0, none⟩ = some (.int .u32 k0) ∧ w'.cell? ⟨g6 + 1, 1, none⟩ = some (.int .u32 k1) ∧ w'.cell? ⟨g6 + 1, 2, none⟩ = some (.int .i64 k2) ∧ w'.cell? ⟨g6 + 1, 3, none⟩ = some (.int .i64 k3) ∧ w'.cell? ⟨g6 + 1, 4, none⟩ = some (.int .i64 k4) ∧ w'.cell? ⟨g6 + 1, 5, none⟩ = some (.int .i64 z0) ∧ w'.cell? ⟨g6 + 1, 6, none⟩ = some (.int .i64 gen) ∧ w'.cell? ⟨g6 + 1, 7, none⟩ = some (.int .i64 now) ∧ w'.cell? ⟨g4, 5, none⟩ = some (.int .i64 fbk) ∧ w'.cell? ⟨g2, 0, none⟩ = some (.int .u32 k0) ∧ w'.cell? ⟨g2, 1, none⟩ = some (.int .u32 k1) ∧ w'.cell? ⟨g2, 2, none⟩ = some (.int .i64 k2) ∧ w'.cell? ⟨g2, 3, none⟩ = some (.int .i64 k3) ∧ w'.cell? ⟨g2, 4, none⟩ = some (.int .i64 k4) ∧ w'.there (g + 1) 0 5) (by kernel_rfl) ⟨cell_of (HD.out.block 1 rfl) rfl, cell_of (HD.out.block 1 rfl) rfl, cell_of (HD.out.block 1 rfl) rfl, cell_of (HD.out.block 1 rfl) rfl, cell_of (HD.out.block 0 rfl) rfl, cell_of (HD.out.block 0 rfl) rfl, cell_of (HD.out.block 0 rfl) rfl, cell_of (HD.out.block 0 rfl) rfl, cell_of (HD.out.block 0 rfl) rfl, cell_of (HD.out.block 0 rfl) rfl, cell_of (HD.out.block 0 rfl) rfl, cell_of (HD.out.block 0 rfl) rfl, cell_of (HD.out.block 4 rfl) rfl, cell_of (HD.out.block 6 rfl) rfl, cell_of (HD.out.block 6 rfl) rfl, cell_of (HD.out.block 6 rfl) rfl, cell_of (HD.out.block 6 rfl) rfl, cell_of (HD.out.block 6 rfl) rfl, there_of (HD.out.block 7 rfl)⟩ (fun hS => ?_)
        refine e_take (i := 0) (v := ?_) rfl (by kernel_rfl) (fun _ _ _ h => h) (by rfl) ?_ hS ?_
        rotate_left
        · (intro w hSw; (try dsimp only at hSw); go_simp; try with_reducible rfl)
        try simp only [Act.put, List.setIfInBounds_toArray, List.set_cons_zero, List.set_cons_succ]
        refine e_take (i := 1) (v := ?_) rfl (by kernel_rfl) (fun _ _ _ h => h) (by rfl) ?_ hS ?_
        rotate_left
        · (intro w hSw; (try dsimp only at hSw); go_simp; try with_reducible rfl)
        try simp only [Act.put, List.setIfInBounds_toArray, List.set_cons_zero, List.set_cons_succ]
        refine e_take (i := 2) (v := ?_) rfl (by kernel_rfl) (fun _ _ _ h => h) (by rfl) ?_ hS ?_
        rotate_left
        · (intro w hSw; (try dsimp only at hSw); go_simp; try with_reducible rfl)
        try simp only [Act.put, List.setIfInBounds_toArray, List.set_cons_zero, List.set_cons_succ]
        refine e_take (i := 3) (v := ?_) rfl (by kernel_rfl) (fun _ _ _ h => h) (by rfl) ?_ hS ?_
        rotate_left
        · (intro w hSw; (try dsimp only at hSw); go_simp; try with_reducible rfl)
        try simp only [Act.put, List.setIfInBounds_toArray, List.set_cons_zero, List.set_cons_succ]
        refine e_take (i := 4) (v := ?_) rfl (by kernel_rfl) (fun _ _ _ h => h) (by rfl) ?_ hS ?_
        rotate_left
        · (intro w hSw; (try dsimp only at hSw); go_simp; try with_reducible rfl)
        try simp only [Act.put, List.setIfInBounds_toArray, List.set_cons_zero, List.set_cons_succ]
        refine e_take (i := 5) (v := ?_) rfl (by kernel_rfl) (fun _ _ _ h => h) (by rfl) ?_ hS ?_
        rotate_left
        · (intro w hSw; (try dsimp only at hSw); go_simp; try with_reducible rfl)
        try simp only [Act.put, List.setIfInBounds_toArray, List.set_cons_zero, List.set_cons_succ]
        refine e_take (i := 6) (v := ?_) rfl (by kernel_rfl) (fun _ _ _ h => h) (by rfl) ?_ hS ?_
        rotate_left
        · (intro w hSw; (try dsimp only at hSw); go_simp; try with_reducible rfl)
        try simp only [Act.put, List.setIfInBounds_toArray, List.set_cons_zero, List.set_cons_succ]
        refine e_take (i := 7) (v := ?_) rfl (by kernel_rfl) (fun _ _ _ h => h) (by rfl) ?_ hS ?_
        rotate_left
        · (intro w hSw; (try dsimp only at hSw); go_simp; try with_reducible rfl)
        try simp only [Act.put, List.setIfInBounds_toArray, List.set_cons_zero, List.set_cons_succ]
        refine e_pin (i := 8) rfl (by kernel_rfl) (fun K' hK => ?_)
        go_simp
        go_at_call 44
        refine KE.out.mono ?_
        rintro e w6 ⟨rfl, ho6⟩
        have HO6 := Lib.hid ho6
        have hS6 : w6.cell? ⟨g6, 0, none⟩ = some (.int .i64 2) ∧ w6.cell? ⟨g6, 1, none⟩ = some (.int .i64 0) ∧ w6.cell? ⟨g6, 2, none⟩ = some (.int .i64 z0) ∧ w6.cell? ⟨g6, 3, none⟩ = some (.slice pa5 pk.length pn5) ∧ w6.cell? ⟨g6 + 1, 0, none⟩ = some (.int .u32 k0) ∧ w6.cell? ⟨g6 + 1, 1, none⟩ = some (.int .u32 k1) ∧ w6.cell? ⟨g6 + 1, 2, none⟩ = some (.int .i64 k2) ∧ w6.cell? ⟨g6 + 1, 3, none⟩ = some (.int .i64 k3) ∧ w6.cell? ⟨g6 + 1, 4, none⟩ = some (.int .i64 k4) ∧ w6.cell? ⟨g6 + 1, 5, none⟩ = some (.int .i64 z0) ∧ w6.cell? ⟨g6 + 1, 6, none⟩ = some (.int .i64 gen) ∧ w6.cell? ⟨g6 + 1, 7, none⟩ = some (.int .i64 now) ∧ w6.cell? ⟨g4, 5, none⟩ = some (.int .i64 fbk) ∧ w6.cell? ⟨g2, 0, none⟩ = some (.int .u32 k0) ∧ w6.cell? ⟨g2, 1, none⟩ = some (.int .u32 k1) ∧ w6.cell? ⟨g2, 2, none⟩ = some (.int .i64 k2) ∧ w6.cell? ⟨g2, 3, none⟩ = some (.int .i64 k3) ∧ w6.cell? ⟨g2, 4, none⟩ = some (.int .i64 k4) ∧ w6.there (g + 1) 0 5 := ⟨cell_of (HO6.out.block 1 rfl) rfl, cell_of (HO6.out.block 1 rfl) rfl, cell_of (HO6.out.block 1 rfl) rfl, cell_of (HO6.out.block 1 rfl) rfl, cell_of (HO6.out.block 0 rfl) rfl, cell_of (HO6.out.block 0 rfl) rfl, cell_of (HO6.out.block 0 rfl) rfl, cell_of (HO6.out.block 0 rfl) rfl, cell_of (HO6.out.block 0 rfl) rfl, cell_of (HO6.out.block 0 rfl) rfl, cell_of (HO6.out.block 0 rfl) rfl, cell_of (HO6.out.block 0 rfl) rfl, cell_of (HO6.out.block 4 rfl) rfl, cell_of (HO6.out.block 6 rfl) rfl, cell_of (HO6.out.block 6 rfl) rfl, cell_of (HO6.out.block 6 rfl) rfl, cell_of (HO6.out.block 6 rfl) rfl, cell_of (HO6.out.block 6 rfl) rfl, there_of (HO6.out.block 7 rfl)⟩
        clear ho6 hS
        refine hK.out _ _ hS6 (fun hS => ?_)
        clear hK K' hS6
        try simp only [Act.put, List.setIfInBounds_toArray, List.set_cons_zero, List.set_cons_succ]
        refine e_pin (i := 9) rfl (by kernel_rfl) (fun K' hK => ?_)
        go_simp
        go_at_call 43
        refine (KK.out _ HO6.out).mono ?_
        rintro e w7 ⟨v7, rfl, ho7⟩
        obtain ⟨F7, r7⟩ := ho7.get 0 rfl
        obtain ⟨pa7, pn7, rfl, -, -, -⟩ := RowA.shape r7
        have ho8 : In F0 w0 w7 (RecR (.slice pa7 krr.length pn7) krr :: Cells (g6 + 1) #[.int .u32 k0, .int .u32 k1, .int .i64 k2, .int .i64 k3, .int .i64 k4, .int .i64 z0, .int .i64 gen, .int .i64 now] 49 :: Cells g6 #[.int .i64 2, .int .i64 0, .int .i64 z0, .slice pa5 pk.length pn5] 40 :: ByR (.slice pa5 pk.length pn5) pk :: Cells g5 #[.int .i64 z0, .int .u32 z1, .int .i64 z2] 33 :: Cells g4 #[.int .u32 f0, .int .u32 f1, .int .i64 f2, .int .i64 f3, .int .i64 f4, .int .i64 fbk, .int .i64 fgen, .int .i64 fseen] 49 :: Cells (g2 + 1) (hC a0 a1 a2 a3 a4 a5 a6 a7 a8 a9 a10) 84 :: Cells g2 #[.int .u32 k0, .int .u32 k1, .int .i64 k2, .int .i64 k3, .int .i64 k4] 24 :: Cells (g + 1) (plC 0 0 0 (.slice none 0 0) (.slice none 0 0)) 43 :: Cells g (cfC self sl fl idle0 mtu sg qu ve) 46 :: FA bt most idle krl :: ChL cb c vl vt R) := ho7
        have HO8 := Lib.hid ho8
        have G0 := ho8.setFull 8 rfl (xs := (plC 2 0 z0 (.slice pa5 pk.length pn5) (.slice pa7 krr.length pn7)).toList) (b := g + 1) (C := (plC 0 0 0 (.slice none 0 0) (.slice none 0 0))) (T := 43) rfl
        have hb9 := G0.block 8 rfl
        have HB9 := Lib.hid hb9
        have HG9 := Lib.hid (G0.sel2 (R1 := [_, _, _, _, _, _, _, _, _, _, _, _, _, _]) [3, 0, 10, 11, 12, 13] (by decide) rfl)
        have hS7 : w7.cell? ⟨g6, 0, none⟩ = some (.int .i64 2) ∧ w7.cell? ⟨g6, 1, none⟩ = some (.int .i64 0) ∧ w7.cell? ⟨g6, 2, none⟩ = some (.int .i64 z0) ∧ w7.cell? ⟨g6, 3, none⟩ = some (.slice pa5 pk.length pn5) ∧ w7.cell? ⟨g6 + 1, 0, none⟩ = some (.int .u32 k0) ∧ w7.cell? ⟨g6 + 1, 1, none⟩ = some (.int .u32 k1) ∧ w7.cell? ⟨g6 + 1, 2, none⟩ = some (.int .i64 k2) ∧ w7.cell? ⟨g6 + 1, 3, none⟩ = some (.int .i64 k3) ∧ w7.cell? ⟨g6 + 1, 4, none⟩ = some (.int .i64 k4) ∧ w7.cell? ⟨g6 + 1, 5, none⟩ = some (.int .i64 z0) ∧ w7.cell? ⟨g6 + 1, 6, none⟩ = some (.int .i64 gen) ∧ w7.cell? ⟨g6 + 1, 7, none⟩ = some (.int .i64 now) ∧ w7.cell? ⟨g4, 5, none⟩ = some (.int .i64 fbk) ∧ w7.cell? ⟨g2, 0, none⟩ = some (.int .u32 k0) ∧ w7.cell? ⟨g2, 1, none⟩ = some (.int .u32 k1) ∧ w7.cell? ⟨g2, 2, none⟩ = some (.int .i64 k2) ∧ w7.cell? ⟨g2, 3, none⟩ = some (.int .i64 k3) ∧ w7.cell? ⟨g2, 4, none⟩ = some (.int .i64 k4) ∧ w7.there (g + 1) 0 5 := ⟨cell_of (HO8.out.block 2 rfl) rfl, cell_of (HO8.out.block 2 rfl) rfl, cell_of (HO8.out.block 2 rfl) rfl, cell_of (HO8.out.block 2 rfl) rfl, cell_of (HO8.out.block 1 rfl) rfl, cell_of (HO8.out.block 1 rfl) rfl, cell_of (HO8.out.block 1 rfl) rfl, cell_of (HO8.out.block 1 rfl) rfl, cell_of (HO8.out.block 1 rfl) rfl, cell_of (HO8.out.block 1 rfl) rfl, cell_of (HO8.out.block 1 rfl) rfl, cell_of (HO8.out.block 1 rfl) rfl, cell_of (HO8.out.block 5 rfl) rfl, cell_of (HO8.out.block 7 rfl) rfl, cell_of (HO8.out.block 7 rfl) rfl, cell_of (HO8.out.block 7 rfl) rfl, cell_of (HO8.out.block 7 rfl) rfl, cell_of (HO8.out.block 7 rfl) rfl, there_of (HO8.out.block 8 rfl)⟩
        clear ho7 r7 ho8 hS G0 hb9
        refine hK.out _ _ hS7 (fun hS => ?_)
        clear hK K' hS7
        try simp only [Act.put, List.setIfInBounds_toArray, List.set_cons_zero, List.set_cons_succ]
        refine e_take (i := 10) (v := ?_) rfl (by kernel_rfl) (fun _ _ _ h => h) (by rfl) ?_ hS ?_
        rotate_left
        · (intro w hSw; (try dsimp only at hSw); go_simp; try with_reducible rfl)
        try simp only [Act.put, List.setIfInBounds_toArray, List.set_cons_zero, List.set_cons_succ]
        refine e_last (i := 11) rfl (by kernel_rfl) (fun K' hK => ?_)
        refine store_step (by rfl) 43 (.tmp 12) (.tmp 111) (by rfl) (g + 1) 0 (plC 2 0 z0 (.slice pa5 pk.length pn5) (.slice pa7 krr.length pn7)) (by rfl) (by rfl) (there_of (C := (plC 0 0 0 (.slice none 0 0) (.slice none 0 0))) (T := 43) (HO8.out.block 8 rfl)) (by kernel_rfl) (plC_all _ _ _ _ _ _ _ _ _) ?_
        refine hK.out _ _ ?_
        clear hK K' hS
        go_wp2_with fail
        exact bodyPost_ret (results_cell_row Tryz.results12 _ _ (g + 1) 43 _ (0, 0) _ rfl HB9.out Tryz.underlying43 rfl (by kernel_rfl)) rfl (by rw [HPKF.out]; exact ⟨_, _, rfl, HG9.out⟩)
  | true =>
    cases ok1 with
    | false =>
      have K3 := o_chpick (cb := cb) (c := c) (vl := vl) (vt := vt) WK.out HCH.out.1 HCH.out.2.1 HCH.out.2.2 hPI
      unfold PickPost at K3
      clear hPI hTL
      obtain ⟨pc, hpc⟩ : ∃ pc, pc = pickCh c ⟨k0, k1, k2, k3, k4⟩ := ⟨_, rfl⟩
      rw [← hpc] at K3
      have HCP : Hid (choiceD L c ⟨k0, k1, k2, k3, k4⟩ = pc) := Lib.hid (by rw [hpc]; exact HYB.out (Or.inr HOK.out.symm))
      clear hpc HYA HYB HY HOK
      cases pc with
      | none =>
        have K3H := Lib.hid K3
        have HE : Hid (pktD self mtu most L c gen now b = (dropP 10, L)) := Lib.hid (by rw [HPK.out _ HCP.out]; rfl)
        clear K3 HPK HCMH
        go_wp2_with fail
        generalize hW3 : (w3.alloc (.cells #[.int .i64 y0, .int .u32 y1, .int .i64 y2] 33)) = wC at *
        generalize w3.heap.size = g5 at *
        refine K3H.out.mono ?_
        rintro e w4 ⟨rfl, ho⟩
        clear K3H e0 e1 e2 e3 e4
        simp only [Option.getD_none, Option.isSome_none]
        have ho5 := ho.setFull 3 rfl (xs := [.int .i64 0, .int .u32 0, .int .i64 0]) (b := g5) (C := #[.int .i64 y0, .int .u32 y1, .int .i64 y2]) (T := 33) rfl
        have hT : In F0 w0 (w4.setCells g5 0 [.int .i64 0, .int .u32 0, .int .i64 0]) (Cells g5 #[.int .i64 0, .int .u32 0, .int .i64 0] 33 :: Cells g4 #[.int .u32 f0, .int .u32 f1, .int .i64 f2, .int .i64 f3, .int .i64 f4, .int .i64 fbk, .int .i64 fgen, .int .i64 fseen] 49 :: Cells (g2 + 1) (hC a0 a1 a2 a3 a4 a5 a6 a7 a8 a9 a10) 84 :: Cells g2 #[.int .u32 k0, .int .u32 k1, .int .i64 k2, .int .i64 k3, .int .i64 k4] 24 :: Cells (g + 1) (plC 0 0 0 (.slice none 0 0) (.slice none 0 0)) 43 :: Cells g (cfC self sl fl idle0 mtu sg qu ve) 46 :: FA bt most idle L :: ChL cb c vl vt R) := ho5.sel2 (R1 := [_, _, _, _, _, _, _, _, _, _]) [3, 4, 5, 6, 7, 8, 9, 0, 1, 2] (by decide) rfl
        have ht := there_of (ho.block 3 rfl)
        clear ho ho5
        go_wp2_with (refine wpList_store_mid (op := ⟨none, Op.store 33 (.tmp 18) (.tmp 71), _, _, _, _⟩) (by rfl) 33 (.tmp 18) (.tmp 71) rfl g5 0 (encBa zBk) (by rfl) (by rfl) ht (by kernel_rfl) (encBa_all _ _ _) ?_)
        have hT2 : In F0 w0 (w4.setCells g5 0 (encBa zBk).toList) (Cells g5 #[.int .i64 0, .int .u32 0, .int .i64 0] 33 :: Cells g4 #[.int .u32 f0, .int .u32 f1, .int .i64 f2, .int .i64 f3, .int .i64 f4, .int .i64 fbk, .int .i64 fgen, .int .i64 fseen] 49 :: Cells (g2 + 1) (hC a0 a1 a2 a3 a4 a5 a6 a7 a8 a9 a10) 84 :: Cells g2 #[.int .u32 k0, .int .u32 k1, .int .i64 k2, .int .i64 k3, .int .i64 k4] 24 :: Cells (g + 1) (plC 0 0 0 (.slice none 0 0) (.slice none 0 0)) 43 :: Cells g (cfC self sl fl idle0 mtu sg qu ve) 46 :: FA bt most idle L :: ChL cb c vl vt R) := hT
        clear hT
        refine (pa_drop 10 _).mono ?_
        rintro e w9 ⟨rfl, rfl⟩
        obtain ⟨p1, p2, p3⟩ := pkt_end (p := dropP 10) rfl rfl 4 rfl (hT2.alloc (.cells (plC 1 10 0 (.slice none 0 0) (.slice none 0 0)) 43)) rfl (fun X => ⟨[_, _, _, _, X, _], List.Perm.refl _⟩)
        have HP := Lib.hid p3
        have HB2 := Lib.hid p2
        clear p2 p3
        go_wp2_with (refine wpList_store_mid (op := ⟨none, Op.store 43 (.tmp 12) (.tmp 75), _, _, _, _⟩) (by rfl) 43 (.tmp 12) (.tmp 75) rfl (g + 1) 0 (plC 1 10 0 (.slice none 0 0) (.slice none 0 0)) (by rfl) (by rfl) p1 (by kernel_rfl) (plC_all _ _ _ _ _ _ _ _ _) ?_)
        exact bodyPost_ret (results_cell_row Tryz.results12 _ _ (g + 1) 43 _ (0, 0) _ rfl HB2.out Tryz.underlying43 rfl (by kernel_rfl)) rfl (by rw [HE.out]; exact HP.out)
      | some yy =>
        obtain ⟨z0, z1, z2⟩ := yy
        have K3H := Lib.hid K3
        clear K3
        go_wp2_with fail
        generalize hW3 : (w3.alloc (.cells #[.int .i64 y0, .int .u32 y1, .int .i64 y2] 33)) = wC at *
        generalize w3.heap.size = g5 at *
        refine K3H.out.mono ?_
        rintro e w4 ⟨rfl, ho⟩
        clear K3H e0 e1 e2 e3 e4
        simp only [Option.getD_some, Option.isSome_some]
        have ho5 := ho.setFull 3 rfl (xs := [.int .i64 z0, .int .u32 z1, .int .i64 z2]) (b := g5) (C := #[.int .i64 y0, .int .u32 y1, .int .i64 y2]) (T := 33) rfl
        have hT : In F0 w0 (w4.setCells g5 0 [.int .i64 z0, .int .u32 z1, .int .i64 z2]) (Cells g5 #[.int .i64 z0, .int .u32 z1, .int .i64 z2] 33 :: Cells g4 #[.int .u32 f0, .int .u32 f1, .int .i64 f2, .int .i64 f3, .int .i64 f4, .int .i64 fbk, .int .i64 fgen, .int .i64 fseen] 49 :: Cells (g2 + 1) (hC a0 a1 a2 a3 a4 a5 a6 a7 a8 a9 a10) 84 :: Cells g2 #[.int .u32 k0, .int .u32 k1, .int .i64 k2, .int .i64 k3, .int .i64 k4] 24 :: Cells (g + 1) (plC 0 0 0 (.slice none 0 0) (.slice none 0 0)) 43 :: Cells g (cfC self sl fl idle0 mtu sg qu ve) 46 :: FA bt most idle L :: ChL cb c vl vt R) := ho5.sel2 (R1 := [_, _, _, _, _, _, _, _, _, _]) [3, 4, 5, 6, 7, 8, 9, 0, 1, 2] (by decide) rfl
        have ht := there_of (ho.block 3 rfl)
        clear ho ho5
        have HCO := HCP
        clear HCP
        have K4 := o_enwrap hT (HBY.out.moreL [_, _, _, _, _, _, _, _, _, _]) HBL.out mtu HSF.out.1 HSF.out.2 (dst := z1) (HWF.out _ (HCMH.out _ HCO.out)).1 (HWF.out _ (HCMH.out _ HCO.out)).2
        have HPK3 := HPK.out _ HCO.out
        clear HPK
        unfold WrapPost at K4
        unfold pktOf at HPK3
        rw [if_neg (by decide)] at HPK3
        simp only at HPK3
        generalize wrapD b self z1 mtu = wp at *
        obtain ⟨pk, rs⟩ := wp
        simp only at HPK3 K4
        have K4H := Lib.hid K4
        have HPK3H := Lib.hid HPK3
        have s0 : (w4.setCells g5 0 [.int .i64 z0, .int .u32 z1, .int .i64 z2]).cell? ⟨g, 0, none⟩ = some (.int .u32 self) := cell_of (hT.block 5 rfl) rfl
        have s1 : (w4.setCells g5 0 [.int .i64 z0, .int .u32 z1, .int .i64 z2]).cell? ⟨g, 1, none⟩ = some (.int .i64 sl) := cell_of (hT.block 5 rfl) rfl
        have s2 : (w4.setCells g5 0 [.int .i64 z0, .int .u32 z1, .int .i64 z2]).cell? ⟨g, 2, none⟩ = some (.int .i64 fl) := cell_of (hT.block 5 rfl) rfl
        have s3 : (w4.setCells g5 0 [.int .i64 z0, .int .u32 z1, .int .i64 z2]).cell? ⟨g, 3, none⟩ = some (.int .i64 idle0) := cell_of (hT.block 5 rfl) rfl
        have s4 : (w4.setCells g5 0 [.int .i64 z0, .int .u32 z1, .int .i64 z2]).cell? ⟨g, 4, none⟩ = some (.int .i64 mtu) := cell_of (hT.block 5 rfl) rfl
        have s5 : (w4.setCells g5 0 [.int .i64 z0, .int .u32 z1, .int .i64 z2]).cell? ⟨g, 5, none⟩ = some (.int .i64 sg) := cell_of (hT.block 5 rfl) rfl
        have s6 : (w4.setCells g5 0 [.int .i64 z0, .int .u32 z1, .int .i64 z2]).cell? ⟨g, 6, none⟩ = some (.int .i64 qu) := cell_of (hT.block 5 rfl) rfl
        have s7 : (w4.setCells g5 0 [.int .i64 z0, .int .u32 z1, .int .i64 z2]).cell? ⟨g, 7, none⟩ = some (.int .i64 ve) := cell_of (hT.block 5 rfl) rfl
        have t0 : (w4.setCells g5 0 [.int .i64 z0, .int .u32 z1, .int .i64 z2]).cell? ⟨g5, 0, none⟩ = some (.int .i64 z0) := cell_of (hT.block 0 rfl) rfl
        have t1 : (w4.setCells g5 0 [.int .i64 z0, .int .u32 z1, .int .i64 z2]).cell? ⟨g5, 1, none⟩ = some (.int .u32 z1) := cell_of (hT.block 0 rfl) rfl
        have t2 : (w4.setCells g5 0 [.int .i64 z0, .int .u32 z1, .int .i64 z2]).cell? ⟨g5, 2, none⟩ = some (.int .i64 z2) := cell_of (hT.block 0 rfl) rfl
        clear K4 hT HPK3
        go_wp2_with (refine wpList_store_mid (op := ⟨none, Op.store 33 (.tmp 18) (.tmp 71), _, _, _, _⟩) (by rfl) 33 (.tmp 18) (.tmp 71) rfl g5 0 (encBa ⟨z0, z1, z2⟩) (by rfl) (by rfl) ht (by kernel_rfl) (encBa_all _ _ _) ?_)
        clear ht
        generalize (w4.setCells g5 0 [.int .i64 z0, .int .u32 z1, .int .i64 z2]) = wT at *
        refine K4H.out.mono ?_
        rintro e w5 ⟨v5, rfl, ho⟩
        clear K4H s0 s1 s2 s3 s4 s5 s6 s7 t0 t1 t2
        obtain ⟨pa5, pn5, rfl⟩ := ByR.shape ho
        have HPK3 := HPK3H.out
        clear HPK3H
        by_cases hrs : rs ≠ 0
        · have hqr : (rs != 0) = true := by rw [bne_iff_ne]; exact hrs
          have HE : Hid (pktD self mtu most L c gen now b = (dropP rs, L)) := Lib.hid (by rw [HPK3, if_pos hrs])
          clear HPK3 hrs
          go_wp2_with fail
          refine (pa_drop rs _).mono ?_
          rintro e w9 ⟨rfl, rfl⟩
          obtain ⟨p1, p2, p3⟩ := pkt_end (p := dropP rs) rfl rfl 5 rfl (ho.alloc (.cells (plC 1 rs 0 (.slice none 0 0) (.slice none 0 0)) 43)) rfl (fun X => ⟨[_, _, _, _, _, X, _], List.Perm.refl _⟩)
          have HP := Lib.hid p3
          have HB2 := Lib.hid p2
          clear p2 p3
          go_wp2_with (refine wpList_store_mid (op := ⟨none, Op.store 43 (.tmp 12) (.tmp 90), _, _, _, _⟩) (by rfl) 43 (.tmp 12) (.tmp 90) rfl (g + 1) 0 (plC 1 rs 0 (.slice none 0 0) (.slice none 0 0)) (by rfl) (by rfl) p1 (by kernel_rfl) (plC_all _ _ _ _ _ _ _ _ _) ?_)
          exact bodyPost_ret (results_cell_row Tryz.results12 _ _ (g + 1) 43 _ (0, 0) _ rfl HB2.out Tryz.underlying43 rfl (by kernel_rfl)) rfl (by rw [HE.out]; exact HP.out)
        · have hqr : (rs != 0) = false := by rw [bne_eq_false_iff_eq]; exact Decidable.not_not.1 hrs
          rw [if_neg hrs] at HPK3
          obtain ⟨en, hen⟩ : ∃ en, en = endsD ⟨k0, k1, k2, k3, k4⟩ b := ⟨_, rfl⟩
          rw [← hen] at HPK3
          have HEN := Lib.hid hen.symm
          clear hen
          have HPKF := Lib.hid HPK3
          have h6 := (ho.cells #[.int .i64 2, .int .i64 0, .int .i64 z0, .slice pa5 pk.length pn5] 40).cells #[.int .u32 k0, .int .u32 k1, .int .i64 k2, .int .i64 k3, .int .i64 k4, .int .i64 z0, .int .i64 gen, .int .i64 now] 49
          simp only [World.size_alloc] at h6
          have t0 : w5.cell? ⟨g5, 0, none⟩ = some (.int .i64 z0) := cell_of (ho.block 1 rfl) rfl
          have t1 : w5.cell? ⟨g5, 1, none⟩ = some (.int .u32 z1) := cell_of (ho.block 1 rfl) rfl
          have t2 : w5.cell? ⟨g5, 2, none⟩ = some (.int .i64 z2) := cell_of (ho.block 1 rfl) rfl
          have h5 := ho.alloc (.cells #[.int .i64 2, .int .i64 0, .int .i64 z0, .slice pa5 pk.length pn5] 40)
          have e0 : (w5.alloc (.cells #[.int .i64 2, .int .i64 0, .int .i64 z0, .slice pa5 pk.length pn5] 40)).cell? ⟨g2, 0, none⟩ = some (.int .u32 k0) := cell_of (h5.block 4 rfl) rfl
          have e1 : (w5.alloc (.cells #[.int .i64 2, .int .i64 0, .int .i64 z0, .slice pa5 pk.length pn5] 40)).cell? ⟨g2, 1, none⟩ = some (.int .u32 k1) := cell_of (h5.block 4 rfl) rfl
          have e2 : (w5.alloc (.cells #[.int .i64 2, .int .i64 0, .int .i64 z0, .slice pa5 pk.length pn5] 40)).cell? ⟨g2, 2, none⟩ = some (.int .i64 k2) := cell_of (h5.block 4 rfl) rfl
          have e3 : (w5.alloc (.cells #[.int .i64 2, .int .i64 0, .int .i64 z0, .slice pa5 pk.length pn5] 40)).cell? ⟨g2, 3, none⟩ = some (.int .i64 k3) := cell_of (h5.block 4 rfl) rfl
          have e4 : (w5.alloc (.cells #[.int .i64 2, .int .i64 0, .int .i64 z0, .slice pa5 pk.length pn5] 40)).cell? ⟨g2, 4, none⟩ = some (.int .i64 k4) := cell_of (h5.block 4 rfl) rfl
          have tt0 : (w5.alloc (.cells #[.int .i64 2, .int .i64 0, .int .i64 z0, .slice pa5 pk.length pn5] 40)).cell? ⟨g5, 0, none⟩ = some (.int .i64 z0) := cell_of (h5.block 1 rfl) rfl
          have tt1 : (w5.alloc (.cells #[.int .i64 2, .int .i64 0, .int .i64 z0, .slice pa5 pk.length pn5] 40)).cell? ⟨g5, 1, none⟩ = some (.int .u32 z1) := cell_of (h5.block 1 rfl) rfl
          have tt2 : (w5.alloc (.cells #[.int .i64 2, .int .i64 0, .int .i64 z0, .slice pa5 pk.length pn5] 40)).cell? ⟨g5, 2, none⟩ = some (.int .i64 z2) := cell_of (h5.block 1 rfl) rfl
          clear HPK3 h5 ho hrs
          go_upto_region 17 with fail
          generalize w5.heap.size = g6 at *
          generalize ((w5.alloc (.cells #[.int .i64 2, .int .i64 0, .int .i64 z0, .slice pa5 pk.length pn5] 40)).alloc (.cells #[.int .u32 k0, .int .u32 k1, .int .i64 k2, .int .i64 k3, .int .i64 k4, .int .i64 z0, .int .i64 gen, .int .i64 now] 49)) = V at *
          clear e0 e1 e2 e3 e4 t0 t1 t2 tt0 tt1 tt2
          have hd : In F0 w0 V.drew (Cells (g6 + 1) #[.int .u32 k0, .int .u32 k1, .int .i64 k2, .int .i64 k3, .int .i64 k4, .int .i64 z0, .int .i64 gen, .int .i64 now] 49 :: Cells g6 #[.int .i64 2, .int .i64 0, .int .i64 z0, .slice pa5 pk.length pn5] 40 :: ByR (.slice pa5 pk.length pn5) pk :: Cells g5 #[.int .i64 z0, .int .u32 z1, .int .i64 z2] 33 :: Cells g4 #[.int .u32 f0, .int .u32 f1, .int .i64 f2, .int .i64 f3, .int .i64 f4, .int .i64 fbk, .int .i64 fgen, .int .i64 fseen] 49 :: Cells (g2 + 1) (hC a0 a1 a2 a3 a4 a5 a6 a7 a8 a9 a10) 84 :: Cells g2 #[.int .u32 k0, .int .u32 k1, .int .i64 k2, .int .i64 k3, .int .i64 k4] 24 :: Cells (g + 1) (plC 0 0 0 (.slice none 0 0) (.slice none 0 0)) 43 :: Cells g (cfC self sl fl idle0 mtu sg qu ve) 46 :: FA bt most idle L :: ChL cb c vl vt R) := h6.drewN 1
          have HD := Lib.hid hd
          have KE0 := o_ptends (b := b) hd ⟨k0, k1, k2, k3, k4⟩ (HBY.out.moreL [_, _, _, _, _, _, _, _, _, _, _, _, _]) HBL.out
          have KE : Hid (Calls Tryz.prog 44 #[.agg (encT ⟨k0, k1, k2, k3, k4⟩), .slice A b.length n] V.drew fun e w' => e = .returned (.bool en) ∧ In F0 w0 w' (Cells (g6 + 1) #[.int .u32 k0, .int .u32 k1, .int .i64 k2, .int .i64 k3, .int .i64 k4, .int .i64 z0, .int .i64 gen, .int .i64 now] 49 :: Cells g6 #[.int .i64 2, .int .i64 0, .int .i64 z0, .slice pa5 pk.length pn5] 40 :: ByR (.slice pa5 pk.length pn5) pk :: Cells g5 #[.int .i64 z0, .int .u32 z1, .int .i64 z2] 33 :: Cells g4 #[.int .u32 f0, .int .u32 f1, .int .i64 f2, .int .i64 f3, .int .i64 f4, .int .i64 fbk, .int .i64 fgen, .int .i64 fseen] 49 :: Cells (g2 + 1) (hC a0 a1 a2 a3 a4 a5 a6 a7 a8 a9 a10) 84 :: Cells g2 #[.int .u32 k0, .int .u32 k1, .int .i64 k2, .int .i64 k3, .int .i64 k4] 24 :: Cells (g + 1) (plC 0 0 0 (.slice none 0 0) (.slice none 0 0)) 43 :: Cells g (cfC self sl fl idle0 mtu sg qu ve) 46 :: FA bt most idle L :: ChL cb c vl vt R)) := Lib.hid (by rw [HEN.out] at KE0; exact KE0)
          have KK := Lib.hid (fun w' (h' : In F0 w0 w' (Cells (g6 + 1) #[.int .u32 k0, .int .u32 k1, .int .i64 k2, .int .i64 k3, .int .i64 k4, .int .i64 z0, .int .i64 gen, .int .i64 now] 49 :: Cells g6 #[.int .i64 2, .int .i64 0, .int .i64 z0, .slice pa5 pk.length pn5] 40 :: ByR (.slice pa5 pk.length pn5) pk :: Cells g5 #[.int .i64 z0, .int .u32 z1, .int .i64 z2] 33 :: Cells g4 #[.int .u32 f0, .int .u32 f1, .int .i64 f2, .int .i64 f3, .int .i64 f4, .int .i64 fbk, .int .i64 fgen, .int .i64 fseen] 49 :: Cells (g2 + 1) (hC a0 a1 a2 a3 a4 a5 a6 a7 a8 a9 a10) 84 :: Cells g2 #[.int .u32 k0, .int .u32 k1, .int .i64 k2, .int .i64 k3, .int .i64 k4] 24 :: Cells (g + 1) (plC 0 0 0 (.slice none 0 0) (.slice none 0 0)) 43 :: Cells g (cfC self sl fl idle0 mtu sg qu ve) 46 :: FA bt most idle L :: ChL cb c vl vt R)) => o_pakeep h' 9 rfl (f := ⟨⟨k0, k1, k2, k3, k4⟩, z0, gen, now⟩) WK.out true fbk en)
          clear KE0 h6 hd
          generalize keepD most L ⟨⟨k0, k1, k2, k3, k4⟩, z0, gen, now⟩ true fbk en = kr at *
          obtain ⟨krr, krl⟩ := kr
          refine e_start (fun w' => w'.cell? ⟨g6, 0, none⟩ = some (.int .i64 2) ∧ w'.cell? ⟨g6, 1, none⟩ = some (.int .i64 0) ∧ w'.cell? ⟨g6, 2, none⟩ = some (.int .i64 z0) ∧ w'.cell? ⟨g6, 3, none⟩ = some (.slice pa5 pk.length pn5) ∧ w'.cell? ⟨g6 + 1, 0, none⟩ = some (.int .u32 k0) ∧ w'.cell? ⟨g6 + 1, 1, none⟩ = some (.int .u32 k1) ∧ w'.cell? ⟨g6 + 1, 2, none⟩ = some (.int .i64 k2) ∧ w'.cell? ⟨g6 + 1, 3, none⟩ = some (.int .i64 k3) ∧ w'.cell? ⟨g6 + 1, 4, none⟩ = some (.int .i64 k4) ∧ w'.cell? ⟨g6 + 1, 5, none⟩ = some (.int .i64 z0) ∧ w'.cell? ⟨g6 + 1, 6, none⟩ = some (.int .i64 gen) ∧ w'.cell? ⟨g6 + 1, 7, none⟩ = some (.int .i64 now) ∧ w'.cell? ⟨g4, 5, none⟩ = some (.int .i64 fbk) ∧ w'.cell? ⟨g2, 0, none⟩ = some (.int .u32 k0) ∧ w'.cell? ⟨g2, 1, none⟩ = some (.int .u32 k1) ∧ w'.cell? ⟨g2, 2, none⟩ = some (.int .i64 k2) ∧ w'.cell? ⟨g2, 3, none⟩ = some (.int .i64 k3) ∧ w'.cell? ⟨g2, 4, none⟩ = some (.int .i64 k4) ∧ w'.there (g + 1) 0 5) (by kernel_rfl) ⟨cell_of (HD.out.block 1 rfl) rfl, cell_of (HD.out.block 1 rfl) rfl, cell_of (HD.out.block 1 rfl) rfl, cell_of (HD.out.block 1 rfl) rfl, cell_of (HD.out.block 0 rfl) rfl, cell_of (HD.out.block 0 rfl) rfl, cell_of (HD.out.block 0 rfl) rfl, cell_of (HD.out.block 0 rfl) rfl, cell_of (HD.out.block 0 rfl) rfl, cell_of (HD.out.block 0 rfl) rfl, cell_of (HD.out.block 0 rfl) rfl, cell_of (HD.out.block 0 rfl) rfl, cell_of (HD.out.block 4 rfl) rfl, cell_of (HD.out.block 6 rfl) rfl, cell_of (HD.out.block 6 rfl) rfl, cell_of (HD.out.block 6 rfl) rfl, cell_of (HD.out.block 6 rfl) rfl, cell_of (HD.out.block 6 rfl) rfl, there_of (HD.out.block 7 rfl)⟩ (fun hS => ?_)
          refine e_take (i := 0) (v := ?_) rfl (by kernel_rfl) (fun _ _ _ h => h) (by rfl) ?_ hS ?_
          rotate_left
          · (intro w hSw; (try dsimp only at hSw); go_simp; try with_reducible rfl)
          try simp only [Act.put, List.setIfInBounds_toArray, List.set_cons_zero, List.set_cons_succ]
          refine e_take (i := 1) (v := ?_) rfl (by kernel_rfl) (fun _ _ _ h => h) (by rfl) ?_ hS ?_
          rotate_left
          · (intro w hSw; (try dsimp only at hSw); go_simp; try with_reducible rfl)
          try simp only [Act.put, List.setIfInBounds_toArray, List.set_cons_zero, List.set_cons_succ]
          refine e_take (i := 2) (v := ?_) rfl (by kernel_rfl) (fun _ _ _ h => h) (by rfl) ?_ hS ?_
          rotate_left
          · (intro w hSw; (try dsimp only at hSw); go_simp; try with_reducible rfl)
          try simp only [Act.put, List.setIfInBounds_toArray, List.set_cons_zero, List.set_cons_succ]
          refine e_take (i := 3) (v := ?_) rfl (by kernel_rfl) (fun _ _ _ h => h) (by rfl) ?_ hS ?_
          rotate_left
          · (intro w hSw; (try dsimp only at hSw); go_simp; try with_reducible rfl)
          try simp only [Act.put, List.setIfInBounds_toArray, List.set_cons_zero, List.set_cons_succ]
          refine e_take (i := 4) (v := ?_) rfl (by kernel_rfl) (fun _ _ _ h => h) (by rfl) ?_ hS ?_
          rotate_left
          · (intro w hSw; (try dsimp only at hSw); go_simp; try with_reducible rfl)
          try simp only [Act.put, List.setIfInBounds_toArray, List.set_cons_zero, List.set_cons_succ]
          refine e_take (i := 5) (v := ?_) rfl (by kernel_rfl) (fun _ _ _ h => h) (by rfl) ?_ hS ?_
          rotate_left
          · (intro w hSw; (try dsimp only at hSw); go_simp; try with_reducible rfl)
          try simp only [Act.put, List.setIfInBounds_toArray, List.set_cons_zero, List.set_cons_succ]
          refine e_take (i := 6) (v := ?_) rfl (by kernel_rfl) (fun _ _ _ h => h) (by rfl) ?_ hS ?_
          rotate_left
          · (intro w hSw; (try dsimp only at hSw); go_simp; try with_reducible rfl)
          try simp only [Act.put, List.setIfInBounds_toArray, List.set_cons_zero, List.set_cons_succ]
          refine e_take (i := 7) (v := ?_) rfl (by kernel_rfl) (fun _ _ _ h => h) (by rfl) ?_ hS ?_
          rotate_left
          · (intro w hSw; (try dsimp only at hSw); go_simp; try with_reducible rfl)
          try simp only [Act.put, List.setIfInBounds_toArray, List.set_cons_zero, List.set_cons_succ]
          refine e_pin (i := 8) rfl (by kernel_rfl) (fun K' hK => ?_)
          go_simp
          go_at_call 44
          refine KE.out.mono ?_
          rintro e w6 ⟨rfl, ho6⟩
          have HO6 := Lib.hid ho6
          have hS6 : w6.cell? ⟨g6, 0, none⟩ = some (.int .i64 2) ∧ w6.cell? ⟨g6, 1, none⟩ = some (.int .i64 0) ∧ w6.cell? ⟨g6, 2, none⟩ = some (.int .i64 z0) ∧ w6.cell? ⟨g6, 3, none⟩ = some (.slice pa5 pk.length pn5) ∧ w6.cell? ⟨g6 + 1, 0, none⟩ = some (.int .u32 k0) ∧ w6.cell? ⟨g6 + 1, 1, none⟩ = some (.int .u32 k1) ∧ w6.cell? ⟨g6 + 1, 2, none⟩ = some (.int .i64 k2) ∧ w6.cell? ⟨g6 + 1, 3, none⟩ = some (.int .i64 k3) ∧ w6.cell? ⟨g6 + 1, 4, none⟩ = some (.int .i64 k4) ∧ w6.cell? ⟨g6 + 1, 5, none⟩ = some (.int .i64 z0) ∧ w6.cell? ⟨g6 + 1, 6, none⟩ = some (.int .i64 gen) ∧ w6.cell? ⟨g6 + 1, 7, none⟩ = some (.int .i64 now) ∧ w6.cell? ⟨g4, 5, none⟩ = some (.int .i64 fbk) ∧ w6.cell? ⟨g2, 0, none⟩ = some (.int .u32 k0) ∧ w6.cell? ⟨g2, 1, none⟩ = some (.int .u32 k1) ∧ w6.cell? ⟨g2, 2, none⟩ = some (.int .i64 k2) ∧ w6.cell? ⟨g2, 3, none⟩ = some (.int .i64 k3) ∧ w6.cell? ⟨g2, 4, none⟩ = some (.int .i64 k4) ∧ w6.there (g + 1) 0 5 := ⟨cell_of (HO6.out.block 1 rfl) rfl, cell_of (HO6.out.block 1 rfl) rfl, cell_of (HO6.out.block 1 rfl) rfl, cell_of (HO6.out.block 1 rfl) rfl, cell_of (HO6.out.block 0 rfl) rfl, cell_of (HO6.out.block 0 rfl) rfl, cell_of (HO6.out.block 0 rfl) rfl, cell_of (HO6.out.block 0 rfl) rfl, cell_of (HO6.out.block 0 rfl) rfl, cell_of (HO6.out.block 0 rfl) rfl, cell_of (HO6.out.block 0 rfl) rfl, cell_of (HO6.out.block 0 rfl) rfl, cell_of (HO6.out.block 4 rfl) rfl, cell_of (HO6.out.block 6 rfl) rfl, cell_of (HO6.out.block 6 rfl) rfl, cell_of (HO6.out.block 6 rfl) rfl, cell_of (HO6.out.block 6 rfl) rfl, cell_of (HO6.out.block 6 rfl) rfl, there_of (HO6.out.block 7 rfl)⟩
          clear ho6 hS
          refine hK.out _ _ hS6 (fun hS => ?_)
          clear hK K' hS6
          try simp only [Act.put, List.setIfInBounds_toArray, List.set_cons_zero, List.set_cons_succ]
          refine e_pin (i := 9) rfl (by kernel_rfl) (fun K' hK => ?_)
          go_simp
          go_at_call 43
          refine (KK.out _ HO6.out).mono ?_
          rintro e w7 ⟨v7, rfl, ho7⟩
          obtain ⟨F7, r7⟩ := ho7.get 0 rfl
          obtain ⟨pa7, pn7, rfl, -, -, -⟩ := RowA.shape r7
          have ho8 : In F0 w0 w7 (RecR (.slice pa7 krr.length pn7) krr :: Cells (g6 + 1) #[.int .u32 k0, .int .u32 k1, .int .i64 k2, .int .i64 k3, .int .i64 k4, .int .i64 z0, .int .i64 gen, .int .i64 now] 49 :: Cells g6 #[.int .i64 2, .int .i64 0, .int .i64 z0, .slice pa5 pk.length pn5] 40 :: ByR (.slice pa5 pk.length pn5) pk :: Cells g5 #[.int .i64 z0, .int .u32 z1, .int .i64 z2] 33 :: Cells g4 #[.int .u32 f0, .int .u32 f1, .int .i64 f2, .int .i64 f3, .int .i64 f4, .int .i64 fbk, .int .i64 fgen, .int .i64 fseen] 49 :: Cells (g2 + 1) (hC a0 a1 a2 a3 a4 a5 a6 a7 a8 a9 a10) 84 :: Cells g2 #[.int .u32 k0, .int .u32 k1, .int .i64 k2, .int .i64 k3, .int .i64 k4] 24 :: Cells (g + 1) (plC 0 0 0 (.slice none 0 0) (.slice none 0 0)) 43 :: Cells g (cfC self sl fl idle0 mtu sg qu ve) 46 :: FA bt most idle krl :: ChL cb c vl vt R) := ho7
          have HO8 := Lib.hid ho8
          have G0 := ho8.setFull 8 rfl (xs := (plC 2 0 z0 (.slice pa5 pk.length pn5) (.slice pa7 krr.length pn7)).toList) (b := g + 1) (C := (plC 0 0 0 (.slice none 0 0) (.slice none 0 0))) (T := 43) rfl
          have hb9 := G0.block 8 rfl
          have HB9 := Lib.hid hb9
          have HG9 := Lib.hid (G0.sel2 (R1 := [_, _, _, _, _, _, _, _, _, _, _, _, _, _]) [3, 0, 10, 11, 12, 13] (by decide) rfl)
          have hS7 : w7.cell? ⟨g6, 0, none⟩ = some (.int .i64 2) ∧ w7.cell? ⟨g6, 1, none⟩ = some (.int .i64 0) ∧ w7.cell? ⟨g6, 2, none⟩ = some (.int .i64 z0) ∧ w7.cell? ⟨g6, 3, none⟩ = some (.slice pa5 pk.length pn5) ∧ w7.cell? ⟨g6 + 1, 0, none⟩ = some (.int .u32 k0) ∧ w7.cell? ⟨g6 + 1, 1, none⟩ = some (.int .u32 k1) ∧ w7.cell? ⟨g6 + 1, 2, none⟩ = some (.int .i64 k2) ∧ w7.cell? ⟨g6 + 1, 3, none⟩ = some (.int .i64 k3) ∧ w7.cell? ⟨g6 + 1, 4, none⟩ = some (.int .i64 k4) ∧ w7.cell? ⟨g6 + 1, 5, none⟩ = some (.int .i64 z0) ∧ w7.cell? ⟨g6 + 1, 6, none⟩ = some (.int .i64 gen) ∧ w7.cell? ⟨g6 + 1, 7, none⟩ = some (.int .i64 now) ∧ w7.cell? ⟨g4, 5, none⟩ = some (.int .i64 fbk) ∧ w7.cell? ⟨g2, 0, none⟩ = some (.int .u32 k0) ∧ w7.cell? ⟨g2, 1, none⟩ = some (.int .u32 k1) ∧ w7.cell? ⟨g2, 2, none⟩ = some (.int .i64 k2) ∧ w7.cell? ⟨g2, 3, none⟩ = some (.int .i64 k3) ∧ w7.cell? ⟨g2, 4, none⟩ = some (.int .i64 k4) ∧ w7.there (g + 1) 0 5 := ⟨cell_of (HO8.out.block 2 rfl) rfl, cell_of (HO8.out.block 2 rfl) rfl, cell_of (HO8.out.block 2 rfl) rfl, cell_of (HO8.out.block 2 rfl) rfl, cell_of (HO8.out.block 1 rfl) rfl, cell_of (HO8.out.block 1 rfl) rfl, cell_of (HO8.out.block 1 rfl) rfl, cell_of (HO8.out.block 1 rfl) rfl, cell_of (HO8.out.block 1 rfl) rfl, cell_of (HO8.out.block 1 rfl) rfl, cell_of (HO8.out.block 1 rfl) rfl, cell_of (HO8.out.block 1 rfl) rfl, cell_of (HO8.out.block 5 rfl) rfl, cell_of (HO8.out.block 7 rfl) rfl, cell_of (HO8.out.block 7 rfl) rfl, cell_of (HO8.out.block 7 rfl) rfl, cell_of (HO8.out.block 7 rfl) rfl, cell_of (HO8.out.block 7 rfl) rfl, there_of (HO8.out.block 8 rfl)⟩
          clear ho7 r7 ho8 hS G0 hb9
          refine hK.out _ _ hS7 (fun hS => ?_)
          clear hK K' hS7
          try simp only [Act.put, List.setIfInBounds_toArray, List.set_cons_zero, List.set_cons_succ]
          refine e_take (i := 10) (v := ?_) rfl (by kernel_rfl) (fun _ _ _ h => h) (by rfl) ?_ hS ?_
          rotate_left
          · (intro w hSw; (try dsimp only at hSw); go_simp; try with_reducible rfl)
          try simp only [Act.put, List.setIfInBounds_toArray, List.set_cons_zero, List.set_cons_succ]
          refine e_last (i := 11) rfl (by kernel_rfl) (fun K' hK => ?_)
          refine store_step (by rfl) 43 (.tmp 12) (.tmp 111) (by rfl) (g + 1) 0 (plC 2 0 z0 (.slice pa5 pk.length pn5) (.slice pa7 krr.length pn7)) (by rfl) (by rfl) (there_of (C := (plC 0 0 0 (.slice none 0 0) (.slice none 0 0))) (T := 43) (HO8.out.block 8 rfl)) (by kernel_rfl) (plC_all _ _ _ _ _ _ _ _ _) ?_
          refine hK.out _ _ ?_
          clear hK K' hS
          go_wp2_with fail
          exact bodyPost_ret (results_cell_row Tryz.results12 _ _ (g + 1) 43 _ (0, 0) _ rfl HB9.out Tryz.underlying43 rfl (by kernel_rfl)) rfl (by rw [HPKF.out]; exact ⟨_, _, rfl, HG9.out⟩)
    | true =>
      have HCO : Hid (choiceD L c ⟨k0, k1, k2, k3, k4⟩ = some ⟨y0, y1, y2⟩) := Lib.hid (by
        have h1 := HYA.out rfl HOK.out.symm
        have h2 := HY.out
        have h3 := HOK.out
        cases fb with
        | none => cases h3
        | some z => rw [h1]; simp only [Option.getD_some] at h2; rw [h2])
      clear hPI HYA HYB HY HOK e0 e1 e2 e3 e4
      have hT := hTL
      clear hTL
      have K4 := o_enwrap hT (HBY.out.moreL [_, _, _, _, _, _, _, _, _, _]) HBL.out mtu HSF.out.1 HSF.out.2 (dst := y1) (HWF.out _ (HCMH.out _ HCO.out)).1 (HWF.out _ (HCMH.out _ HCO.out)).2
      have HPK3 := HPK.out _ HCO.out
      clear HPK
      unfold WrapPost at K4
      unfold pktOf at HPK3
      rw [if_neg (by decide)] at HPK3
      simp only at HPK3
      generalize wrapD b self y1 mtu = wp at *
      obtain ⟨pk, rs⟩ := wp
      simp only at HPK3 K4
      have K4H := Lib.hid K4
      have HPK3H := Lib.hid HPK3
      have s0 : (w3.alloc (.cells #[.int .i64 y0, .int .u32 y1, .int .i64 y2] 33)).cell? ⟨g, 0, none⟩ = some (.int .u32 self) := cell_of (hT.block 5 rfl) rfl
      have s1 : (w3.alloc (.cells #[.int .i64 y0, .int .u32 y1, .int .i64 y2] 33)).cell? ⟨g, 1, none⟩ = some (.int .i64 sl) := cell_of (hT.block 5 rfl) rfl
      have s2 : (w3.alloc (.cells #[.int .i64 y0, .int .u32 y1, .int .i64 y2] 33)).cell? ⟨g, 2, none⟩ = some (.int .i64 fl) := cell_of (hT.block 5 rfl) rfl
      have s3 : (w3.alloc (.cells #[.int .i64 y0, .int .u32 y1, .int .i64 y2] 33)).cell? ⟨g, 3, none⟩ = some (.int .i64 idle0) := cell_of (hT.block 5 rfl) rfl
      have s4 : (w3.alloc (.cells #[.int .i64 y0, .int .u32 y1, .int .i64 y2] 33)).cell? ⟨g, 4, none⟩ = some (.int .i64 mtu) := cell_of (hT.block 5 rfl) rfl
      have s5 : (w3.alloc (.cells #[.int .i64 y0, .int .u32 y1, .int .i64 y2] 33)).cell? ⟨g, 5, none⟩ = some (.int .i64 sg) := cell_of (hT.block 5 rfl) rfl
      have s6 : (w3.alloc (.cells #[.int .i64 y0, .int .u32 y1, .int .i64 y2] 33)).cell? ⟨g, 6, none⟩ = some (.int .i64 qu) := cell_of (hT.block 5 rfl) rfl
      have s7 : (w3.alloc (.cells #[.int .i64 y0, .int .u32 y1, .int .i64 y2] 33)).cell? ⟨g, 7, none⟩ = some (.int .i64 ve) := cell_of (hT.block 5 rfl) rfl
      have t0 : (w3.alloc (.cells #[.int .i64 y0, .int .u32 y1, .int .i64 y2] 33)).cell? ⟨w3.heap.size, 0, none⟩ = some (.int .i64 y0) := cell_of (hT.block 0 rfl) rfl
      have t1 : (w3.alloc (.cells #[.int .i64 y0, .int .u32 y1, .int .i64 y2] 33)).cell? ⟨w3.heap.size, 1, none⟩ = some (.int .u32 y1) := cell_of (hT.block 0 rfl) rfl
      have t2 : (w3.alloc (.cells #[.int .i64 y0, .int .u32 y1, .int .i64 y2] 33)).cell? ⟨w3.heap.size, 2, none⟩ = some (.int .i64 y2) := cell_of (hT.block 0 rfl) rfl
      clear K4 hT HPK3
      go_wp2_with fail
      generalize (w3.alloc (.cells #[.int .i64 y0, .int .u32 y1, .int .i64 y2] 33)) = wT at *
      generalize w3.heap.size = g5 at *
      refine K4H.out.mono ?_
      rintro e w5 ⟨v5, rfl, ho⟩
      clear K4H s0 s1 s2 s3 s4 s5 s6 s7 t0 t1 t2
      obtain ⟨pa5, pn5, rfl⟩ := ByR.shape ho
      have HPK3 := HPK3H.out
      clear HPK3H
      by_cases hrs : rs ≠ 0
      · have hqr : (rs != 0) = true := by rw [bne_iff_ne]; exact hrs
        have HE : Hid (pktD self mtu most L c gen now b = (dropP rs, L)) := Lib.hid (by rw [HPK3, if_pos hrs])
        clear HPK3 hrs
        go_wp2_with fail
        refine (pa_drop rs _).mono ?_
        rintro e w9 ⟨rfl, rfl⟩
        obtain ⟨p1, p2, p3⟩ := pkt_end (p := dropP rs) rfl rfl 5 rfl (ho.alloc (.cells (plC 1 rs 0 (.slice none 0 0) (.slice none 0 0)) 43)) rfl (fun X => ⟨[_, _, _, _, _, X, _], List.Perm.refl _⟩)
        have HP := Lib.hid p3
        have HB2 := Lib.hid p2
        clear p2 p3
        go_wp2_with (refine wpList_store_mid (op := ⟨none, Op.store 43 (.tmp 12) (.tmp 90), _, _, _, _⟩) (by rfl) 43 (.tmp 12) (.tmp 90) rfl (g + 1) 0 (plC 1 rs 0 (.slice none 0 0) (.slice none 0 0)) (by rfl) (by rfl) p1 (by kernel_rfl) (plC_all _ _ _ _ _ _ _ _ _) ?_)
        exact bodyPost_ret (results_cell_row Tryz.results12 _ _ (g + 1) 43 _ (0, 0) _ rfl HB2.out Tryz.underlying43 rfl (by kernel_rfl)) rfl (by rw [HE.out]; exact HP.out)
      · have hqr : (rs != 0) = false := by rw [bne_eq_false_iff_eq]; exact Decidable.not_not.1 hrs
        rw [if_neg hrs] at HPK3
        obtain ⟨en, hen⟩ : ∃ en, en = endsD ⟨k0, k1, k2, k3, k4⟩ b := ⟨_, rfl⟩
        rw [← hen] at HPK3
        have HEN := Lib.hid hen.symm
        clear hen
        have HPKF := Lib.hid HPK3
        have h6 := (ho.cells #[.int .i64 2, .int .i64 0, .int .i64 y0, .slice pa5 pk.length pn5] 40).cells #[.int .u32 k0, .int .u32 k1, .int .i64 k2, .int .i64 k3, .int .i64 k4, .int .i64 y0, .int .i64 gen, .int .i64 now] 49
        simp only [World.size_alloc] at h6
        have t0 : w5.cell? ⟨g5, 0, none⟩ = some (.int .i64 y0) := cell_of (ho.block 1 rfl) rfl
        have t1 : w5.cell? ⟨g5, 1, none⟩ = some (.int .u32 y1) := cell_of (ho.block 1 rfl) rfl
        have t2 : w5.cell? ⟨g5, 2, none⟩ = some (.int .i64 y2) := cell_of (ho.block 1 rfl) rfl
        have h5 := ho.alloc (.cells #[.int .i64 2, .int .i64 0, .int .i64 y0, .slice pa5 pk.length pn5] 40)
        have e0 : (w5.alloc (.cells #[.int .i64 2, .int .i64 0, .int .i64 y0, .slice pa5 pk.length pn5] 40)).cell? ⟨g2, 0, none⟩ = some (.int .u32 k0) := cell_of (h5.block 4 rfl) rfl
        have e1 : (w5.alloc (.cells #[.int .i64 2, .int .i64 0, .int .i64 y0, .slice pa5 pk.length pn5] 40)).cell? ⟨g2, 1, none⟩ = some (.int .u32 k1) := cell_of (h5.block 4 rfl) rfl
        have e2 : (w5.alloc (.cells #[.int .i64 2, .int .i64 0, .int .i64 y0, .slice pa5 pk.length pn5] 40)).cell? ⟨g2, 2, none⟩ = some (.int .i64 k2) := cell_of (h5.block 4 rfl) rfl
        have e3 : (w5.alloc (.cells #[.int .i64 2, .int .i64 0, .int .i64 y0, .slice pa5 pk.length pn5] 40)).cell? ⟨g2, 3, none⟩ = some (.int .i64 k3) := cell_of (h5.block 4 rfl) rfl
        have e4 : (w5.alloc (.cells #[.int .i64 2, .int .i64 0, .int .i64 y0, .slice pa5 pk.length pn5] 40)).cell? ⟨g2, 4, none⟩ = some (.int .i64 k4) := cell_of (h5.block 4 rfl) rfl
        have tt0 : (w5.alloc (.cells #[.int .i64 2, .int .i64 0, .int .i64 y0, .slice pa5 pk.length pn5] 40)).cell? ⟨g5, 0, none⟩ = some (.int .i64 y0) := cell_of (h5.block 1 rfl) rfl
        have tt1 : (w5.alloc (.cells #[.int .i64 2, .int .i64 0, .int .i64 y0, .slice pa5 pk.length pn5] 40)).cell? ⟨g5, 1, none⟩ = some (.int .u32 y1) := cell_of (h5.block 1 rfl) rfl
        have tt2 : (w5.alloc (.cells #[.int .i64 2, .int .i64 0, .int .i64 y0, .slice pa5 pk.length pn5] 40)).cell? ⟨g5, 2, none⟩ = some (.int .i64 y2) := cell_of (h5.block 1 rfl) rfl
        clear HPK3 h5 ho hrs
        go_upto_region 17 with fail
        generalize w5.heap.size = g6 at *
        generalize ((w5.alloc (.cells #[.int .i64 2, .int .i64 0, .int .i64 y0, .slice pa5 pk.length pn5] 40)).alloc (.cells #[.int .u32 k0, .int .u32 k1, .int .i64 k2, .int .i64 k3, .int .i64 k4, .int .i64 y0, .int .i64 gen, .int .i64 now] 49)) = V at *
        clear e0 e1 e2 e3 e4 t0 t1 t2 tt0 tt1 tt2
        have hd : In F0 w0 V.drew (Cells (g6 + 1) #[.int .u32 k0, .int .u32 k1, .int .i64 k2, .int .i64 k3, .int .i64 k4, .int .i64 y0, .int .i64 gen, .int .i64 now] 49 :: Cells g6 #[.int .i64 2, .int .i64 0, .int .i64 y0, .slice pa5 pk.length pn5] 40 :: ByR (.slice pa5 pk.length pn5) pk :: Cells g5 #[.int .i64 y0, .int .u32 y1, .int .i64 y2] 33 :: Cells g4 #[.int .u32 f0, .int .u32 f1, .int .i64 f2, .int .i64 f3, .int .i64 f4, .int .i64 fbk, .int .i64 fgen, .int .i64 fseen] 49 :: Cells (g2 + 1) (hC a0 a1 a2 a3 a4 a5 a6 a7 a8 a9 a10) 84 :: Cells g2 #[.int .u32 k0, .int .u32 k1, .int .i64 k2, .int .i64 k3, .int .i64 k4] 24 :: Cells (g + 1) (plC 0 0 0 (.slice none 0 0) (.slice none 0 0)) 43 :: Cells g (cfC self sl fl idle0 mtu sg qu ve) 46 :: FA bt most idle L :: ChL cb c vl vt R) := h6.drewN 1
        have HD := Lib.hid hd
        have KE0 := o_ptends (b := b) hd ⟨k0, k1, k2, k3, k4⟩ (HBY.out.moreL [_, _, _, _, _, _, _, _, _, _, _, _, _]) HBL.out
        have KE : Hid (Calls Tryz.prog 44 #[.agg (encT ⟨k0, k1, k2, k3, k4⟩), .slice A b.length n] V.drew fun e w' => e = .returned (.bool en) ∧ In F0 w0 w' (Cells (g6 + 1) #[.int .u32 k0, .int .u32 k1, .int .i64 k2, .int .i64 k3, .int .i64 k4, .int .i64 y0, .int .i64 gen, .int .i64 now] 49 :: Cells g6 #[.int .i64 2, .int .i64 0, .int .i64 y0, .slice pa5 pk.length pn5] 40 :: ByR (.slice pa5 pk.length pn5) pk :: Cells g5 #[.int .i64 y0, .int .u32 y1, .int .i64 y2] 33 :: Cells g4 #[.int .u32 f0, .int .u32 f1, .int .i64 f2, .int .i64 f3, .int .i64 f4, .int .i64 fbk, .int .i64 fgen, .int .i64 fseen] 49 :: Cells (g2 + 1) (hC a0 a1 a2 a3 a4 a5 a6 a7 a8 a9 a10) 84 :: Cells g2 #[.int .u32 k0, .int .u32 k1, .int .i64 k2, .int .i64 k3, .int .i64 k4] 24 :: Cells (g + 1) (plC 0 0 0 (.slice none 0 0) (.slice none 0 0)) 43 :: Cells g (cfC self sl fl idle0 mtu sg qu ve) 46 :: FA bt most idle L :: ChL cb c vl vt R)) := Lib.hid (by rw [HEN.out] at KE0; exact KE0)
        have KK := Lib.hid (fun w' (h' : In F0 w0 w' (Cells (g6 + 1) #[.int .u32 k0, .int .u32 k1, .int .i64 k2, .int .i64 k3, .int .i64 k4, .int .i64 y0, .int .i64 gen, .int .i64 now] 49 :: Cells g6 #[.int .i64 2, .int .i64 0, .int .i64 y0, .slice pa5 pk.length pn5] 40 :: ByR (.slice pa5 pk.length pn5) pk :: Cells g5 #[.int .i64 y0, .int .u32 y1, .int .i64 y2] 33 :: Cells g4 #[.int .u32 f0, .int .u32 f1, .int .i64 f2, .int .i64 f3, .int .i64 f4, .int .i64 fbk, .int .i64 fgen, .int .i64 fseen] 49 :: Cells (g2 + 1) (hC a0 a1 a2 a3 a4 a5 a6 a7 a8 a9 a10) 84 :: Cells g2 #[.int .u32 k0, .int .u32 k1, .int .i64 k2, .int .i64 k3, .int .i64 k4] 24 :: Cells (g + 1) (plC 0 0 0 (.slice none 0 0) (.slice none 0 0)) 43 :: Cells g (cfC self sl fl idle0 mtu sg qu ve) 46 :: FA bt most idle L :: ChL cb c vl vt R)) => o_pakeep h' 9 rfl (f := ⟨⟨k0, k1, k2, k3, k4⟩, y0, gen, now⟩) WK.out true fbk en)
        clear KE0 h6 hd
        generalize keepD most L ⟨⟨k0, k1, k2, k3, k4⟩, y0, gen, now⟩ true fbk en = kr at *
        obtain ⟨krr, krl⟩ := kr
        refine e_start (fun w' => w'.cell? ⟨g6, 0, none⟩ = some (.int .i64 2) ∧ w'.cell? ⟨g6, 1, none⟩ = some (.int .i64 0) ∧ w'.cell? ⟨g6, 2, none⟩ = some (.int .i64 y0) ∧ w'.cell? ⟨g6, 3, none⟩ = some (.slice pa5 pk.length pn5) ∧ w'.cell? ⟨g6 + 1, 0, none⟩ = some (.int .u32 k0) ∧ w'.cell? ⟨g6 + 1, 1, none⟩ = some (.int .u32 k1) ∧ w'.cell? ⟨g6 + 1, 2, none⟩ = some (.int .i64 k2) ∧ w'.cell? ⟨g6 + 1, 3, none⟩ = some (.int .i64 k3) ∧ w'.cell? ⟨g6 + 1, 4, none⟩ = some (.int .i64 k4) ∧ w'.cell? ⟨g6 + 1, 5, none⟩ = some (.int .i64 y0) ∧ w'.cell? ⟨g6 + 1, 6, none⟩ = some (.int .i64 gen) ∧ w'.cell? ⟨g6 + 1, 7, none⟩ = some (.int .i64 now) ∧ w'.cell? ⟨g4, 5, none⟩ = some (.int .i64 fbk) ∧ w'.cell? ⟨g2, 0, none⟩ = some (.int .u32 k0) ∧ w'.cell? ⟨g2, 1, none⟩ = some (.int .u32 k1) ∧ w'.cell? ⟨g2, 2, none⟩ = some (.int .i64 k2) ∧ w'.cell? ⟨g2, 3, none⟩ = some (.int .i64 k3) ∧ w'.cell? ⟨g2, 4, none⟩ = some (.int .i64 k4) ∧ w'.there (g + 1) 0 5) (by kernel_rfl) ⟨cell_of (HD.out.block 1 rfl) rfl, cell_of (HD.out.block 1 rfl) rfl, cell_of (HD.out.block 1 rfl) rfl, cell_of (HD.out.block 1 rfl) rfl, cell_of (HD.out.block 0 rfl) rfl, cell_of (HD.out.block 0 rfl) rfl, cell_of (HD.out.block 0 rfl) rfl, cell_of (HD.out.block 0 rfl) rfl, cell_of (HD.out.block 0 rfl) rfl, cell_of (HD.out.block 0 rfl) rfl, cell_of (HD.out.block 0 rfl) rfl, cell_of (HD.out.block 0 rfl) rfl, cell_of (HD.out.block 4 rfl) rfl, cell_of (HD.out.block 6 rfl) rfl, cell_of (HD.out.block 6 rfl) rfl, cell_of (HD.out.block 6 rfl) rfl, cell_of (HD.out.block 6 rfl) rfl, cell_of (HD.out.block 6 rfl) rfl, there_of (HD.out.block 7 rfl)⟩ (fun hS => ?_)
        refine e_take (i := 0) (v := ?_) rfl (by kernel_rfl) (fun _ _ _ h => h) (by rfl) ?_ hS ?_
        rotate_left
        · (intro w hSw; (try dsimp only at hSw); go_simp; try with_reducible rfl)
        try simp only [Act.put, List.setIfInBounds_toArray, List.set_cons_zero, List.set_cons_succ]
        refine e_take (i := 1) (v := ?_) rfl (by kernel_rfl) (fun _ _ _ h => h) (by rfl) ?_ hS ?_
        rotate_left
        · (intro w hSw; (try dsimp only at hSw); go_simp; try with_reducible rfl)
        try simp only [Act.put, List.setIfInBounds_toArray, List.set_cons_zero, List.set_cons_succ]
        refine e_take (i := 2) (v := ?_) rfl (by kernel_rfl) (fun _ _ _ h => h) (by rfl) ?_ hS ?_
        rotate_left
        · (intro w hSw; (try dsimp only at hSw); go_simp; try with_reducible rfl)
        try simp only [Act.put, List.setIfInBounds_toArray, List.set_cons_zero, List.set_cons_succ]
        refine e_take (i := 3) (v := ?_) rfl (by kernel_rfl) (fun _ _ _ h => h) (by rfl) ?_ hS ?_
        rotate_left
        · (intro w hSw; (try dsimp only at hSw); go_simp; try with_reducible rfl)
        try simp only [Act.put, List.setIfInBounds_toArray, List.set_cons_zero, List.set_cons_succ]
        refine e_take (i := 4) (v := ?_) rfl (by kernel_rfl) (fun _ _ _ h => h) (by rfl) ?_ hS ?_
        rotate_left
        · (intro w hSw; (try dsimp only at hSw); go_simp; try with_reducible rfl)
        try simp only [Act.put, List.setIfInBounds_toArray, List.set_cons_zero, List.set_cons_succ]
        refine e_take (i := 5) (v := ?_) rfl (by kernel_rfl) (fun _ _ _ h => h) (by rfl) ?_ hS ?_
        rotate_left
        · (intro w hSw; (try dsimp only at hSw); go_simp; try with_reducible rfl)
        try simp only [Act.put, List.setIfInBounds_toArray, List.set_cons_zero, List.set_cons_succ]
        refine e_take (i := 6) (v := ?_) rfl (by kernel_rfl) (fun _ _ _ h => h) (by rfl) ?_ hS ?_
        rotate_left
        · (intro w hSw; (try dsimp only at hSw); go_simp; try with_reducible rfl)
        try simp only [Act.put, List.setIfInBounds_toArray, List.set_cons_zero, List.set_cons_succ]
        refine e_take (i := 7) (v := ?_) rfl (by kernel_rfl) (fun _ _ _ h => h) (by rfl) ?_ hS ?_
        rotate_left
        · (intro w hSw; (try dsimp only at hSw); go_simp; try with_reducible rfl)
        try simp only [Act.put, List.setIfInBounds_toArray, List.set_cons_zero, List.set_cons_succ]
        refine e_pin (i := 8) rfl (by kernel_rfl) (fun K' hK => ?_)
        go_simp
        go_at_call 44
        refine KE.out.mono ?_
        rintro e w6 ⟨rfl, ho6⟩
        have HO6 := Lib.hid ho6
        have hS6 : w6.cell? ⟨g6, 0, none⟩ = some (.int .i64 2) ∧ w6.cell? ⟨g6, 1, none⟩ = some (.int .i64 0) ∧ w6.cell? ⟨g6, 2, none⟩ = some (.int .i64 y0) ∧ w6.cell? ⟨g6, 3, none⟩ = some (.slice pa5 pk.length pn5) ∧ w6.cell? ⟨g6 + 1, 0, none⟩ = some (.int .u32 k0) ∧ w6.cell? ⟨g6 + 1, 1, none⟩ = some (.int .u32 k1) ∧ w6.cell? ⟨g6 + 1, 2, none⟩ = some (.int .i64 k2) ∧ w6.cell? ⟨g6 + 1, 3, none⟩ = some (.int .i64 k3) ∧ w6.cell? ⟨g6 + 1, 4, none⟩ = some (.int .i64 k4) ∧ w6.cell? ⟨g6 + 1, 5, none⟩ = some (.int .i64 y0) ∧ w6.cell? ⟨g6 + 1, 6, none⟩ = some (.int .i64 gen) ∧ w6.cell? ⟨g6 + 1, 7, none⟩ = some (.int .i64 now) ∧ w6.cell? ⟨g4, 5, none⟩ = some (.int .i64 fbk) ∧ w6.cell? ⟨g2, 0, none⟩ = some (.int .u32 k0) ∧ w6.cell? ⟨g2, 1, none⟩ = some (.int .u32 k1) ∧ w6.cell? ⟨g2, 2, none⟩ = some (.int .i64 k2) ∧ w6.cell? ⟨g2, 3, none⟩ = some (.int .i64 k3) ∧ w6.cell? ⟨g2, 4, none⟩ = some (.int .i64 k4) ∧ w6.there (g + 1) 0 5 := ⟨cell_of (HO6.out.block 1 rfl) rfl, cell_of (HO6.out.block 1 rfl) rfl, cell_of (HO6.out.block 1 rfl) rfl, cell_of (HO6.out.block 1 rfl) rfl, cell_of (HO6.out.block 0 rfl) rfl, cell_of (HO6.out.block 0 rfl) rfl, cell_of (HO6.out.block 0 rfl) rfl, cell_of (HO6.out.block 0 rfl) rfl, cell_of (HO6.out.block 0 rfl) rfl, cell_of (HO6.out.block 0 rfl) rfl, cell_of (HO6.out.block 0 rfl) rfl, cell_of (HO6.out.block 0 rfl) rfl, cell_of (HO6.out.block 4 rfl) rfl, cell_of (HO6.out.block 6 rfl) rfl, cell_of (HO6.out.block 6 rfl) rfl, cell_of (HO6.out.block 6 rfl) rfl, cell_of (HO6.out.block 6 rfl) rfl, cell_of (HO6.out.block 6 rfl) rfl, there_of (HO6.out.block 7 rfl)⟩
        clear ho6 hS
        refine hK.out _ _ hS6 (fun hS => ?_)
        clear hK K' hS6
        try simp only [Act.put, List.setIfInBounds_toArray, List.set_cons_zero, List.set_cons_succ]
        refine e_pin (i := 9) rfl (by kernel_rfl) (fun K' hK => ?_)
        go_simp
        go_at_call 43
        refine (KK.out _ HO6.out).mono ?_
        rintro e w7 ⟨v7, rfl, ho7⟩
        obtain ⟨F7, r7⟩ := ho7.get 0 rfl
        obtain ⟨pa7, pn7, rfl, -, -, -⟩ := RowA.shape r7
        have ho8 : In F0 w0 w7 (RecR (.slice pa7 krr.length pn7) krr :: Cells (g6 + 1) #[.int .u32 k0, .int .u32 k1, .int .i64 k2, .int .i64 k3, .int .i64 k4, .int .i64 y0, .int .i64 gen, .int .i64 now] 49 :: Cells g6 #[.int .i64 2, .int .i64 0, .int .i64 y0, .slice pa5 pk.length pn5] 40 :: ByR (.slice pa5 pk.length pn5) pk :: Cells g5 #[.int .i64 y0, .int .u32 y1, .int .i64 y2] 33 :: Cells g4 #[.int .u32 f0, .int .u32 f1, .int .i64 f2, .int .i64 f3, .int .i64 f4, .int .i64 fbk, .int .i64 fgen, .int .i64 fseen] 49 :: Cells (g2 + 1) (hC a0 a1 a2 a3 a4 a5 a6 a7 a8 a9 a10) 84 :: Cells g2 #[.int .u32 k0, .int .u32 k1, .int .i64 k2, .int .i64 k3, .int .i64 k4] 24 :: Cells (g + 1) (plC 0 0 0 (.slice none 0 0) (.slice none 0 0)) 43 :: Cells g (cfC self sl fl idle0 mtu sg qu ve) 46 :: FA bt most idle krl :: ChL cb c vl vt R) := ho7
        have HO8 := Lib.hid ho8
        have G0 := ho8.setFull 8 rfl (xs := (plC 2 0 y0 (.slice pa5 pk.length pn5) (.slice pa7 krr.length pn7)).toList) (b := g + 1) (C := (plC 0 0 0 (.slice none 0 0) (.slice none 0 0))) (T := 43) rfl
        have hb9 := G0.block 8 rfl
        have HB9 := Lib.hid hb9
        have HG9 := Lib.hid (G0.sel2 (R1 := [_, _, _, _, _, _, _, _, _, _, _, _, _, _]) [3, 0, 10, 11, 12, 13] (by decide) rfl)
        have hS7 : w7.cell? ⟨g6, 0, none⟩ = some (.int .i64 2) ∧ w7.cell? ⟨g6, 1, none⟩ = some (.int .i64 0) ∧ w7.cell? ⟨g6, 2, none⟩ = some (.int .i64 y0) ∧ w7.cell? ⟨g6, 3, none⟩ = some (.slice pa5 pk.length pn5) ∧ w7.cell? ⟨g6 + 1, 0, none⟩ = some (.int .u32 k0) ∧ w7.cell? ⟨g6 + 1, 1, none⟩ = some (.int .u32 k1) ∧ w7.cell? ⟨g6 + 1, 2, none⟩ = some (.int .i64 k2) ∧ w7.cell? ⟨g6 + 1, 3, none⟩ = some (.int .i64 k3) ∧ w7.cell? ⟨g6 + 1, 4, none⟩ = some (.int .i64 k4) ∧ w7.cell? ⟨g6 + 1, 5, none⟩ = some (.int .i64 y0) ∧ w7.cell? ⟨g6 + 1, 6, none⟩ = some (.int .i64 gen) ∧ w7.cell? ⟨g6 + 1, 7, none⟩ = some (.int .i64 now) ∧ w7.cell? ⟨g4, 5, none⟩ = some (.int .i64 fbk) ∧ w7.cell? ⟨g2, 0, none⟩ = some (.int .u32 k0) ∧ w7.cell? ⟨g2, 1, none⟩ = some (.int .u32 k1) ∧ w7.cell? ⟨g2, 2, none⟩ = some (.int .i64 k2) ∧ w7.cell? ⟨g2, 3, none⟩ = some (.int .i64 k3) ∧ w7.cell? ⟨g2, 4, none⟩ = some (.int .i64 k4) ∧ w7.there (g + 1) 0 5 := ⟨cell_of (HO8.out.block 2 rfl) rfl, cell_of (HO8.out.block 2 rfl) rfl, cell_of (HO8.out.block 2 rfl) rfl, cell_of (HO8.out.block 2 rfl) rfl, cell_of (HO8.out.block 1 rfl) rfl, cell_of (HO8.out.block 1 rfl) rfl, cell_of (HO8.out.block 1 rfl) rfl, cell_of (HO8.out.block 1 rfl) rfl, cell_of (HO8.out.block 1 rfl) rfl, cell_of (HO8.out.block 1 rfl) rfl, cell_of (HO8.out.block 1 rfl) rfl, cell_of (HO8.out.block 1 rfl) rfl, cell_of (HO8.out.block 5 rfl) rfl, cell_of (HO8.out.block 7 rfl) rfl, cell_of (HO8.out.block 7 rfl) rfl, cell_of (HO8.out.block 7 rfl) rfl, cell_of (HO8.out.block 7 rfl) rfl, cell_of (HO8.out.block 7 rfl) rfl, there_of (HO8.out.block 8 rfl)⟩
        clear ho7 r7 ho8 hS G0 hb9
        refine hK.out _ _ hS7 (fun hS => ?_)
        clear hK K' hS7
        try simp only [Act.put, List.setIfInBounds_toArray, List.set_cons_zero, List.set_cons_succ]
        refine e_take (i := 10) (v := ?_) rfl (by kernel_rfl) (fun _ _ _ h => h) (by rfl) ?_ hS ?_
        rotate_left
        · (intro w hSw; (try dsimp only at hSw); go_simp; try with_reducible rfl)
        try simp only [Act.put, List.setIfInBounds_toArray, List.set_cons_zero, List.set_cons_succ]
        refine e_last (i := 11) rfl (by kernel_rfl) (fun K' hK => ?_)
        refine store_step (by rfl) 43 (.tmp 12) (.tmp 111) (by rfl) (g + 1) 0 (plC 2 0 y0 (.slice pa5 pk.length pn5) (.slice pa7 krr.length pn7)) (by rfl) (by rfl) (there_of (C := (plC 0 0 0 (.slice none 0 0) (.slice none 0 0))) (T := 43) (HO8.out.block 8 rfl)) (by kernel_rfl) (plC_all _ _ _ _ _ _ _ _ _) ?_
        refine hK.out _ _ ?_
        clear hK K' hS
        go_wp2_with fail
        exact bodyPost_ret (results_cell_row Tryz.results12 _ _ (g + 1) 43 _ (0, 0) _ rfl HB9.out Tryz.underlying43 rfl (by kernel_rfl)) rfl (by rw [HPKF.out]; exact ⟨_, _, rfl, HG9.out⟩)
end
end Go.Proofs.YtgapbecddgfkmaaGreat
