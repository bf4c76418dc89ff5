/- Opened twice a log tells the same, and what is appended then: the walk. -/
import Derived.Test.YtogclkhpbjfadaaGreatLog6
import Derived.Deep.DeepCutAuto
import Derived.Deep.RegionHeld3
namespace Go.Proofs.YtogclkhpbjfadaaGreat
open Go.RowKit
set_option linter.unusedVariables false
set_option maxRecDepth 100000

theorem frsA_shape {v : Value} {fs : List FrD} {w : World} {F : List Nat} (h : FrsA v fs w F) : ∃ a c, v = .slice a fs.length c := by
  obtain ⟨vs, hl, F1, F2, h1, _⟩ := h
  obtain ⟨a, c, e, -, -, -⟩ := h1.shape
  exact ⟨a, c, e⟩
section
variable {F0 : List Nat} {w0 w : World} {R : List Asrt}
theorem frR_cell {a : Option Addr} {n c k : Nat} {fs : List FrD} {vs : List Value} {f : FrD} {A : Option Addr} {cc m : Nat} (h : In F0 w0 w (RowA 40 3 (.slice a n c) fs.length (flatFr fs vs) :: (bodiesR vs fs ++ R))) (hl : vs.length = fs.length) (hf : fs[k]? = some f) (hv : vs[k]? = some (.slice A m cc)) :
    ∃ g, a = some ⟨g, 0, none⟩ ∧ FrCell w g (k * 3) f A cc ∧ m = f.body.length := by
  obtain ⟨e0, e1, e2⟩ := flatFr_at hl hf hv
  obtain ⟨F1, h1⟩ := h.get 0 rfl
  obtain ⟨g, rfl, c0⟩ := h1.at.2 _ _ e0
  obtain ⟨g', hg', c1⟩ := h1.at.2 _ _ e1
  cases hg'
  obtain ⟨g', hg', c2⟩ := h1.at.2 _ _ e2
  cases hg'
  have hk := (List.getElem?_eq_some_iff.1 (bodiesR_at hv hf)).1
  obtain ⟨F2, h2⟩ := h.get (k + 1) (A := bodyA (.slice A m cc) f) (by rw [List.getElem?_cons_succ, List.getElem?_append_left hk]; exact bodiesR_at hv hf)
  have hm := (RowA.at h2).1
  subst hm
  exact ⟨g, rfl, ⟨c0, c1, c2, RowA.all h2, src_none (RowA.all h2)⟩, rfl⟩
end
def OpRel (bd lb : Nat) (size : Nat) (L : List (List UInt8)) (W : World) (i : Value) (wr : World) : Prop :=
  ∃ (k : Nat) (d : DiskD) (l : LogD), k ≤ L.length ∧ i = .int .i64 k ∧ OpSt 20 k 3 2 size L d l ∧ In [] W wr [LgA lb bd l, DkA bd d]
set_option maxHeartbeats 16000000 in
theorem walk_LogOpens (W : World) (size : Int) (wsz : (Lit.int .i64 size).wf = true) {a1 a2 : Option Addr} {len1 cap1 len2 cap2 : Nat} {L : List (List UInt8)} {b : List UInt8} (h1 : ArgBss W a1 len1 cap1 L) (h2 : AB W (.slice a2 len2 cap2) b) :
    Calls Tryz.prog 3 #[.int .i64 size, .slice a1 len1 cap1, .slice a2 len2 cap2] W (TrueP W) := by
  obtain ⟨a2', c2', e2, hsb, hbc, hbm⟩ := h2.ex
  cases e2
  have hl1 := h1.length
  have hmost := h1.most
  have hroom := h1.room
  unfold maxLen at hmost hbm
  have HAW := Lib.hid (fun w' (R : List Asrt) (h' : In [] W w' R) => o_awake6 h')
  have H0 := Lib.hid (Own.nil W)
  by_cases k1 : 20 < len1
  · have q1 : (20 : Int) < (len1 : Int) := by omega
    have K := Lib.hid (HAW.out W [] H0.out)
    clear h1 h2 hsb HAW H0 k1 wsz
    go_enter Tryz.func3, Tryz.ntmps3
    go_wp2_with fail
    refine K.out.mono ?_
    rintro e w1 ⟨rfl, g⟩
    have G := Lib.hid g.mod
    clear g K
    go_wp2_with fail
    go_ret
    exact ⟨rfl, G.out⟩
  have q1 : decide ((20 : Int) < (len1 : Int)) = false := by simp; omega
  by_cases k2 : 300 < b.length
  · have q2 : (300 : Int) < (b.length : Int) := by omega
    have K := Lib.hid (HAW.out W [] H0.out)
    clear h1 h2 hsb HAW H0 k1 k2 wsz
    go_enter Tryz.func3, Tryz.ntmps3
    go_wp2_with fail
    refine K.out.mono ?_
    rintro e w1 ⟨rfl, g⟩
    have G := Lib.hid g.mod
    clear g K
    go_wp2_with fail
    go_ret
    exact ⟨rfl, G.out⟩
  have q2 : decide ((300 : Int) < (b.length : Int)) = false := by simp; omega
  have KN := Lib.hid (o_dnew H0.out 200000 (by omega) (by omega))
  have H1 := Lib.hid h1
  have HSB := Lib.hid hsb
  clear h1 h2 hsb H0
  go_enter Tryz.func3, Tryz.ntmps3
  go_wp2_with fail
  refine KN.out.mono ?_
  rintro e w1 ⟨bd, rfl, g1⟩
  generalize wrap64 ((IntKind.u64.wrap size).tmod 400) = z at *
  obtain ⟨d0, hc0, hst⟩ := OpSt.start (M := 20) (ver := 2) L 3 z (by omega) (by omega)
  have C1 := Lib.hid (o_create g1 (by decide) 2 z)
  have hc0' : createD 2 z (dNew 200000) = (d0, some ⟨sized z, firstM 2, false⟩, 0) := hc0
  rw [hc0'] at C1
  have HST := Lib.hid hst
  clear g1 hc0 hc0' hst KN
  go_wp2_with fail
  refine C1.out.mono ?_
  intro e w2 hp
  obtain ⟨lb, rfl, g2⟩ := hp.some rfl
  have HR : Hid (OpRel bd lb (sized z) L W (.int .i64 0) w2) := Lib.hid ⟨0, d0, _, Nat.zero_le _, rfl, HST.out, g2⟩
  clear hp g2 C1 HST
  go_wp2_with fail
  go_loopw [47] (OpRel bd lb (sized z) L W) (fun k _ => len1 - (intOf k).toNat)
  case atStart => exact HR.out
  case round =>
    obtain ⟨k, d, l, hk, rfl, hst, ho⟩ := hrel
    clear HR
    by_cases hlt : k < len1
    · obtain ⟨x, hx⟩ : ∃ x, L[k]? = some x := ⟨L[k]'(by omega), List.getElem?_eq_getElem _⟩
      obtain ⟨gx, ox, vx, rfl, cx, hax⟩ := H1.out.at' k x hx
      obtain ⟨ax, capx, rfl, sx, hxc, hxm⟩ := hax.ex
      have cx' := cell_old ho cx
      have hlt' : (k : Int) < (len1 : Int) := by omega
      have hw2 : wrap64 ((k : Int) + 1) = (k : Int) + 1 := by unfold wrap64; omega
      unfold maxLen at hxm
      by_cases h3 : 300 < x.length
      · have q3 : (300 : Int) < (x.length : Int) := by omega
        have K := Lib.hid (HAW.out wr _ ho)
        clear ho hst hax cx sx hx h3
        go_wp2_with fail
        refine K.out.mono ?_
        rintro e w3 ⟨rfl, g⟩
        have G := Lib.hid g.mod
        clear g K
        go_wp2_with fail
        go_ret
        exact ⟨rfl, G.out⟩
      · have q3 : decide ((300 : Int) < (x.length : Int)) = false := by simp; omega
        obtain ⟨a1, a2⟩ := hst.step hx (by omega) (by omega) (by omega) (by omega) (by omega)
        have KA := Lib.hid (o_append (c := capx) ho (hst.ok (sized_ok z)) (by have := hst.ops; omega) 3 (A := ax) (body := x) (by omega) (fun w' h' => sx.old h'))
        rw [show ((3 : Nat) : Int) = 3 from rfl] at a1 a2
        rw [a1] at KA
        have HS : Hid (∀ w', In [] W w' [LgA lb bd (appendL 3 x (d, l)).1.2, DkA bd (appendL 3 x (d, l)).1.1] → OpRel bd lb (sized z) L W (.int .i64 ((k : Int) + 1)) w') := Lib.hid fun w' h' => ⟨k + 1, _, _, by omega, by go_num, a2, h'⟩
        clear ho hst hax cx sx hx h3 a1 a2
        go_wp2_with fail
        refine KA.out.mono ?_
        rintro e w3 ⟨rfl, g⟩
        have HS2 := Lib.hid (HS.out w3 g)
        clear g KA HS
        go_wp2_with fail
        go_roundw
        case rel => (try rw [hw2]); exact HS2.out
        case measure => (try rw [hw2]); simp [intOf]; omega
    · have hge : (len1 : Int) ≤ (k : Int) := by omega
      obtain rfl : k = len1 := by omega
      obtain ⟨Fr, hFr⟩ : ∃ Fr, Fr = (L.take k).map (fun b => (⟨3, 2, b⟩ : FrD)) := ⟨_, rfl⟩
      have hFl : Fr.length = k := by rw [hFr]; simp; omega
      have hfirm := hst.firm
      rw [← hFr] at hfirm
      obtain ⟨d1, e1, f1, p1⟩ := told_on (hfirm.now.on hfirm.ok) hst.rm.fail z
      obtain ⟨d2, e2, f2, p2⟩ := told_on (f1.now.on f1.ok) p1.fail z
      obtain ⟨d3, e3, f3, p3⟩ := opened_on (f2.now.on f2.ok) p2.fail z
      have hver := hst.ver
      have hseg := hst.segs
      have hnext := hst.next
      have hops := hst.ops
      have o1 := p1.ops
      have o2 := p2.ops
      have o3 := p3.ops
      have hpe : putErr 4 l.m.ver b.length = 0 := by
        unfold putErr; rw [hver, if_neg (by omega), if_neg (by omega)]
      obtain ⟨x1, x2, _, _⟩ := append_rm (l := ⟨sized z, l.m, false⟩) (B := 0) (n := 0) f3 rfl 4 b ((p3.rm (p2.rm (p1.rm hst.rm))).le (by omega) (by omega)) (by simp only; omega) (by simp only; omega) hpe
      obtain ⟨_, _, y3⟩ := append_inv (l := ⟨sized z, l.m, false⟩) (Fr0 := []) (s0 := 0) (Or.inl ⟨rfl, f3⟩) 4 b
      have hop4 := appendL_ops 4 b (d3, (⟨sized z, l.m, false⟩ : LogD))
      obtain ⟨d4, hd4⟩ : ∃ d4, (appendL 4 b (d3, (⟨sized z, l.m, false⟩ : LogD))).1.1 = d4 := ⟨_, rfl⟩
      obtain ⟨l4, hl4⟩ : ∃ l4, (appendL 4 b (d3, (⟨sized z, l.m, false⟩ : LogD))).1.2 = l4 := ⟨_, rfl⟩
      rw [hd4] at x2 y3 hop4
      rw [hl4] at y3
      have f4 : Firm d4 l4.m (Fr ++ [⟨4, 2, b⟩]) Fr.length := by
        rcases y3 with ⟨_, _, y4⟩ | ⟨y4, _⟩
        · have e : (⟨(4 : Int).toNat, l.m.ver, b⟩ : FrD) = ⟨4, 2, b⟩ := by rw [hver]; rfl
          rw [← e]; exact y4
        · exact absurd x1 y4
      obtain ⟨d5, e5, f5, p5⟩ := told_on (f4.now.on f4.ok) x2.fail z
      simp only at hop4
      have K1 := Lib.hid (o_told (ho.sel2 (R1 := [_, _]) [1, 0] (by decide) rfl) (by omega) z)
      rw [show openL tellF z d [] = _ from e1] at K1
      have K2 := Lib.hid (fun w' R (h' : In [] W w' (DkA bd d1 :: R)) => o_told h' (by omega) z)
      rw [show openL tellF z d1 [] = _ from e2] at K2
      have K3 := Lib.hid (fun w' R (h' : In [] W w' (empA :: DkA bd d2 :: R)) => o_open nil_each () (by decide) h' (by omega) z)
      rw [e3] at K3
      have K4 := Lib.hid (fun w' lb3 R (h' : In [] W w' (LgA lb3 bd ⟨sized z, l.m, false⟩ :: DkA bd d3 :: R)) => o_append (c := cap2) h' ⟨(sized_ok z).1, (sized_ok z).2, f3.now.1⟩ (by omega) 4 (A := a2) (body := b) (by omega) (fun w2 h2 => HSB.out.old h2))
      rw [x1, hd4, hl4] at K4
      have K5 := Lib.hid (fun w' R (h' : In [] W w' (DkA bd d4 :: R)) => o_told h' (by omega) z)
      rw [show openL tellF z d4 [] = _ from e5] at K5
      have HFL := Lib.hid hFl
      have HVER := Lib.hid hver
      clear ho hst hfirm e1 e2 e3 e5 f1 f2 f3 f4 f5 p1 p2 p3 p5 x1 x2 y3 hd4 hl4 hpe hver hseg hnext hops o1 o2 o3 hop4 hFl hFr hlt
      simp only at K1 K2 K5
      go_wp2_with fail
      refine K1.out.mono ?_
      rintro e w3 ⟨v1, rfl, g1⟩
      obtain ⟨F1, q1'⟩ := g1.get 0 rfl
      obtain ⟨A1, C1, rfl⟩ := frsA_shape q1'
      have G1 := Lib.hid (K2.out w3 _ (g1.sel2 (R1 := [_, _, _]) [1, 0, 2] (by decide) rfl))
      clear g1 q1' K1 K2
      go_wp2_with fail
      refine G1.out.mono ?_
      rintro e w4 ⟨v2, rfl, g2⟩
      obtain ⟨F2, q2'⟩ := g2.get 0 rfl
      obtain ⟨A2, C2, rfl⟩ := frsA_shape q2'
      have G2 := Lib.hid (K3.out w4 _ ((g2.sel2 (R1 := [_, _]) [1, 0] (by decide) rfl).emp))
      clear g2 q2' G1 K3
      go_wp2_with fail
      refine G2.out.mono ?_
      intro e w5 hp
      obtain ⟨lb3, rfl, g3⟩ := hp.some rfl
      have g4 := g3.sel2 (R1 := [_, _, _, _, _, _]) [0, 2, 3, 4] (by decide) rfl
      have G3 := Lib.hid (o_samefs (ca := C1) (cb := C2) (fs := Fr) (gs := Fr) (a := A1) (b := A2) g4 (fun w' h' => (frsA_at (h'.get 3 rfl).choose_spec).2) (fun w' h' => (frsA_at (h'.get 2 rfl).choose_spec).2) (by have := HFL.out; omega) (by have := HFL.out; omega))
      simp only [decide_true] at G3
      clear hp g3 g4 G2
      rw [HFL.out] at G3 ⊢
      go_wp2_with fail
      refine G3.out.mono ?_
      rintro e w6 ⟨rfl, g5⟩
      have G4 := Lib.hid (o_version g5)
      have G5 := Lib.hid (K4.out w6 lb3 _ g5)
      clear g5 G3 K4
      go_wp2_with fail
      refine G4.out.mono ?_
      rintro e w7 ⟨rfl, rfl⟩
      simp only
      rw [HVER.out]
      clear G4
      go_wp2_with fail
      refine G5.out.mono ?_
      rintro e w8 ⟨rfl, g6⟩
      have G6 := Lib.hid (K5.out w8 _ (g6.sel2 (R1 := [_, _, _, _]) [1, 3] (by decide) rfl))
      clear g6 G5 K5
      go_wp2_with fail
      refine G6.out.mono ?_
      rintro e w9 ⟨v5, rfl, g7⟩
      obtain ⟨F5, q5'⟩ := g7.get 0 rfl
      obtain ⟨A5, C5, rfl⟩ := frsA_shape q5'
      have g7' : In [] W w9 [FrsA (.slice A5 (Fr ++ [(⟨4, 2, b⟩ : FrD)]).length C5) (Fr ++ [(⟨4, 2, b⟩ : FrD)]), DkA bd d5, FrsA (.slice A1 k C1) Fr] := g7
      obtain ⟨vs, hvs, g8⟩ := g7'.frsOpen
      have hfl5 : (Fr ++ [(⟨4, 2, b⟩ : FrD)]).length = k + 1 := by rw [List.length_append, HFL.out]; rfl
      have hfk : (Fr ++ [(⟨4, 2, b⟩ : FrD)])[k]? = some ⟨4, 2, b⟩ := by rw [List.getElem?_append_right (by rw [HFL.out]; omega), HFL.out]; simp
      have htk : (Fr ++ [(⟨4, 2, b⟩ : FrD)]).take k = Fr := by rw [← HFL.out]; simp
      obtain ⟨vk, hvk⟩ : ∃ vk, vs[k]? = some vk := ⟨vs[k]'(by omega), List.getElem?_eq_getElem _⟩
      obtain ⟨Fb, hb5⟩ := g8.get (k + 1) (A := bodyA vk ⟨4, 2, b⟩) (by
        rw [List.getElem?_cons_succ, List.getElem?_append_left (List.getElem?_eq_some_iff.1 (bodiesR_at hvk hfk)).1]; exact bodiesR_at hvk hfk)
      obtain ⟨Ab, cb, rfl, -, -, -⟩ := RowA.shape hb5
      obtain ⟨gr, rfl, -, -⟩ := frR_cell g8 hvs hfk hvk
      obtain ⟨Fr5, hr5⟩ := g8.get 0 rfl
      obtain ⟨_, C5', e5', hc5, hc5m, -⟩ := hr5.shape
      cases e5'
      have HS9 : Hid (∀ w', In [] W w' (RowA 40 3 (.slice (some ⟨gr, 0, none⟩) (Fr ++ [(⟨4, 2, b⟩ : FrD)]).length C5) (Fr ++ [(⟨4, 2, b⟩ : FrD)]).length (flatFr (Fr ++ [(⟨4, 2, b⟩ : FrD)]) vs) :: (bodiesR vs (Fr ++ [(⟨4, 2, b⟩ : FrD)]) ++ [DkA bd d5, FrsA (.slice A1 k C1) Fr])) →
          w'.cell? ⟨gr, k * 3 + 2, none⟩ = some (.slice Ab b.length cb) ∧ (convert 23 9 (.slice Ab b.length cb)).run Tryz.prog w' = .ok (.string ⟨b.toArray⟩) w' ∧ (convert 23 9 (.slice a2 b.length cap2)).run Tryz.prog w' = .ok (.string ⟨b.toArray⟩) w') := Lib.hid fun w' h' => by
        obtain ⟨g', eg, fc, _⟩ := frR_cell h' hvs hfk hvk
        cases eg
        exact ⟨fc.val, conv_str (l := b) fc.body fc.nil, conv_str (l := b) (HSB.out.old h') (src_none (HSB.out.old h'))⟩
      have hsl : ∀ wx, (Instr.slice 33 (.slice (some ⟨gr, 0, none⟩) (k + 1) C5) none (some (.int .i64 k)) none).run Tryz.prog wx = .ok (.slice (some ⟨gr, 0, none⟩) k C5) wx := fun wx => run_prefix_at Tryz.underlying33 infoFrame gr 0 (k + 1) C5 k (by omega) wx
      have KS := Lib.hid (o_samefs (ca := C5) (cb := C1) (fs := Fr) (gs := Fr) (a := some ⟨gr, 0, none⟩) (b := A1) (g8.drewN 1) (fun w' h' => by
        have h2 := frs_close (v := .slice (some ⟨gr, 0, none⟩) (Fr ++ [(⟨4, 2, b⟩ : FrD)]).length C5) hvs h'
        have h3 := (frsA_at (h2.get 0 rfl).choose_spec).2.take k
        rwa [htk] at h3) (fun w' h' => by
        have h2 := frs_close (v := .slice (some ⟨gr, 0, none⟩) (Fr ++ [(⟨4, 2, b⟩ : FrD)]).length C5) hvs h'
        exact (frsA_at (h2.get 2 rfl).choose_spec).2) (by have := HFL.out; omega) (by have := HFL.out; omega))
      simp only [decide_true] at KS
      obtain ⟨y0, y1, y2⟩ := HS9.out _ (g8.drewN 1)
      have HAW2 := Lib.hid (fun w' (h' : In [] W w' (RowA 40 3 (.slice (some ⟨gr, 0, none⟩) (Fr ++ [(⟨4, 2, b⟩ : FrD)]).length C5) (Fr ++ [(⟨4, 2, b⟩ : FrD)]).length (flatFr (Fr ++ [(⟨4, 2, b⟩ : FrD)]) vs) :: (bodiesR vs (Fr ++ [(⟨4, 2, b⟩ : FrD)]) ++ [DkA bd d5, FrsA (.slice A1 k C1) Fr]))) => HAW.out w' _ h')
      obtain ⟨z0, z1, z2⟩ := HS9.out w9 g8
      have HT := Lib.hid hfl5
      have hs1 : ((⟨b.toArray⟩ : ByteArray).toList == (⟨b.toArray⟩ : ByteArray).toList) = true := by simp
      rw [HFL.out] at KS
      clear g7 g7' g8 q5' hb5 hr5 hvs hvk hfk htk G6 HAW
      rw [HT.out]
      obtain ⟨n1, hn1⟩ : ∃ n1, n1 = k + 1 := ⟨_, rfl⟩
      have hw1 : IntKind.i64.wrap ((k : Int) + 1) = (n1 : Int) := by rw [IntWalk.i64_in _ (by omega)]; omega
      have hkl : (k : Int) < (n1 : Int) := by omega
      rw [← hn1] at hsl ⊢
      clear hn1
      go_wp2_with fail
      go_region_held3 (fun w' => w'.cell? ⟨gr, k * 3 + 2, none⟩ = some (.slice Ab b.length cb) ∧ (convert 23 9 (.slice Ab b.length cb)).run Tryz.prog w' = .ok (.string ⟨b.toArray⟩) w' ∧ (convert 23 9 (.slice a2 b.length cap2)).run Tryz.prog w' = .ok (.string ⟨b.toArray⟩) w')
        (first | exact ⟨y0, y1, y2⟩ | exact hS11 | exact hS10 | go_keep)
        (first
          | (go_at_call 21; refine KS.out.mono ?_; rintro e w10 ⟨rfl, g10⟩; have hS10 := HS9.out w10 g10; have H10 := Lib.hid g10; clear g10)
          | (go_at_call 15; refine (HAW2.out _ H10.out).mono ?_; rintro e w11 ⟨rfl, g11⟩; have hS11 := HS9.out w11 g11; have H11 := Lib.hid g11; clear g11))
      go_wp2_with fail
      go_ret
      exact ⟨rfl, H11.out.mod⟩
end Go.Proofs.YtogclkhpbjfadaaGreat
