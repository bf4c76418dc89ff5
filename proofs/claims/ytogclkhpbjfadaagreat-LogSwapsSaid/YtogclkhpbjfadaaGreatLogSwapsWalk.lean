/- A swap, wherever it breaks off, leaves the rows that there were or the new ones: the walk. -/
import Derived.Test.YtogclkhpbjfadaaGreatLgSwapD
import Derived.Test.YtogclkhpbjfadaaGreatLog6
import Derived.Test.YtogclkhpbjfadaaGreatLg6Short
import Derived.Test.YtogclkhpbjfadaaGreatLogFrs
import Derived.Deep.DeepCutAuto
namespace Go.Proofs.YtogclkhpbjfadaaGreat
open Go.RowKit
set_option linter.unusedVariables false
set_option maxRecDepth 100000

def kindN (n : Int) : Nat := ((n % 18446744073709551616) % 256).toNat
theorem kindN_eq (n : Int) : wrap64 ((IntKind.u64.wrap n).tmod 256) = (kindN n : Int) := by
  have e : IntKind.u64.wrap n = n % 18446744073709551616 := rfl
  rw [e]
  have h1 : (n % 18446744073709551616).tmod 256 = (n % 18446744073709551616) % 256 := Int.tmod_eq_emod_of_nonneg (by omega)
  rw [h1]; unfold wrap64 kindN; omega
theorem kindN_lt (n : Int) : kindN n < 256 := by unfold kindN; omega
def fr7 (b : List UInt8) : FrD := ⟨7, 1, b⟩
def frN (r : FrI) : FrD := ⟨kindN r.kind, 3, r.body⟩
theorem swapL_ops {ver : Nat} {bs : List (List UInt8)} {d : DiskD} {l : LogD} (hl : LgOk l) (hb : ∀ b ∈ bs, b.length ≤ 5000) : (swapL ver bs (d, l)).1.1.ops ≤ d.ops + 3 * bs.length + 80 := by
  have h1 := settleL_ops (d, l)
  have h2 := settleL_ok (s := (d, l)) hl
  by_cases hz : (settleL (d, l)).2 = 0
  · rw [swapL_end ver bs (d, l) hz]
    obtain ⟨h3, h4, _⟩ := swapT_ops (ver := ver) (l := (settleL (d, l)).1.2) (d := (settleL (d, l)).1.1) hb
    have h5 : (settleL (d, l)).1.2.m.segs.length ≤ 64 := (mayM_iff.1 h2.2.2).1.2.2.2.1
    have h6 := removeD_ops (settleL (d, l)).1.2.m.segs (swapT ver bs (settleL (d, l)).1.2 (settleL (d, l)).1.1).1.d
    have h7 := dropD_ops (swapT ver bs (settleL (d, l)).1.2 (settleL (d, l)).1.1).1.segs (swapT ver bs (settleL (d, l)).1.2 (settleL (d, l)).1.1).1.d
    simp only at h1
    unfold swapEnd
    split
    · simp only; omega
    split
    · simp only; omega
    · simp only; omega
  · rw [swapL_err hz]; simp only at h1; omega
/-- Behind a crash in or behind a swap the log opens, and tells the old rows or the new ones. -/
theorem swap_crash {d : DiskD} {l : LogD} {Fr : List FrD} (hl : l.loose = false) (h : Firm d l.m Fr Fr.length) (n : Int) (Rw : List FrD) (hR : ∀ f ∈ Rw, FrOk f ∧ f.ver = 3) (p : List UInt8) (z : Int) :
    ∃ X d2 lo, openL tellF z (dCrash (swapL 3 (Rw.map frBytes) (dFail d n, l)).1.1 p) [] = (X, d2, lo, 0) ∧ ((swapL 3 (Rw.map frBytes) (dFail d n, l)).2 = 0 → X = Rw) ∧ (X = Rw ∨ X = Fr) := by
  have hi : LogInv (dFail d n) l Fr Fr.length Fr Fr.length := LogInv.fail (Or.inl ⟨hl, h⟩) n
  obtain ⟨_, hsw⟩ := swap_inv hi 3 Rw hR
  generalize swapL 3 (Rw.map frBytes) (dFail d n, l) = r at *
  have key : ∀ {m : ManD} {Y : List FrD}, OnDisk (dCrash r.1.1 p) m Y → ∃ d2 lo, openL tellF z (dCrash r.1.1 p) [] = (Y, d2, lo, 0) := fun h2 => by
    obtain ⟨d2, e, _, _⟩ := told_on h2 rfl z
    exact ⟨d2, _, e⟩
  rcases hsw with ⟨e0, hlo, _, hf⟩ | ⟨e0, ⟨_, hI⟩ | ⟨_, hI⟩⟩
  · have hI : LogInv r.1.1 r.1.2 Rw Rw.length Rw Rw.length := Or.inl ⟨hlo, hf⟩
    have hX : ∃ m, OnDisk (dCrash r.1.1 p) m Rw := by
      rcases hI.crash p with ⟨j, j1, j2, j3⟩ | ⟨_, m0, j, j1, j2, j3⟩
      · rw [List.take_of_length_le j1] at j3; exact ⟨_, j3⟩
      · rw [List.take_of_length_le j1] at j3; exact ⟨_, j3⟩
    obtain ⟨m, hm⟩ := hX
    obtain ⟨d2, lo, e⟩ := key hm
    exact ⟨Rw, d2, lo, e, fun _ => rfl, Or.inl rfl⟩
  · have hX : ∃ m, OnDisk (dCrash r.1.1 p) m Fr := by
      rcases hI.crash p with ⟨j, j1, j2, j3⟩ | ⟨_, m0, j, j1, j2, j3⟩
      · rw [List.take_of_length_le j1] at j3; exact ⟨_, j3⟩
      · rw [List.take_of_length_le j1] at j3; exact ⟨_, j3⟩
    obtain ⟨m, hm⟩ := hX
    obtain ⟨d2, lo, e⟩ := key hm
    exact ⟨Fr, d2, lo, e, fun h0 => absurd h0 e0, Or.inr rfl⟩
  · rcases hI.crash p with ⟨j, j1, j2, j3⟩ | ⟨_, m0, j, j1, j2, j3⟩
    · rw [List.take_of_length_le j1] at j3
      obtain ⟨d2, lo, e⟩ := key j3
      exact ⟨Rw, d2, lo, e, fun _ => rfl, Or.inl rfl⟩
    · rw [List.take_of_length_le j1] at j3
      obtain ⟨d2, lo, e⟩ := key j3
      exact ⟨Fr, d2, lo, e, fun h0 => absurd h0 e0, Or.inr rfl⟩
theorem frArg_u {W w : World} {R : List Asrt} {a : Option Addr} {c : Nat} {fs : List FrD} {vs : List Value} (ho : Own W w R) (i : Nat) (hi : R[i]? = some (RowA 40 3 (.slice a fs.length c) fs.length (flatFr fs vs))) (hl : vs.length = fs.length) (hb : ∀ (j : Nat) (f : FrD) (v : Value), fs[j]? = some f → vs[j]? = some v → AB W v f.body) : FrU [] W R a fs := by
  intro k f hf
  obtain ⟨v, hv⟩ : ∃ v, vs[k]? = some v := ⟨vs[k]'(by have := (List.getElem?_eq_some_iff.1 hf).1; omega), List.getElem?_eq_getElem _⟩
  obtain ⟨A, cA, rfl, hs, hc1, hc2⟩ := (hb k f v hf hv).ex
  obtain ⟨e0, e1, e2⟩ := flatFr_at hl hf hv
  obtain ⟨F, hr⟩ := ho.get i hi
  obtain ⟨g, rfl, _⟩ := hr.at.2 _ _ e0
  refine ⟨g, 0, A, cA, rfl, fun w' h' => ?_⟩
  obtain ⟨F', hr'⟩ := h'.get i hi
  obtain ⟨g', eg, c0⟩ := hr'.at.2 _ _ e0
  cases eg
  obtain ⟨g', eg, c1⟩ := hr'.at.2 _ _ e1
  cases eg
  obtain ⟨g', eg, c2⟩ := hr'.at.2 _ _ e2
  cases eg
  rw [Nat.zero_add]
  exact ⟨c0, c1, c2, hs.old h', src_none hs⟩
theorem FrU.at {F0 : List Nat} {w0 w : World} {R : List Asrt} {a : Option Addr} {fs : List FrD} (h : FrU F0 w0 R a fs) (hw : In F0 w0 w R) : FrAt w a fs := fun k f hf => by
  obtain ⟨g, o, A, c, e, hc⟩ := h k f hf
  exact ⟨g, o, A, c, e, hc w hw⟩
/-- Bytes that came in, at each place. -/
def ABs (W : World) (vs : List Value) (bs : List (List UInt8)) : Prop := vs.length = bs.length ∧ ∀ (j : Nat) (b : List UInt8) (v : Value), bs[j]? = some b → vs[j]? = some v → AB W v b
theorem ABs.snoc {W : World} {vs : List Value} {bs : List (List UInt8)} {v : Value} {b : List UInt8} (h : ABs W vs bs) (hv : AB W v b) : ABs W (vs ++ [v]) (bs ++ [b]) := by
  obtain ⟨h1, h2⟩ := h
  refine ⟨by simp [h1], fun j x u hx hu => ?_⟩
  by_cases hlt : j < bs.length
  · rw [List.getElem?_append_left hlt] at hx
    rw [List.getElem?_append_left (by omega)] at hu
    exact h2 j x u hx hu
  · have hj2 : j = bs.length := by
      have := (List.getElem?_eq_some_iff.1 hx).1
      rw [List.length_append] at this; simp at this; omega
    subst hj2
    rw [List.getElem?_append_right (Nat.le_refl _)] at hx
    rw [List.getElem?_append_right (by omega), h1] at hu
    simp at hx hu
    subst hx hu
    exact hv
theorem ABs.frames {W : World} {vs : List Value} {bs : List (List UInt8)} {fs : List FrD} (h : ABs W vs bs) (hf : fs.map (·.body) = bs) : vs.length = fs.length ∧ ∀ (j : Nat) (f : FrD) (v : Value), fs[j]? = some f → vs[j]? = some v → AB W v f.body := by
  subst hf
  refine ⟨by simpa using h.1, fun j f v hj hv => h.2 j f.body v (by simp [hj]) hv⟩
def SsRel (bd lb : Nat) (size : Nat) (L : List (List UInt8)) (W : World) (v i : Value) (wr : World) : Prop :=
  ∃ (k : Nat) (d : DiskD) (l : LogD) (vs : List Value) (Fr : List FrD), k ≤ L.length ∧ i = .int .i64 k ∧ OpSt 12 k 7 1 size L d l ∧ Fr = (L.take k).map fr7 ∧ ABs W vs (L.take k) ∧ In [] W wr [LgA lb bd l, DkA bd d, RowA 40 3 v Fr.length (flatFr Fr vs)]
theorem ss_step {bd lb size : Nat} {L : List (List UInt8)} {W w : World} {k nb : Nat} {C : Array Value} {ty : Nat} {d : DiskD} {l : LogD} {vs : List Value} {Fr : List FrD} {v u : Value} {x : List UInt8} (hx : L[k]? = some x) (hst : OpSt 12 (k + 1) 7 1 size L d l) (hFr : Fr = (L.take k).map fr7) (hab : ABs W vs (L.take k)) (hv : AB W u x)
    (h : In [] W w [Cells nb C ty, LgA lb bd l, DkA bd d, RowA 40 3 v (Fr.length + 1) (flatFr Fr vs ++ [.int .i64 7, .int .i64 1, u])]) : SsRel bd lb size L W v (.int .i64 ((k : Int) + 1)) w := by
  have hk := (List.getElem?_eq_some_iff.1 hx).1
  have ht : L.take (k + 1) = L.take k ++ [x] := by rw [List.take_add_one, hx]; rfl
  have hl := (hab.frames (fs := Fr) (by rw [hFr, List.map_map]; simp [Function.comp_def, fr7])).1
  refine ⟨k + 1, d, l, vs ++ [u], Fr ++ [fr7 x], hk, by rw [Int.natCast_add]; rfl, hst, by rw [ht, hFr]; simp, by rw [ht]; exact hab.snoc hv, ?_⟩
  rw [flatFr_snoc _ _ hl, List.length_append]
  exact h.drop
def TsRel (bd lb : Nat) (Rs : List FrI) (d : DiskD) (l : LogD) (A0 : Asrt) (W : World) (v i : Value) (wr : World) : Prop :=
  ∃ (k : Nat) (vs : List Value) (Fr : List FrD), k ≤ Rs.length ∧ i = .int .i64 k ∧ Fr = (Rs.take k).map frN ∧ ABs W vs ((Rs.take k).map (·.body)) ∧ (∀ r ∈ Rs.take k, r.body.length ≤ 200) ∧ In [] W wr [LgA lb bd l, DkA bd d, A0, RowA 40 3 v Fr.length (flatFr Fr vs)]
theorem ts_step {bd lb : Nat} {Rs : List FrI} {W w : World} {k nb mb : Nat} {C C2 : Array Value} {ty ty2 : Nat} {d : DiskD} {l : LogD} {A0 : Asrt} {vs : List Value} {Fr : List FrD} {v u : Value} {x : FrI} (hx : Rs[k]? = some x) (hFr : Fr = (Rs.take k).map frN) (hab : ABs W vs ((Rs.take k).map (·.body))) (hv : AB W u x.body) (hall : ∀ r ∈ Rs.take k, r.body.length ≤ 200) (hx2 : x.body.length ≤ 200)
    (h : In [] W w [Cells nb C ty, Cells mb C2 ty2, LgA lb bd l, DkA bd d, A0, RowA 40 3 v (Fr.length + 1) (flatFr Fr vs ++ [.int .i64 (kindN x.kind), .int .i64 3, u])]) : TsRel bd lb Rs d l A0 W v (.int .i64 ((k : Int) + 1)) w := by
  have hk := (List.getElem?_eq_some_iff.1 hx).1
  have ht : Rs.take (k + 1) = Rs.take k ++ [x] := by rw [List.take_add_one, hx]; rfl
  have hl := (hab.frames (fs := Fr) (by rw [hFr, List.map_map]; simp [Function.comp_def, frN])).1
  refine ⟨k + 1, vs ++ [u], Fr ++ [frN x], hk, by rw [Int.natCast_add]; rfl, by rw [ht, hFr]; simp, by rw [ht, List.map_append]; exact hab.snoc hv, fun r hr => ?_, ?_⟩
  · rw [ht] at hr
    rcases List.mem_append.1 hr with hr | hr
    · exact hall r hr
    · simp at hr; subst hr; exact hx2
  · rw [flatFr_snoc _ _ hl, List.length_append]
    exact h.drop.drop
set_option maxHeartbeats 32000000 in
theorem walk_LogSwaps (W : World) (size : Int) (wsz : (Lit.int .i64 size).wf = true) {a1 a2 a4 : Option Addr} {len1 cap1 len2 cap2 len4 cap4 : Nat} {L : List (List UInt8)} {Rs : List FrI} {p : List UInt8} (h1 : ArgBss W a1 len1 cap1 L) (h2 : ArgFrs W (.slice a2 len2 cap2) Rs) (fault : Int) (wf : (Lit.int .i64 fault).wf = true) (h4 : AB W (.slice a4 len4 cap4) p) :
    Calls Tryz.prog 5 #[.int .i64 size, .slice a1 len1 cap1, .slice a2 len2 cap2, .int .i64 fault, .slice a4 len4 cap4] W (TrueP W) := by
  obtain ⟨a2', c2', e2, hr2, hm2, hc2⟩ := h2.ex
  cases e2
  obtain ⟨a4', c4', e4, hs4, hr4, hm4⟩ := h4.ex
  cases e4
  have hl1 := h1.length
  have HAW := Lib.hid (fun w' (R : List Asrt) (h' : In [] W w' R) => o_awake6 h')
  have H0 := Lib.hid (Own.nil W)
  by_cases k1 : 12 < len1
  · have q1 : (12 : Int) < (len1 : Int) := by omega
    have K := Lib.hid (HAW.out W [] H0.out)
    clear h1 h2 h4 hc2 hs4 HAW H0 k1 wsz wf
    go_enter Tryz.func5, Tryz.ntmps5
    go_wp2_with fail
    refine K.out.mono ?_
    rintro e w1 ⟨rfl, g⟩
    have G := Lib.hid g.mod
    clear g K
    go_wp2_with fail
    go_ret
    exact ⟨rfl, G.out⟩
  have q1 : decide ((12 : Int) < (len1 : Int)) = false := decide_eq_false (by omega)
  by_cases k2 : 12 < Rs.length
  · have q2 : (12 : Int) < (Rs.length : Int) := by omega
    have K := Lib.hid (HAW.out W [] H0.out)
    clear h1 h2 h4 hc2 hs4 HAW H0 k1 k2 wsz wf
    go_enter Tryz.func5, Tryz.ntmps5
    go_wp2_with fail
    refine K.out.mono ?_
    rintro e w1 ⟨rfl, g⟩
    have G := Lib.hid g.mod
    clear g K
    go_wp2_with fail
    go_ret
    exact ⟨rfl, G.out⟩
  have q2 : decide ((12 : Int) < (Rs.length : Int)) = false := decide_eq_false (by omega)
  have KN := Lib.hid (o_dnew H0.out 200000 (by omega) (by omega))
  have H1 := Lib.hid h1
  have HC2 := Lib.hid hc2
  have H4 := Lib.hid (And.intro h4 (And.intro hs4 (And.intro hr4 hm4)))
  have HN := Lib.hid (And.intro (Nat.le_of_not_lt k1) (Nat.le_of_not_lt k2))
  have HL1 := Lib.hid hl1
  clear h1 h2 h4 hc2 hs4 H0 hr2 hm2 hr4 hm4 k1 k2 wsz wf hl1
  go_enter Tryz.func5, Tryz.ntmps5
  go_wp2_with fail
  refine KN.out.mono ?_
  rintro e w1 ⟨bd, rfl, g1⟩
  generalize wrap64 ((IntKind.u64.wrap size).tmod 400) = z at *
  obtain ⟨d0, hc0, hst⟩ := OpSt.start (M := 12) (ver := 1) L 7 z (by omega) (by omega)
  have C1 := Lib.hid (o_create g1 (by decide) 1 z)
  have hc0' : createD 1 z (dNew 200000) = (d0, some ⟨sized z, firstM 1, false⟩, 0) := hc0
  rw [hc0'] at C1
  have HST := Lib.hid hst
  clear g1 hc0 hc0' hst KN
  go_wp2_with fail
  refine C1.out.mono ?_
  intro e w2 hp
  obtain ⟨lb, rfl, g2⟩ := hp.some rfl
  have HR : Hid (SsRel bd lb (sized z) L W (.slice none 0 0) (.int .i64 0) w2) := Lib.hid ⟨0, d0, _, [], [], Nat.zero_le _, rfl, HST.out, rfl, ⟨rfl, by simp⟩, (g2.rownil 40 3).sel2 (R1 := [_, _, _]) [1, 2, 0] (by decide) rfl⟩
  clear hp g2 C1 HST
  go_wp2_with fail
  go_loopw [14, 50] (SsRel bd lb (sized z) L W) (fun _ k _ => len1 - (intOf k).toNat)
  case atStart => exact HR.out
  case round =>
    obtain ⟨k, d, l, vs, Fr, hk, rfl, hst, hFr, hab, ho⟩ := hrel
    clear HR
    have hk12 : k ≤ 12 := by have := HN.out.1; have := HL1.out; omega
    by_cases hlt : k < len1
    · obtain ⟨x, hx⟩ : ∃ x, L[k]? = some x := ⟨L[k]'(by have := HL1.out; omega), List.getElem?_eq_getElem _⟩
      obtain ⟨gx, ox, vx, rfl, cx, hax⟩ := H1.out.at' k x hx
      obtain ⟨ax, capx, rfl, sx, hxc, hxm⟩ := hax.ex
      have cx' := cell_old ho cx
      have hlt' : (k : Int) < (len1 : Int) := Int.ofNat_lt.2 hlt
      have hw2 : wrap64 ((k : Int) + 1) = (k : Int) + 1 := by unfold wrap64; omega
      by_cases h3 : 200 < x.length
      · have q3 : (200 : Int) < (x.length : Int) := by omega
        have K := Lib.hid (HAW.out wr _ ho)
        clear ho hst hax cx sx hx h3 hFr hab hk hlt hxc hxm
        go_wp2_with fail
        refine K.out.mono ?_
        rintro e w3 ⟨rfl, g⟩
        have G := Lib.hid g.mod
        clear g K
        go_wp2_with fail
        go_ret
        exact ⟨rfl, G.out⟩
      · have q3 : decide ((200 : Int) < (x.length : Int)) = false := decide_eq_false (by omega)
        obtain ⟨b1, b2⟩ := hst.step hx (by omega) (by have := HN.out.1; omega) (by omega) (by omega) (by omega)
        have KA := Lib.hid (o_append (c := capx) ho (hst.ok (sized_ok z)) (by have := hst.ops; omega) 7 (A := ax) (body := x) (by omega) (fun w' h' => sx.old h'))
        rw [show ((7 : Nat) : Int) = 7 from rfl] at b1 b2
        rw [b1] at KA
        have HAB := Lib.hid hab
        have HST2 := Lib.hid (And.intro hx (And.intro b2 (And.intro hFr hax)))
        have hfl : Fr.length ≤ 20 := by rw [hFr, List.length_map, List.length_take]; omega
        have HFL := Lib.hid hfl
        generalize appendL 7 x (d, l) = r at *
        obtain ⟨⟨d2, l2⟩, re⟩ := r
        simp only at KA HST2
        obtain ⟨F3, r3⟩ := ho.get 2 rfl
        obtain ⟨au, cu, rfl, -, -, -⟩ := RowA.shape r3
        clear ho hst hax cx sx hx h3 b1 b2 hFr hab hk hlt hxc hxm hfl r3
        go_wp2_with fail
        refine KA.out.mono ?_
        rintro e w3 ⟨rfl, g3⟩
        have g5 := g3.cells #[.int .i64 7, .int .i64 1, .slice ax x.length capx] 40
        have G5 := Lib.hid g5
        have SB := Lib.hid (Src.of_block (k := 3) (g5.block 0 rfl) rfl)
        clear g3 g5 KA
        go_wp2_with (at_builtin; refine app_list rfl G5.out 3 rfl (.tmp 64) (.tmp 67) 33 (by rfl) Tryz.underlying33 infoFrame (by decide) (by decide) (by rfl) (by rfl) SB.out (fun u hu => by simp at hu; rcases hu with rfl | rfl | rfl <;> rfl) (Nat.le_trans (Nat.add_le_add_right HFL.out 1) (by decide)) ?_)
        intro v' w5 ho5 hg5
        have HN2 := Lib.hid (ss_step (v := v') HST2.out.1 HST2.out.2.1 HST2.out.2.2.1 HAB.out HST2.out.2.2.2 ho5)
        clear ho5 hg5 G5 SB HST2 HAB
        go_wp2_with fail
        go_roundw
        case rel => (try rw [hw2]); exact HN2.out
        case measure => (try rw [hw2]); exact meas_lt hlt'
    · have hge : (len1 : Int) ≤ (k : Int) := Int.ofNat_le.2 (Nat.le_of_not_lt hlt)
      obtain rfl : k = L.length := by have := HL1.out; omega
      rw [List.take_length] at hFr hab
      have hfirm := hst.firm
      rw [List.take_length] at hfirm
      have hFr2 : Fr = L.map (fun b => (⟨7, 1, b⟩ : FrD)) := hFr
      rw [← hFr2] at hfirm
      obtain ⟨s1, s2, s3⟩ := sync_lrm hfirm hst.loose hst.rm
      obtain ⟨_, _, s4⟩ := sync_inv (Fr0 := []) (s0 := 0) (Or.inl ⟨hst.loose, hfirm⟩)
      have hops := hst.ops
      have hso := syncL_ops (d, l)
      have KY := Lib.hid (o_lsync ho (hst.ok (sized_ok z)) (by omega))
      have hf2 : Firm (syncL (d, l)).1.1 l.m Fr Fr.length := by
        rcases s4 with ⟨_, _, h⟩ | ⟨h, _⟩
        · exact h
        · exact absurd s1 h
      have hlo := hst.loose
      have hlok := hst.ok (sized_ok z)
      generalize syncL (d, l) = r at *
      obtain ⟨⟨d1, l1⟩, re⟩ := r
      simp only at s1 s3 hf2 KY hso
      subst s1 s3
      have HF := Lib.hid (And.intro hf2 (And.intro hlo hlok))
      have HOP : Hid (d1.ops ≤ 2000) := Lib.hid (by omega)
      have HAB := Lib.hid (hab.frames (fs := Fr) (by rw [hFr, List.map_map]; simp [Function.comp_def, fr7]))
      have HFL : Hid (Fr.length ≤ 12) := Lib.hid (by rw [hFr, List.length_map]; exact hk12)
      obtain ⟨F3, r3⟩ := ho.get 2 rfl
      obtain ⟨au, cu, rfl, -, -, -⟩ := RowA.shape r3
      clear ho hst hFr hab hk hlt hfirm hFr2 s2 s4 hops hso hf2 hlo hlok hk12 r3
      go_wp2_with fail
      refine KY.out.mono ?_
      rintro e w3 ⟨rfl, g3⟩
      have HR2 : Hid (TsRel bd lb Rs d1 l1 (RowA 40 3 (.slice au Fr.length cu) Fr.length (flatFr Fr vs)) W (.slice none 0 0) (.int .i64 0) w3) := Lib.hid ⟨0, [], [], Nat.zero_le _, rfl, rfl, ⟨rfl, by simp⟩, by simp, (g3.rownil 40 3).sel2 (R1 := [_, _, _, _]) [1, 2, 3, 0] (by decide) rfl⟩
      clear g3 KY
      go_wp2_with fail
      go_loopw [15, 75] (TsRel bd lb Rs d1 l1 (RowA 40 3 (.slice au Fr.length cu) Fr.length (flatFr Fr vs)) W) (fun _ k _ => Rs.length - (intOf k).toNat)
      case atStart => exact HR2.out
      case round =>
        obtain ⟨k, vs2, Fn, hk, rfl, hFn, hab, hall, ho⟩ := hrel
        clear HR2
        by_cases hlt : k < Rs.length
        · obtain ⟨x, hx⟩ : ∃ x, Rs[k]? = some x := ⟨Rs[k], List.getElem?_eq_getElem hlt⟩
          obtain ⟨g, o, rfl, z0, z1, vb, z2, hvb⟩ := HC2.out k x hx
          obtain ⟨ab, cb, rfl, sb, hb1, hb2⟩ := hvb.ex
          have c0 := cell_old ho z0
          have c1 := cell_old ho z1
          have c2 := cell_old ho z2
          have hlt' : (k : Int) < (Rs.length : Int) := Int.ofNat_lt.2 hlt
          have hw2 : wrap64 ((k : Int) + 1) = (k : Int) + 1 := by have := HN.out.2; unfold wrap64; omega
          have h4 := ho.cells #[.int .i64 x.kind, .int .i64 x.ver, .slice ab x.body.length cb] 40
          unfold maxLen at hb2
          by_cases h3 : 200 < x.body.length
          · have q3 : (200 : Int) < (x.body.length : Int) := by omega
            have K := Lib.hid (HAW.out _ _ h4)
            clear ho h4 hvb sb z0 z1 z2 hx h3 hFn hab hk hlt hall hb1 hb2
            go_wp2_with fail
            refine K.out.mono ?_
            rintro e w4 ⟨rfl, g⟩
            have G := Lib.hid g.mod
            clear g K
            go_wp2_with fail
            go_ret
            exact ⟨rfl, G.out⟩
          · have q3 : decide ((200 : Int) < (x.body.length : Int)) = false := decide_eq_false (by omega)
            have HX := Lib.hid (And.intro hx (And.intro hFn (And.intro hab (And.intro hvb (And.intro hall (Nat.le_of_not_lt h3))))))
            have hfl : Fn.length ≤ 20 := by rw [hFn, List.length_map, List.length_take]; have := HN.out.2; omega
            have HFL2 := Lib.hid hfl
            have hkn := kindN_eq x.kind
            obtain ⟨F3, r3⟩ := ho.get 3 rfl
            obtain ⟨an, cn, rfl, -, -, -⟩ := RowA.shape r3
            have g5 := h4.cells #[.int .i64 (kindN x.kind), .int .i64 3, .slice ab x.body.length cb] 40
            simp only [World.size_alloc] at g5
            have G5 := Lib.hid g5
            have SB := Lib.hid (Src.of_block (k := 3) (g5.block 0 rfl) rfl)
            clear ho h4 hvb sb z0 z1 z2 hx h3 hFn hab hk hlt hall hb1 hb2 hfl r3 g5
            go_wp2_with (at_builtin; rw [hkn]; refine app_list rfl G5.out 5 rfl (.tmp 84) (.tmp 93) 33 (by rfl) Tryz.underlying33 infoFrame (by decide) (by decide) (by rfl) (by rfl) SB.out (fun u hu => by simp at hu; rcases hu with rfl | rfl | rfl <;> rfl) (Nat.le_trans (Nat.add_le_add_right HFL2.out 1) (by decide)) ?_)
            intro v' w5 ho5 hg5
            have HN2 := Lib.hid (ts_step (v := v') HX.out.1 HX.out.2.1 HX.out.2.2.1 HX.out.2.2.2.1 HX.out.2.2.2.2.1 HX.out.2.2.2.2.2 ho5)
            clear ho5 hg5 G5 SB HX
            go_wp2_with fail
            go_roundw
            case rel => (try rw [hw2]); exact HN2.out
            case measure => (try rw [hw2]); exact meas_lt hlt'
        · have hge : (Rs.length : Int) ≤ (k : Int) := Int.ofNat_le.2 (Nat.le_of_not_lt hlt)
          have hkl : Rs.take k = Rs := List.take_of_length_le (Nat.le_of_not_lt hlt)
          rw [hkl] at hFn hab hall
          have hR : ∀ f ∈ Fn, FrOk f ∧ f.ver = 3 := fun f hf => by
            rw [hFn] at hf
            obtain ⟨r, hr, rfl⟩ := List.mem_map.1 hf
            exact ⟨⟨kindN_lt _, (by show (3 : Nat) < 256; decide), Nat.le_trans (hall r hr) (by decide)⟩, rfl⟩
          have hnl : Fn.length ≤ 12 := by rw [hFn, List.length_map]; exact HN.out.2
          have hfr2 := hab.frames (fs := Fn) (by rw [hFn, List.map_map]; simp [Function.comp_def, frN])
          generalize hzf : wrap64 ((IntKind.u64.wrap fault).tmod 40) = zf
          obtain ⟨X, d2, lo, he, hx1, hx2⟩ := swap_crash HF.out.2.1 HF.out.1 zf Fn hR p z
          have hbl : ∀ b ∈ Fn.map frBytes, b.length ≤ 5000 := fun b hb => by
            obtain ⟨f, hf, rfl⟩ := List.mem_map.1 hb
            exact frB_len (hR f hf).1
          have hso := swapL_ops (ver := 3) (d := dFail d1 zf) HF.out.2.2 hbl
          rw [List.length_map] at hso
          obtain ⟨F3, r3⟩ := ho.get 3 rfl
          obtain ⟨an, cn, rfl, -, -, -⟩ := RowA.shape r3
          have hfu : FrU [] W [RowA 40 3 (.slice au Fr.length cu) Fr.length (flatFr Fr vs), RowA 40 3 (.slice an Fn.length cn) Fn.length (flatFr Fn vs2)] an Fn := frArg_u ho.drop.drop 1 rfl hfr2.1 hfr2.2
          have hfu0 : FrU [] W [RowA 40 3 (.slice au Fr.length cu) Fr.length (flatFr Fr vs), RowA 40 3 (.slice an Fn.length cn) Fn.length (flatFr Fn vs2)] au Fr := frArg_u ho.drop.drop 0 rfl HAB.out.1 HAB.out.2
          have KF := Lib.hid (o_dfail ho 1 rfl (Nat.le_trans HOP.out (by decide)) zf)
          have KS : Hid (∀ w', In [] W w' (LgA lb bd l1 :: DkA bd (dFail d1 zf) :: [RowA 40 3 (.slice au Fr.length cu) Fr.length (flatFr Fr vs), RowA 40 3 (.slice an Fn.length cn) Fn.length (flatFr Fn vs2)]) → Calls Tryz.prog 27 #[dptr lb, .int .i64 3, .slice an Fn.length cn] w' (SwapPost lb bd (swapL 3 (Fn.map frBytes) (dFail d1 zf, l1)) [] W [RowA 40 3 (.slice au Fr.length cu) Fr.length (flatFr Fr vs), RowA 40 3 (.slice an Fn.length cn) Fn.length (flatFr Fn vs2)])) := Lib.hid fun w' h' =>
            o_swap (ver := 3) h' HF.out.2.2 (Nat.le_trans HOP.out (by decide)) (by decide) hfu (fun f hf => (hR f hf).1) (Nat.le_trans hnl (by decide))
          have hdo : (dFail d1 zf).ops = d1.ops := rfl
          have HSO : Hid ((swapL 3 (Fn.map frBytes) (dFail d1 zf, l1)).1.1.ops ≤ 99000000) := Lib.hid (by have := HOP.out; omega)
          generalize swapL 3 (Fn.map frBytes) (dFail d1 zf, l1) = r at *
          obtain ⟨⟨d3, l3⟩, re⟩ := r
          simp only at hx1 he HSO
          have KC := Lib.hid (fun w' (h' : In [] W w' [LgA lb bd l3, DkA bd d3, RowA 40 3 (.slice au Fr.length cu) Fr.length (flatFr Fr vs), RowA 40 3 (.slice an Fn.length cn) Fn.length (flatFr Fn vs2)]) => o_dcrash_arg h' 1 rfl (Nat.le_trans HSO.out (by decide)) H4.out.2.1 H4.out.2.2.1 H4.out.2.2.2)
          have KT := Lib.hid (fun w' (R : List Asrt) (h' : In [] W w' (DkA bd (dCrash d3 p) :: R)) => o_told h' (Nat.le_trans HSO.out (by decide)) z)
          rw [he] at KT
          simp only at KT
          have HX := Lib.hid (And.intro hx1 hx2)
          have HFU := Lib.hid (And.intro hfu hfu0)
          have HNL := Lib.hid hnl
          clear ho hFn hab hall hR hfr2 he hx1 hx2 hbl hso r3 hfu hfu0 hdo hk hkl hlt hnl HAB
          go_wp2_with fail
          rw [hzf]
          refine KF.out.mono ?_
          rintro e w4 ⟨rfl, g4⟩
          have K5 := Lib.hid (KS.out w4 g4)
          clear g4 KF KS
          go_wp2_with fail
          refine K5.out.mono ?_
          rintro e w5 ⟨rfl, g5⟩
          have K6 := Lib.hid (KC.out w5 g5)
          clear g5 K5 KC
          go_wp2_with fail
          refine K6.out.mono ?_
          rintro e w6 ⟨rfl, g6⟩
          have K7 := Lib.hid (KT.out w6 _ (g6.sel2 (R1 := [_, _, _, _]) [1, 2, 3] (by decide) rfl))
          clear g6 K6 KT
          go_wp2_with fail
          refine K7.out.mono ?_
          rintro e w7 ⟨v7, rfl, g7⟩
          obtain ⟨F7, q7⟩ := g7.get 0 rfl
          obtain ⟨A7, C7, rfl⟩ := frsA_shape q7
          have hXl : X.length ≤ 1000000000 := by
            rcases HX.out.2 with e | e
            · rw [e]; have := HNL.out; omega
            · rw [e]; have := HFL.out; omega
          have g8 : In [] W w7 [FrsA (.slice A7 X.length C7) X, DkA bd d2, RowA 40 3 (.slice au Fr.length cu) Fr.length (flatFr Fr vs), RowA 40 3 (.slice an Fn.length cn) Fn.length (flatFr Fn vs2)] := g7
          have K1 := Lib.hid (o_samefs (ca := C7) (cb := cn) (fs := X) (gs := Fn) (a := A7) (b := an) g8 (fun w' h' => (frsA_at (h'.get 0 rfl).choose_spec).2) (fun w' h' => HFU.out.1.at h'.drop.drop) hXl (Nat.le_trans HNL.out (by decide)))
          have K2 := Lib.hid (fun w' (h' : In [] W w' [FrsA (.slice A7 X.length C7) X, DkA bd d2, RowA 40 3 (.slice au Fr.length cu) Fr.length (flatFr Fr vs), RowA 40 3 (.slice an Fn.length cn) Fn.length (flatFr Fn vs2)]) => o_samefs (ca := C7) (cb := cu) (fs := X) (gs := Fr) (a := A7) (b := au) h' (fun w' h' => (frsA_at (h'.get 0 rfl).choose_spec).2) (fun w' h' => HFU.out.2.at h'.drop.drop) hXl (Nat.le_trans HFL.out (by decide)))
          have KW := Lib.hid (fun w' (h' : In [] W w' [FrsA (.slice A7 X.length C7) X, DkA bd d2, RowA 40 3 (.slice au Fr.length cu) Fr.length (flatFr Fr vs), RowA 40 3 (.slice an Fn.length cn) Fn.length (flatFr Fn vs2)]) => HAW.out w' _ h')
          clear g7 g8 q7 K7 HAW hXl
          by_cases hX : X = Fn
          · rw [decide_eq_true hX] at K1
            clear K2 hX HX
            by_cases hre : re = 0
            · have HZ := Lib.hid hre
              clear hre
              rw [HZ.out]
              go_wp2_with fail
              refine K1.out.mono ?_
              rintro e w8 ⟨rfl, g9⟩
              have K9 := Lib.hid (KW.out w8 g9)
              clear g9 K1 KW
              go_wp2_with fail
              refine K9.out.mono ?_
              rintro e w9 ⟨rfl, g10⟩
              have G := Lib.hid g10.mod
              clear g10 K9
              go_wp2_with fail
              go_ret
              exact ⟨rfl, G.out⟩
            · have q : (re == 0) = false := beq_eq_false_iff_ne.2 hre
              clear hre
              go_wp2_with fail
              refine K1.out.mono ?_
              rintro e w8 ⟨rfl, g9⟩
              have K9 := Lib.hid (KW.out w8 g9)
              clear g9 K1 KW
              go_wp2_with fail
              refine K9.out.mono ?_
              rintro e w9 ⟨rfl, g10⟩
              have G := Lib.hid g10.mod
              clear g10 K9
              go_wp2_with fail
              go_ret
              exact ⟨rfl, G.out⟩
          · have hre : re ≠ 0 := fun e => hX (HX.out.1 e)
            have hX2 : X = Fr := HX.out.2.resolve_left hX
            have q : (re == 0) = false := beq_eq_false_iff_ne.2 hre
            rw [decide_eq_false hX] at K1
            rw [decide_eq_true hX2] at K2
            clear hX hX2 hre HX
            go_wp2_with fail
            refine K1.out.mono ?_
            rintro e w8 ⟨rfl, g9⟩
            have K3 := Lib.hid (K2.out w8 g9)
            clear g9 K1 K2
            go_wp2_with fail
            refine K3.out.mono ?_
            rintro e w9 ⟨rfl, g10⟩
            have K9 := Lib.hid (KW.out w9 g10)
            clear g10 K3 KW
            go_wp2_with fail
            refine K9.out.mono ?_
            rintro e w10 ⟨rfl, g11⟩
            have G := Lib.hid g11.mod
            clear g11 K9
            go_wp2_with fail
            go_ret
            exact ⟨rfl, G.out⟩
end Go.Proofs.YtogclkhpbjfadaaGreat
