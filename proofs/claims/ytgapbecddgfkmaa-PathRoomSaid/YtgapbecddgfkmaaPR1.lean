/- Rows.PathRoomSaid -/
import Derived.Test.YtgapbecddgfkmaaPN18
import Derived.Test.YtgapbecddgfkmaaPN20
import Derived.Test.YtgapbecddgfkmaaPN21
import Derived.Deep.DeepCutAuto
namespace Go.Proofs.Ytgapbecddgfkmaa
open Go.RowKit
set_option linter.unusedVariables false
set_option maxHeartbeats 64000000
set_option maxRecDepth 100000
theorem table1 : tableM [⟨1, 1, 1⟩] 13 = List.replicate 13 1 := by decide +kernel
def b1R : Bk := ⟨1, 1, 1⟩
def c1R : ChD := ⟨13, [⟨1, 1, 1⟩], List.replicate 13 1, 1⟩
theorem set1R : setCh (newCh 13) [⟨1, 1, 1⟩] noneOut = (c1R, 0) := by
  have h : gensMay [⟨1, 1, 1⟩] = true := by decide
  unfold setCh
  rw [if_pos h, withoutL_none]
  show (_, _) = _
  rw [show (newCh 13).slots = 13 from rfl, table1]
  rfl
theorem chOk1R : ChOk c1R := ⟨by decide, by decide, by decide, fun x hx => by simp [c1R] at hx; subst hx; decide⟩
def kR (i : Nat) : Tup := ⟨i, 0, 6, 0, 0⟩
def fR (i : Nat) : Fl := ⟨kR i, 1, 1, 0⟩
theorem kR_wf {i : Nat} (h : i < 4294967296) : WfT (kR i) := by constructor <;> simp only [kR] <;> omega
theorem kR_may (i : Nat) : MayT (kR i) := ⟨Or.inl rfl, by simp [kR], by simp [kR], by simp [kR], by simp [kR]⟩
theorem fR_may (i : Nat) : MayF (fR i) := by constructor <;> first | exact kR_may i | (simp only [fR]; omega)
theorem kR_inj {i j : Nat} (h : kR i = kR j) : i = j := by
  have := congrArg Tup.src h
  simp only [kR] at this; omega
def rowR (a : Nat) : Nat → List Fl
  | 0 => []
  | i + 1 => (putF a (rowR a i) (fR i)).1
structure RowR (a i : Nat) : Prop where
  len : (rowR a i).length = min i a
  mem : ∀ x ∈ rowR a i, ∃ j, j < i ∧ x = fR j
  nodup : ((rowR a i).map (·.t)).Nodup
  first : 0 < i → 0 < a → fR 0 ∈ rowR a i
theorem at_none {L : List Fl} {k : Tup} (h : ∀ x ∈ L, x.t ≠ k) : atF L k = none := List.find?_eq_none.2 (fun x hx => by simpa using h x hx)
theorem at_some {L : List Fl} {f : Fl} (hm : f ∈ L) (hn : (L.map (·.t)).Nodup) : atF L f.t = some f := by
  unfold atF
  induction L with
  | nil => cases hm
  | cons y r ih =>
    rw [List.map_cons, List.nodup_cons] at hn
    by_cases hy : y.t = f.t
    · rw [List.find?_cons_of_pos (by simpa using hy)]
      rcases List.mem_cons.1 hm with rfl | hm
      · rfl
      · exact absurd (List.mem_map.2 ⟨f, hm, hy.symm⟩) hn.1
    · rw [List.find?_cons_of_neg (by simpa using hy)]
      rcases List.mem_cons.1 hm with rfl | hm
      · exact absurd rfl hy
      · exact ih hm hn.2
theorem rowR_new {a i j : Nat} (h : RowR a i) (hj : i ≤ j) : ∀ x ∈ rowR a i, x.t ≠ kR j := fun x hx e => by
  obtain ⟨l, hl, rfl⟩ := h.mem x hx
  have := kR_inj e; omega
theorem put_new {a : Nat} {L : List Fl} {j : Nat} (h : ∀ x ∈ L, x.t ≠ kR j) : putF a L (fR j) = if a ≤ L.length then (L, false, 9) else (insF (fR j) L, true, 0) := by
  unfold putF
  have e : (fR j).t = kR j := rfl
  rw [if_neg (fun hn => hn (fR_may j)), e, at_none h, del_none (at_none h)]
  by_cases h2 : a ≤ L.length
  · rw [if_pos h2, if_pos ⟨rfl, by omega⟩]
  · rw [if_neg h2, if_neg (fun hn => h2 (by have := hn.2; omega))]; rfl
theorem rowR_ok (a : Nat) : ∀ i, RowR a i
  | 0 => ⟨by simp [rowR], fun x hx => by simp [rowR] at hx, by simp [rowR], fun h => by omega⟩
  | i + 1 => by
    have h := rowR_ok a i
    have e : rowR a (i + 1) = if a ≤ (rowR a i).length then rowR a i else insF (fR i) (rowR a i) := by
      rw [rowR, put_new (rowR_new h (Nat.le_refl _))]; split <;> rfl
    have hl := h.len
    by_cases h2 : a ≤ (rowR a i).length
    · rw [if_pos h2] at e
      exact ⟨by rw [e]; omega, fun x hx => by rw [e] at hx; obtain ⟨j, h1, h3⟩ := h.mem x hx; exact ⟨j, by omega, h3⟩, by rw [e]; exact h.nodup, fun _ ha => by rw [e]; exact h.first (by omega) ha⟩
    · rw [if_neg h2] at e
      have hp := insF_perm (fR i) (rowR a i)
      refine ⟨by rw [e, hp.length_eq, List.length_cons]; omega, fun x hx => ?_, ?_, fun _ ha => ?_⟩
      · rw [e] at hx
        rcases List.mem_cons.1 (hp.mem_iff.1 hx) with rfl | hx
        · exact ⟨i, by omega, rfl⟩
        · obtain ⟨j, h1, h3⟩ := h.mem x hx; exact ⟨j, by omega, h3⟩
      · rw [e]
        refine (hp.map (·.t)).nodup_iff.2 ?_
        rw [List.map_cons, List.nodup_cons]
        exact ⟨fun hm => by obtain ⟨x, hx, he⟩ := List.mem_map.1 hm; exact rowR_new h (Nat.le_refl _) x hx he, h.nodup⟩
      · rw [e]
        refine hp.mem_iff.2 (List.mem_cons.2 ?_)
        by_cases hi : i = 0
        · subst hi; exact Or.inl rfl
        · exact Or.inr (h.first (by omega) ha)
theorem choiceR {L : List Fl} {j : Nat} (h : ∀ x ∈ L, x.t ≠ kR j) : choiceD L c1R (kR j) = some ⟨1, 1, 1⟩ := by
  unfold choiceD
  rw [at_none h]
  exact pick_one rfl rfl rfl (kR_may j)
theorem newR {a : Nat} {L : List Fl} {j : Nat} (hj : j < 4294967296) (h : ∀ x ∈ L, x.t ≠ kR j) : ∃ pk, pktD 168364297 1500 a L c1R 1 0 (madeD (kR j) 9 0 []) = (⟨2, 0, 1, pk, if a ≤ L.length then [] else [putRec (fR j)]⟩, (putF a L (fR j)).1) := by
  obtain ⟨pk, e⟩ := made_goes (self := 168364297) (mtu := 1500) (most := a) (gen := 1) (now := 0) (L := L) (c := c1R) (kR_wf hj) (kR_may j) 9 0 [] (by decide) (by decide) (choiceR h) (by decide) (by rw [innerL_length]; show ¬ min 1500 2000 < 40 + _; rw [if_pos (show (kR j).proto = 6 from rfl)]; decide)
  refine ⟨pk, e.trans ?_⟩
  have e1 : (decide ((kR j).proto = 6) && decide (u64 0 % 256 &&& 5 ≠ 0)) = false := by
    rw [show u64 0 % 256 &&& 5 = 0 from by decide]; simp
  rw [e1, at_none h]
  have e2 : keepD a L ⟨kR j, 1, 1, 0⟩ (none : Option Fl).isSome (wasD L (kR j)) false = (if a ≤ L.length then [] else [putRec (fR j)], (putF a L (fR j)).1) := by
    unfold keepD
    rw [if_neg (by decide), if_neg (by simp)]
    show (if (putF a L (fR j)).2.2 = 0 then ([putRec (fR j)], (putF a L (fR j)).1) else ([], (putF a L (fR j)).1)) = _
    rw [put_new h]
    by_cases h2 : a ≤ L.length
    · rw [if_pos h2]; simp [h2]
    · rw [if_neg h2]; simp [h2]
  rw [e2]
theorem endR {a : Nat} {L : List Fl} (hm : fR 0 ∈ L) (hn : (L.map (·.t)).Nodup) : ∃ pk, pktD 168364297 1500 a L c1R 1 0 (madeD (kR 0) 9 1 []) = (⟨2, 0, 1, pk, [delRec (kR 0)]⟩, delF (kR 0) L) := by
  have ha : atF L (kR 0) = some (fR 0) := at_some hm hn
  have hc : choiceD L c1R (kR 0) = some ⟨1, 1, 1⟩ := by
    unfold choiceD; rw [ha]; rfl
  obtain ⟨pk, e⟩ := made_goes (self := 168364297) (mtu := 1500) (most := a) (gen := 1) (now := 0) (L := L) (c := c1R) (kR_wf (by decide)) (kR_may 0) 9 1 [] (by decide) (by decide) hc (by decide) (by rw [innerL_length]; decide)
  refine ⟨pk, e.trans ?_⟩
  have e1 : (decide ((kR 0).proto = 6) && decide (u64 1 % 256 &&& 5 ≠ 0)) = true := by decide
  rw [e1, ha]
  rfl
theorem del_len {L : List Fl} (hm : fR 0 ∈ L) (hn : (L.map (·.t)).Nodup) : (delF (kR 0) L).length + 1 = L.length := by
  induction L with
  | nil => cases hm
  | cons y r ih =>
    rw [List.map_cons, List.nodup_cons] at hn
    by_cases hy : y.t = kR 0
    · have : ∀ x ∈ r, x.t ≠ kR 0 := fun x hx e => hn.1 (List.mem_map.2 ⟨x, hx, e.trans hy.symm⟩)
      have e : delF (kR 0) (y :: r) = delF (kR 0) r := by unfold delF; rw [List.filter_cons_of_neg (by simp [notT, hy])]
      rw [e, del_none (at_none this)]; rfl
    · have e : delF (kR 0) (y :: r) = y :: delF (kR 0) r := by unfold delF; rw [List.filter_cons_of_pos (by simp [notT, hy])]
      rw [e, List.length_cons, List.length_cons]
      rcases List.mem_cons.1 hm with rfl | hm
      · exact absurd rfl hy
      · rw [ih hm hn.2]
section
variable {F0 : List Nat} {w0 w : World} {R : List Asrt}
theorem o_kR {i : Nat} (hi : i < 4294967296) (h : In F0 w0 w R) : Calls Try.prog 12 #[.int .i64 i] w fun e w' => e = .returned (.agg (encT (kR i))) ∧ In F0 w0 w' R := by
  have hw : IntKind.u32.wrap (i : Int) = (i : Int) := u32_small (by omega) (by omega)
  have G := Lib.hid (h.alloc (.cells (encT (kR i)) 46))
  clear h
  go_enter Try.func12, Try.ntmps12
  go_wp2_with fail
  exact bodyPost_ret (results_cell_row Try.results12 _ _ w.heap.size 46 _ (0, 0) _ rfl (heap_alloc_new _ _) Try.underlying46 rfl (by kernel_rfl)) rfl ⟨rfl, G.out⟩
def RmRel (bt cb a b : Nat) (vl vt : Value) (F0 : List Nat) (w0 : World) (R : List Asrt) (v : Value) (wr : World) : Prop := ∃ i : Nat, v = .int .i64 i ∧ i ≤ b ∧ In F0 w0 wr (FA bt a 1000 (rowR a i) :: ChL cb c1R vl vt R)
end
theorem cutN (n : Int) {m : Int} (h0 : 0 < m) (h1 : m ≤ 1000000) : ∃ N : Nat, wrap64 ((IntKind.u64.wrap n).tmod m) = (N : Int) ∧ (N : Int) < m := by
  have hw : 0 ≤ IntKind.u64.wrap n := by rw [u64_eq]; omega
  rw [Int.tmod_eq_emod_of_nonneg hw]
  have e1 := Int.emod_nonneg (IntKind.u64.wrap n) (show m ≠ 0 by omega)
  have e2 := Int.emod_lt_of_pos (IntKind.u64.wrap n) h0
  refine ⟨(IntKind.u64.wrap n % m).toNat, ?_, by omega⟩
  generalize IntKind.u64.wrap n % m = z at *
  unfold wrap64; omega
theorem rec_kind {F0 : List Nat} {w0 w : World} {R : List Asrt} {a : Option Addr} {n c : Nat} {r : Rec} {l : List Rec} (h : In F0 w0 w R) (i : Nat) (hA : R[i]? = some (RecR (.slice a n c) (r :: l))) : ∃ g, a = some ⟨g, 0, none⟩ ∧ w.cell? ⟨g, 0, none⟩ = some (.int .i64 r.kind) := by
  obtain ⟨F, rr⟩ := h.get i hA
  obtain ⟨a', c', e, _, _, hat⟩ := RowA.shape rr
  rw [Value.slice.injEq] at e
  obtain ⟨g, e2, hc⟩ := hat 0 (.int .i64 r.kind) rfl
  exact ⟨g, e.1.trans e2, hc⟩
theorem madeD_len (k : Tup) (ttl flags : Int) : (madeD k ttl flags []).length = if k.proto = 6 then 40 else 28 := by
  unfold madeD
  rw [List.length_append, buildD_length, innerL_length]
  split <;> simp
theorem walk_PathRoom (w : World) (x : Int) (hx : (Lit.int .i64 x).wf = true) (y : Int) (hy : (Lit.int .i64 y).wf = true) : Calls Try.prog 4 #[.int .i64 x, .int .i64 y] w (TruePost w) := by
  obtain ⟨a, ha, ha2⟩ := cutN x (m := 10) (by omega) (by omega)
  obtain ⟨b, hb, hb2⟩ := cutN y (m := 20) (by omega) (by omega)
  have ha3 : a < 10 := by omega
  have hb3 : b < 20 := by omega
  have HA := Lib.hid ha
  have HB := Lib.hid hb
  have h0 := In.start (w := w) (R := []) (F := []) (by simp) rfl
  have K00 := o_fnew h0 a 1000
  rw [show clampM (a : Int) = a from by unfold clampM; omega, show clampI 1000 = 1000 from by decide] at K00
  have K0 := Lib.hid K00
  have K1 := Lib.hid (fun w' (R' : List Asrt) (h' : In [] w w' R') => o_chnew may13 cov13 h')
  have K2 := Lib.hid (fun w' cb g vl vt (R' : List Asrt) (h' : In [] w w' (Cells g (encBa ⟨1, 1, 1⟩) 43 :: ChL cb (newCh 13) vl vt R')) => o_chset1 (x := ⟨1, 1, 1⟩) (by decide) rfl h')
  have KC := Lib.hid (fun (n : Int) w' (R' : List Asrt) (h' : In [] w w' R') => o_config n h')
  have KR := Lib.hid (fun (i : Nat) w' (R' : List Asrt) (hi : i < 4294967296) (h' : In [] w w' R') => o_kR hi h')
  have KA := Lib.hid (fun w' (R' : List Asrt) (h' : In [] w w' R') => o_awake23 h')
  have HS := Lib.hid set1R
  have eg : ∀ args w, (callFunc 12 args).run Try.prog w = .ok (.enter 12 args) w := enters_of Try.func12 (by kernel_rfl) rfl
  clear h0 K00 hx hy ha hb ha2 hb2
  go_enter Try.func4, Try.ntmps4
  go_wp2_with fail
  rw [HA.out, HB.out]
  clear HA HB
  refine K0.out.mono ?_
  rintro e w1 ⟨bt, rfl, ho⟩
  have K1H := Lib.hid (K1.out _ _ ho)
  clear ho K0 K1
  go_wp2_with fail
  refine K1H.out.mono ?_
  rintro e w2 ⟨cb, a2, n2, rfl, ho⟩
  have h2 := ho.cells (encBa ⟨1, 1, 1⟩) 43
  have K2H := K2.out _ _ _ _ _ _ h2
  rw [HS.out] at K2H
  have K2G := Lib.hid K2H
  clear ho h2 K2 K1H K2H HS
  go_wp2_with fail
  refine K2G.out.mono ?_
  rintro e w3 ⟨vl, vt, rfl, ho⟩
  have HR0 : Hid (RmRel bt cb a b vl vt [] w [] (.int .i64 0) w3) := Lib.hid ⟨0, rfl, Nat.zero_le _, ho.sel2 (R1 := [_, _, _, _]) [3, 0, 1, 2] (by decide) rfl⟩
  clear ho K2G
  go_wp2_with fail
  go_loopw [29] (RmRel bt cb a b vl vt [] w []) (fun v _ => b - (intOf v).toNat)
  case atStart => exact HR0.out
  case round =>
    obtain ⟨i, rfl, hi, ho⟩ := hrel
    clear HR0
    have hrow := rowR_ok a i
    by_cases hlt : i < b
    · have hix : (i : Int) < (b : Int) := by omega
      have hw2 : wrap64 ((i : Int) + 1) = (i : Int) + 1 := by unfold wrap64; omega
      have hnew := rowR_new hrow (Nat.le_refl i)
      obtain ⟨pk, hpk⟩ := newR (a := a) (j := i) (by omega) hnew
      obtain ⟨rc, hrc⟩ : ∃ rc, rc = (if a ≤ (rowR a i).length then [] else [putRec (fR i)] : List Rec) := ⟨_, rfl⟩
      rw [← hrc] at hpk
      have hrl : (a ≤ i ∧ rc.length = 0) ∨ (¬ a ≤ i ∧ rc.length = 1) := by
        rw [hrc, hrow.len]
        by_cases h : a ≤ i
        · left; rw [if_pos (by omega)]; exact ⟨h, rfl⟩
        · right; rw [if_neg (by omega)]; exact ⟨h, rfl⟩
      have HRL := Lib.hid hrl
      have HREL : Hid (∀ wz, In [] w wz (FA bt a 1000 (putF a (rowR a i) (fR i)).1 :: ChL cb c1R vl vt []) → RmRel bt cb a b vl vt [] w [] (.int .i64 ((i : Int) + 1)) wz) := Lib.hid fun wz hz => ⟨i + 1, by rw [Int.natCast_add]; rfl, hlt, hz⟩
      generalize (putF a (rowR a i) (fR i)).1 = L2 at *
      generalize rowR a i = L at *
      have hml : (madeD (kR i) 9 0 []).length ≤ 100000000 := by rw [madeD_len]; split <;> decide
      have KM0 := fun w' (R' : List Asrt) (h' : In [] w w' R') => o_made h' (kR_wf (i := i) (by omega)) 9 0 (A := none) (c := 0) (body := []) bytes_nil (by decide)
      have KP0 := fun w' v n (h' : In [] w w' (ByR (.slice v (madeD (kR i) 9 0 []).length n) (madeD (kR i) 9 0 []) :: FA bt a 1000 L :: ChL cb c1R vl vt [])) => o_pktown (self := 168364297) (sl := 13) (fl := a) (idle0 := 20) (mtu := 1500) (sg := 200) (qu := 20000) (ve := 3) (by decide) chOk1R (gen := 1) (now := 0) hml h'
      rw [hpk] at KP0
      generalize madeD (kR i) 9 0 [] = m1 at *
      have KM1 := Lib.hid KM0
      have KP1 := Lib.hid KP0
      have KC1 := Lib.hid (KC.out a _ _ ho)
      clear KM0 KP0 hpk hml ho
      clear hrow hnew hrc hrl
      have hib : i < 4294967296 := by omega
      go_wp2_with fail
      refine KC1.out.mono ?_
      rintro e w11 ⟨rfl, ho⟩
      have KR1 := Lib.hid (KR.out i _ _ hib ho)
      clear ho KC1
      go_wp2_with fail
      refine KR1.out.mono ?_
      rintro e w21 ⟨rfl, ho⟩
      have KMM1 := Lib.hid (KM1.out _ _ ho)
      clear ho KR1 KM1
      go_wp2_with fail
      refine KMM1.out.mono ?_
      rintro e w31 ⟨v3, rfl, ho⟩
      obtain ⟨a3, n3, rfl⟩ := ByR.shape ho
      have KPP1 := Lib.hid (KP1.out _ _ _ ho)
      clear ho KMM1 KP1
      go_wp2_with fail
      refine KPP1.out.mono ?_
      rintro e w41 ⟨vp, vr, rfl, ho⟩
      obtain ⟨ap, np, rfl⟩ := ByR.shape ho
      obtain ⟨Fr, rr⟩ := ho.get 1 rfl
      obtain ⟨ar, nr, rfl, -, -, -⟩ := RowA.shape rr
      clear rr KPP1
      have h5 := ho.cells (plC 2 0 1 (.slice ap pk.length np) (.slice ar rc.length nr)) 27
      have p0 := cell_of (o := 0) (v := .int .i64 2) (h5.block 0 rfl) rfl
      have p4 := cell_of (o := 4) (v := .slice ar rc.length nr) (h5.block 0 rfl) rfl
      have HR1 := Lib.hid (HREL.out _ (h5.sel2 (R1 := [_, _, _, _, _, _, _]) [3, 4, 5, 6] (by decide) rfl))
      clear ho h5 HREL
      have hrl2 := HRL.out
      generalize rc.length = q at *
      clear HRL
      rcases hrl2 with ⟨hai, rfl⟩ | ⟨hai, rfl⟩
      · have q1 : decide ((i : Int) < (a : Int)) = false := decide_eq_false (by omega)
        have q1' : ¬ ((i : Int) < (a : Int)) := by omega
        clear hai
        go_wp2_with fail
        go_roundw
        case rel => (try rw [hw2]); exact HR1.out
        case measure => (try rw [hw2]); exact meas_lt hix
      · have q1 : (i : Int) < (a : Int) := by omega
        clear hai
        go_wp2_with fail
        go_roundw
        case rel => (try rw [hw2]); exact HR1.out
        case measure => (try rw [hw2]); exact meas_lt hix
    · have hge : (b : Int) ≤ (i : Int) := by omega
      have hib2 : i = b := by omega
      subst hib2
      have hlen := hrow.len
      by_cases hz : i = 0 ∨ a = 0
      · have hL0 : (rowR a i).length = 0 := by rw [hlen]; omega
        have hLn : rowR a i = [] := List.length_eq_zero_iff.1 hL0
        rw [hLn] at ho
        have K5 := Lib.hid (o_flen ho 0 rfl)
        have K6 := Lib.hid (KA.out _ _ ho)
        have hq : ((i : Int) == 0) = true ∨ (((i : Int) == 0) = false ∧ ((a : Int) == 0) = true) := by
          by_cases h : i = 0
          · left; subst h; rfl
          · right; exact ⟨beq_eq_false_iff_ne.2 (by omega), by rw [show a = 0 by omega]; rfl⟩
        clear ho hz hlen hrow hL0 hLn hlt hi KC KR
        rcases hq with hq | ⟨hq, hq2⟩
        all_goals
          go_wp2_with fail
          refine K5.out.mono ?_
          rintro e w5 ⟨rfl, rfl⟩
          clear K5
          go_wp2_with fail
          refine K6.out.mono ?_
          rintro e w6 ⟨rfl, ho⟩
          have G := Lib.hid ho.mod
          clear K6 ho
          go_wp2_with fail
          go_ret
          exact ⟨rfl, G.out⟩
      · have hfm := hrow.first (by omega) (by omega)
        have hq1 : ((i : Int) == 0) = false := beq_eq_false_iff_ne.2 (by omega)
        have hq2 : ((a : Int) == 0) = false := beq_eq_false_iff_ne.2 (by omega)
        have hdl := del_len hfm hrow.nodup
        have hnew : ∀ x ∈ delF (kR 0) (rowR a i), x.t ≠ kR 99 := fun x hx => rowR_new hrow (show i ≤ 99 by omega) x (delF_mem.1 hx).1
        obtain ⟨pk, hpk⟩ := endR (a := a) hfm hrow.nodup
        obtain ⟨pk2, hpk2⟩ := newR (a := a) (j := 99) (by decide) hnew
        rw [if_neg (by omega)] at hpk2
        generalize hL2 : delF (kR 0) (rowR a i) = L2 at *
        generalize rowR a i = L at *
        have HPK2 := Lib.hid hpk2
        have HLEN : Hid (L2.length + 1 = min i a) := Lib.hid (by omega)
        clear hpk2 hrow hfm hnew hL2 hdl hlen
        have hml : (madeD (kR 0) 9 1 []).length ≤ 100000000 := by rw [madeD_len]; split <;> decide
        have KM0 := fun w' (R' : List Asrt) (h' : In [] w w' R') => o_made h' (kR_wf (i := 0) (by omega)) 9 1 (A := none) (c := 0) (body := []) bytes_nil (by decide)
        have KP0 := fun w' v n (h' : In [] w w' (ByR (.slice v (madeD (kR 0) 9 1 []).length n) (madeD (kR 0) 9 1 []) :: FA bt a 1000 L :: ChL cb c1R vl vt [])) => o_pktown (self := 168364297) (sl := 13) (fl := a) (idle0 := 20) (mtu := 1500) (sg := 200) (qu := 20000) (ve := 3) (by decide) chOk1R (gen := 1) (now := 0) hml h'
        rw [hpk] at KP0
        generalize madeD (kR 0) 9 1 [] = m2 at *
        have KM2 := Lib.hid KM0
        have KP2 := Lib.hid KP0
        have KC2 := Lib.hid (KC.out a _ _ ho)
        clear KM0 KP0 hpk hml ho
        have h0b : (0 : Nat) < 4294967296 := by decide
        go_wp2_with fail
        refine KC2.out.mono ?_
        rintro e w12 ⟨rfl, ho⟩
        have KR2 := Lib.hid (KR.out 0 _ _ h0b ho)
        clear ho KC2
        go_wp2_with fail
        refine KR2.out.mono ?_
        rintro e w22 ⟨rfl, ho⟩
        have KMM2 := Lib.hid (KM2.out _ _ ho)
        clear ho KR2 KM2
        go_wp2_with fail
        refine KMM2.out.mono ?_
        rintro e w32 ⟨v3, rfl, ho⟩
        obtain ⟨a3, n3, rfl⟩ := ByR.shape ho
        have KPP2 := Lib.hid (KP2.out _ _ _ ho)
        clear ho KMM2 KP2
        go_wp2_with fail
        refine KPP2.out.mono ?_
        rintro e w42 ⟨vp, vr, rfl, ho⟩
        obtain ⟨ap, np, rfl⟩ := ByR.shape ho
        obtain ⟨Fr, rr⟩ := ho.get 1 rfl
        obtain ⟨ar, nr, rfl, -, -, -⟩ := RowA.shape rr
        clear rr KPP2
        have h5 := ho.cells (plC 2 0 1 (.slice ap pk.length np) (.slice ar 1 nr)) 27
        obtain ⟨gk, rfl, kc0⟩ := rec_kind h5 2 rfl
        have kc : World.cell? _ ⟨gk, 0, none⟩ = some (.int .i64 2) := kc0
        obtain ⟨M, hM, hMb, hM1⟩ : ∃ M : Nat, (if a < i then (a : Int) else (i : Int)) = (M : Int) ∧ M ≤ 20 ∧ M = L2.length + 1 := ⟨min i a, by split <;> omega, by omega, by have := HLEN.out; omega⟩
        have hne : ((L2.length : Int) != (M : Int) - 1) = false := by
          rw [bne_eq_false_iff_eq]; omega
        have hMw : IntKind.i64.wrap ((M : Int) - 1) = (M : Int) - 1 := IntWalk.i64_in _ (by omega)
        clear hM1
        clear kc0
        have p4 := cell_of (o := 4) (v := .slice (some ⟨gk, 0, none⟩) 1 nr) (h5.block 0 rfl) rfl
        have K5 := Lib.hid (o_flen h5 3 rfl)
        have HO5 := Lib.hid (h5.sel2 (R1 := [_, _, _, _, _, _, _]) [3, 4, 5, 6] (by decide) rfl)
        clear ho h5
        go_wp2_with fail
        refine K5.out.mono ?_
        rintro e w5 ⟨rfl, rfl⟩
        clear K5
        clear kc p4
        have ho : In [] w _ (FA bt a 1000 L2 :: ChL cb c1R vl vt []) := HO5.out
        have hpk := HPK2.out
        clear HO5 HPK2
        have hml : (madeD (kR 99) 9 0 []).length ≤ 100000000 := by rw [madeD_len]; split <;> decide
        have KM0 := fun w' (R' : List Asrt) (h' : In [] w w' R') => o_made h' (kR_wf (i := 99) (by omega)) 9 0 (A := none) (c := 0) (body := []) bytes_nil (by decide)
        have KP0 := fun w' v n (h' : In [] w w' (ByR (.slice v (madeD (kR 99) 9 0 []).length n) (madeD (kR 99) 9 0 []) :: FA bt a 1000 L2 :: ChL cb c1R vl vt [])) => o_pktown (self := 168364297) (sl := 13) (fl := a) (idle0 := 20) (mtu := 1500) (sg := 200) (qu := 20000) (ve := 3) (by decide) chOk1R (gen := 1) (now := 0) hml h'
        rw [hpk] at KP0
        generalize madeD (kR 99) 9 0 [] = m3 at *
        have KM3 := Lib.hid KM0
        have KP3 := Lib.hid KP0
        have KC3 := Lib.hid (KC.out a _ _ ho)
        clear KM0 KP0 hpk hml ho
        have h99 : (99 : Nat) < 4294967296 := by decide
        go_wp2_with fail
        refine KC3.out.mono ?_
        rintro e w13 ⟨rfl, ho⟩
        have KR3 := Lib.hid (KR.out 99 _ _ h99 ho)
        clear ho KC3
        go_wp2_with fail
        refine KR3.out.mono ?_
        rintro e w23 ⟨rfl, ho⟩
        have KMM3 := Lib.hid (KM3.out _ _ ho)
        clear ho KR3 KM3
        go_wp2_with fail
        refine KMM3.out.mono ?_
        rintro e w33 ⟨v3, rfl, ho⟩
        obtain ⟨a3, n3, rfl⟩ := ByR.shape ho
        have KPP3 := Lib.hid (KP3.out _ _ _ ho)
        clear ho KMM3 KP3
        go_wp2_with fail
        refine KPP3.out.mono ?_
        rintro e w43 ⟨vp, vr, rfl, ho⟩
        obtain ⟨ap, np, rfl⟩ := ByR.shape ho
        obtain ⟨Fr, rr⟩ := ho.get 1 rfl
        obtain ⟨ar, nr, rfl, -, -, -⟩ := RowA.shape rr
        clear rr KPP3
        have h7 := ho.cells (plC 2 0 1 (.slice ap pk2.length np) (.slice ar 1 nr)) 27
        obtain ⟨gk2, rfl, kc0⟩ := rec_kind h7 2 rfl
        have kc : World.cell? _ ⟨gk2, 0, none⟩ = some (.int .i64 1) := kc0
        have p4 := cell_of (o := 4) (v := .slice (some ⟨gk2, 0, none⟩) 1 nr) (h7.block 0 rfl) rfl
        have K7 := Lib.hid (KA.out _ _ h7)
        clear ho h7 kc0
        go_wp2_with fail
        refine K7.out.mono ?_
        rintro e w7 ⟨rfl, ho⟩
        have G := Lib.hid ho.mod
        clear K7 ho kc p4
        go_wp2_with fail
        go_ret
        exact ⟨rfl, G.out⟩
end Go.Proofs.Ytgapbecddgfkmaa
