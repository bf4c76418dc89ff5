/- Behind any crash a log is what was sure, and a beginning of what was appended since: the walk. -/
import Derived.Test.YtogclkhpbjfadaaGreatLog6
import Derived.Test.YtogclkhpbjfadaaGreatLg6Short
import Derived.Test.YtogclkhpbjfadaaGreatLogFrs
import Derived.Deep.DeepCutAuto
namespace Go.Proofs.YtogclkhpbjfadaaGreat
open Go.RowKit
set_option linter.unusedVariables false
set_option maxRecDepth 100000

/-- The log behind calls of which some failed; what was appended lies in a row. -/
structure LaSt (k : Nat) (size : Nat) (W : World) (Fr : List FrD) (vs : List Value) (s : Nat) (d : DiskD) (l : LogD) : Prop where
  inv : LogInv d l Fr s Fr s
  size : l.size = size
  ver : l.m.ver = 2
  ops : d.ops ≤ 1000 + 20 * k
  few : Fr.length ≤ k
  vals : vs.length = Fr.length
  bodies : ∀ (j : Nat) (f : FrD) (v : Value), Fr[j]? = some f → vs[j]? = some v → AB W v f.body
theorem LaSt.vals0 {k size : Nat} {W : World} {Fr : List FrD} {f : FrD} {vs : List Value} {v : Value} {s : Nat} {d : DiskD} {l : LogD} (h : LaSt k size W (Fr ++ [f]) (vs ++ [v]) s d l) : vs.length = Fr.length := by have := h.vals; simp at this; exact this
theorem LaSt.ok {k size : Nat} {W : World} {Fr : List FrD} {vs : List Value} {s : Nat} {d : DiskD} {l : LogD} (h : LaSt k size W Fr vs s d l) (hs : 16 ≤ size ∧ size ≤ 1048576) : LgOk l := ⟨by rw [h.size]; exact hs.1, by rw [h.size]; exact hs.2, h.inv.now.1⟩
theorem LaSt.sure {k size : Nat} {W : World} {Fr : List FrD} {vs : List Value} {s : Nat} {d : DiskD} {l : LogD} (h : LaSt k size W Fr vs s d l) : s ≤ Fr.length := h.inv.now.2.2.sure_le
theorem LaSt.fail {k size : Nat} {W : World} {Fr : List FrD} {vs : List Value} {s : Nat} {d : DiskD} {l : LogD} (h : LaSt k size W Fr vs s d l) (n : Int) : LaSt k size W Fr vs s (dFail d n) l :=
  ⟨h.inv.fail n, h.size, h.ver, h.ops, h.few, h.vals, h.bodies⟩
theorem LaSt.more {k size : Nat} {W : World} {Fr : List FrD} {vs : List Value} {s : Nat} {d : DiskD} {l : LogD} (h : LaSt k size W Fr vs s d l) : LaSt (k + 1) size W Fr vs s d l :=
  ⟨h.inv, h.size, h.ver, by have := h.ops; omega, by have := h.few; omega, h.vals, h.bodies⟩
theorem LaSt.append {k size : Nat} {W : World} {Fr : List FrD} {vs : List Value} {s : Nat} {d : DiskD} {l : LogD} (h : LaSt k size W Fr vs s d l) (kind : Nat) (hk : kind < 256) {b : List UInt8} {v : Value} (hv : AB W v b) :
    ((appendL kind b (d, l)).2 = 0 ∧ LaSt (k + 1) size W (Fr ++ [⟨kind, 2, b⟩]) (vs ++ [v]) s (appendL kind b (d, l)).1.1 (appendL kind b (d, l)).1.2) ∨ ((appendL kind b (d, l)).2 ≠ 0 ∧ LaSt (k + 1) size W Fr vs s (appendL kind b (d, l)).1.1 (appendL kind b (d, l)).1.2) := by
  obtain ⟨b1, b2, b3⟩ := append_inv h.inv kind b
  have hops := appendL_ops kind b (d, l)
  have ho := h.ops
  have hf := h.few
  simp only at hops
  rcases b3 with ⟨b4, b5, b6⟩ | ⟨b4, b5⟩
  · left
    have e : (⟨(kind : Int).toNat, l.m.ver, b⟩ : FrD) = ⟨kind, 2, b⟩ := by rw [h.ver]; rfl
    rw [e] at b6
    refine ⟨b4, Or.inl ⟨b5, b6⟩, by rw [b1, h.size], by rw [b2, h.ver], by omega, by rw [List.length_append]; simp; omega, by simp [h.vals], fun j f v' hj hv' => ?_⟩
    by_cases hlt : j < Fr.length
    · rw [List.getElem?_append_left hlt] at hj
      rw [List.getElem?_append_left (by rw [h.vals]; exact hlt)] at hv'
      exact h.bodies j f v' hj hv'
    · have hj2 : j = Fr.length := by
        have := (List.getElem?_eq_some_iff.1 hj).1
        rw [List.length_append] at this; simp at this; omega
      subst hj2
      rw [List.getElem?_append_right (Nat.le_refl _)] at hj
      rw [List.getElem?_append_right (by rw [h.vals]; exact Nat.le_refl _), h.vals] at hv'
      simp at hj hv'
      subst hj hv'
      exact hv
  · right
    refine ⟨b4, ?_, by rw [b1, h.size], by rw [b2, h.ver], by omega, by omega, h.vals, h.bodies⟩
    rcases b5 with b5 | b5 <;> exact b5
theorem LaSt.sync {k size : Nat} {W : World} {Fr : List FrD} {vs : List Value} {s : Nat} {d : DiskD} {l : LogD} (h : LaSt k size W Fr vs s d l) :
    ((syncL (d, l)).2 = 0 ∧ LaSt (k + 1) size W Fr vs Fr.length (syncL (d, l)).1.1 (syncL (d, l)).1.2) ∨ ((syncL (d, l)).2 ≠ 0 ∧ LaSt (k + 1) size W Fr vs s (syncL (d, l)).1.1 (syncL (d, l)).1.2) := by
  obtain ⟨b1, b2, b3⟩ := sync_inv h.inv
  have hops := syncL_ops (d, l)
  have ho := h.ops
  have hf := h.few
  simp only at hops
  rcases b3 with ⟨b4, b5, b6⟩ | ⟨b4, b5⟩
  · left
    refine ⟨b4, Or.inl ⟨b5, by rw [b2]; exact b6⟩, by rw [b1, h.size], by rw [b2, h.ver], by omega, by omega, h.vals, h.bodies⟩
  · right
    exact ⟨b4, b5, by rw [b1, h.size], by rw [b2, h.ver], by omega, by omega, h.vals, h.bodies⟩
theorem LaSt.start (W : World) (size : Int) : ∃ d, createD 2 size (dNew 200000) = (d, some ⟨sized size, firstM 2, false⟩, 0) ∧ LaSt 0 (sized size) W [] [] 0 d ⟨sized size, firstM 2, false⟩ := by
  obtain ⟨d, h1, h2⟩ := OpSt.start (M := 20) (ver := 2) [] 3 size (by omega) (by omega)
  have hf := h2.firm
  simp only [List.take_nil, List.map_nil] at hf
  exact ⟨d, h1, Or.inl ⟨rfl, hf⟩, rfl, rfl, h2.ops, by simp, rfl, by simp⟩
/-- Behind a crash the log opens. -/
theorem LaSt.crash {k size : Nat} {W : World} {Fr : List FrD} {vs : List Value} {s : Nat} {d : DiskD} {l : LogD} (h : LaSt k size W Fr vs s d l) (p : List UInt8) (z : Int) :
    ∃ j d', s ≤ j ∧ j ≤ Fr.length ∧ openL tellF z (dCrash d p) [] = (Fr.take j, d', (openL tellF z (dCrash d p) []).2.2.1, 0) := by
  rcases h.inv.crash p with ⟨j, j1, j2, j3⟩ | ⟨_, m0, j, j1, j2, j3⟩
  · obtain ⟨d', e, _, _⟩ := told_on j3 rfl z
    refine ⟨j, d', j1, j2, ?_⟩
    rw [show openL tellF z (dCrash d p) [] = _ from e]
  · obtain ⟨d', e, _, _⟩ := told_on j3 rfl z
    refine ⟨j, d', j1, j2, ?_⟩
    rw [show openL tellF z (dCrash d p) [] = _ from e]
theorem LaSt.opsle {k size : Nat} {W : World} {Fr : List FrD} {vs : List Value} {s : Nat} {d : DiskD} {l : LogD} (h : LaSt k size W Fr vs s d l) (hk : k ≤ 80) : d.ops ≤ 99990000 := by have := h.ops; omega
theorem ints_get {w : World} {a : Option Addr} {len cap : Nat} {zs : List Int} (h : ArgInts .i64 w a len cap zs) {k : Nat} (hk : k < len) : ∃ (b o : Nat) (z : Int), a = some ⟨b, o, none⟩ ∧ w.cell? ⟨b, o + k, none⟩ = some (.int .i64 z) := by
  have hl := h.length
  rcases h.at' with h0 | ⟨b, o, e, _, hc⟩
  · omega
  · exact ⟨b, o, _, e, hc k (by omega)⟩
theorem kind_of (n : Int) : ∃ kn : Nat, wrap64 ((IntKind.u64.wrap n).tmod 256) = kn ∧ kn < 256 := by
  have e : IntKind.u64.wrap n = n % 18446744073709551616 := rfl
  rw [e]
  have h1 : (n % 18446744073709551616).tmod 256 = (n % 18446744073709551616) % 256 := Int.tmod_eq_emod_of_nonneg (by omega)
  refine ⟨((n % 18446744073709551616) % 256).toNat, ?_, by omega⟩
  rw [h1]; unfold wrap64; omega
def LaRel (bd lb : Nat) (size n : Nat) (W : World) (v sv i : Value) (wr : World) : Prop :=
  ∃ (k : Nat) (d : DiskD) (l : LogD) (Fr : List FrD) (vs : List Value) (s : Nat), k ≤ n ∧ i = .int .i64 k ∧ sv = .int .i64 s ∧ LaSt k size W Fr vs s d l ∧ In [] W wr [LgA lb bd l, DkA bd d, RowA 40 3 v Fr.length (flatFr Fr vs)]
set_option maxHeartbeats 32000000 in
theorem walk_LogLasts (W : World) (size : Int) (wsz : (Lit.int .i64 size).wf = true) {a1 a2 a3 : Option Addr} {len1 cap1 len2 cap2 len3 cap3 : Nat} {cs : List CallI} {zs : List Int} {p : List UInt8} (h1 : ArgCalls6 W (.slice a1 len1 cap1) cs) (h2 : ArgInts .i64 W a2 len2 cap2 zs) (h3 : AB W (.slice a3 len3 cap3) p) :
    Calls Tryz.prog 4 #[.int .i64 size, .slice a1 len1 cap1, .slice a2 len2 cap2, .slice a3 len3 cap3] W (TrueP W) := by
  have hv1 := h1
  obtain ⟨a1', c1', e1, hr1, hm1, hc1⟩ := h1.ex
  cases e1
  obtain ⟨a3', c3', e3, hs3, hr3, hm3⟩ := h3.ex
  cases e3
  have hl2 := h2.length
  have hm2 := h2.most
  have hr2 := h2.room
  unfold maxLen at hm1 hm2
  have HAW := Lib.hid (fun w' (R : List Asrt) (h' : In [] W w' R) => o_awake6 h')
  have KSH := Lib.hid (o_short (Own.nil W) hv1)
  have H2 := Lib.hid h2
  have H3 := Lib.hid (And.intro hs3 hm3)
  have HC := Lib.hid hc1
  clear h1 h2 h3 hv1 hs3 hc1 wsz hm3
  go_enter Tryz.func4, Tryz.ntmps4
  go_wp2_with fail
  refine KSH.out.mono ?_
  rintro e w1 ⟨bs, rfl, hsh, g1⟩
  cases bs with
  | false =>
    have K := Lib.hid (HAW.out w1 [] g1)
    clear g1 KSH HAW hsh
    go_wp2_with fail
    refine K.out.mono ?_
    rintro e w2 ⟨rfl, g⟩
    have G := Lib.hid g.mod
    clear g K
    go_wp2_with fail
    go_ret
    exact ⟨rfl, G.out⟩
  | true =>
    have HSH := Lib.hid (hsh rfl)
    have KN := Lib.hid (o_dnew g1 200000 (by omega) (by omega))
    clear g1 KSH hsh
    go_wp2_with fail
    refine KN.out.mono ?_
    rintro e w2 ⟨bd, rfl, g2⟩
    generalize wrap64 ((IntKind.u64.wrap size).tmod 400) = z at *
    obtain ⟨d0, hc0, hst⟩ := LaSt.start W z
    have C1 := Lib.hid (o_create g2 (by decide) 2 z)
    rw [hc0] at C1
    have HST := Lib.hid hst
    clear g2 hc0 hst KN
    go_wp2_with fail
    refine C1.out.mono ?_
    intro e w3 hp
    obtain ⟨lb, rfl, g3⟩ := hp.some rfl
    have HR : Hid (LaRel bd lb (sized z) cs.length W (.slice none 0 0) (.int .i64 0) (.int .i64 0) w3) := Lib.hid ⟨0, d0, _, [], [], 0, Nat.zero_le _, rfl, rfl, HST.out, (g3.rownil 40 3).sel2 (R1 := [_, _, _]) [1, 2, 0] (by decide) rfl⟩
    clear hp g3 C1 HST
    go_wp2_with fail
    go_loopw [12, 13, 41] (LaRel bd lb (sized z) cs.length W) (fun _ _ k _ => cs.length - (intOf k).toNat)
    case atStart => exact HR.out
    case round =>
      obtain ⟨k, d, l, Fr, vs, s, hk, rfl, rfl, hst, ho⟩ := hrel
      clear HR
      by_cases hlt : k < cs.length
      · obtain ⟨x, hx⟩ : ∃ x, cs[k]? = some x := ⟨cs[k], List.getElem?_eq_getElem hlt⟩
        obtain ⟨g, o, rfl, z0, z1, ⟨vb, z2, hvb⟩, vr, z3, hvr⟩ := HC.out k x hx
        obtain ⟨ab, cb, rfl, sb, hb1, hb2⟩ := hvb.ex
        obtain ⟨ar, cr, rfl, hrr1, hrr2, -⟩ := hvr.ex
        have c0 := cell_old ho z0
        have c1 := cell_old ho z1
        have c2 := cell_old ho z2
        have c3 := cell_old ho z3
        have hlt' : (k : Int) < (cs.length : Int) := by omega
        have hlen80 := HSH.out.len
        have hw2 : wrap64 ((k : Int) + 1) = (k : Int) + 1 := by unfold wrap64; omega
        have hb400 := (HSH.out.each x (List.mem_of_getElem? hx)).b
        have h4 := ho.cells #[.int .i64 x.act, .int .i64 x.n, .slice ab x.b.length cb, .slice ar x.rows.length cr] 46
        have H4 := Lib.hid h4
        have HST := Lib.hid hst
        have HVB := Lib.hid (And.intro hvb sb)
        unfold maxLen at hb2 hrr2
        have hk1 : k + 1 ≤ cs.length := hlt
        have hk80 : k ≤ 80 := Nat.le_trans (Nat.le_of_lt hlt) hlen80
        have HKF := Lib.hid (fun zk => o_dfail h4 2 rfl (Nat.le_trans (hst.opsle hk80) (by decide)) zk)
        have HZ : Hid (k < len2 → ∃ (bz oz : Nat) (zk : Int), a2 = some ⟨bz, oz, none⟩ ∧ (wr.alloc (.cells #[.int .i64 x.act, .int .i64 x.n, .slice ab x.b.length cb, .slice ar x.rows.length cr] 46)).cell? ⟨bz, oz + k, none⟩ = some (.int .i64 zk)) := Lib.hid fun f1 => by
          obtain ⟨bz, oz, zk, e, c⟩ := ints_get H2.out f1
          exact ⟨bz, oz, zk, e, cell_old h4 c⟩
        clear ho h4 hst hvb hvr sb z0 z1 z2 z3 hx hlt
        go_upto_region 12 with fail
        go_cut [14, 15] (fun x1 x2 wx => x1 = .int .i64 k ∧ x2 = .pointer (some ⟨wr.heap.size, 0, none⟩) ∧ wx = wr.alloc (.cells #[.int .i64 x.act, .int .i64 x.n, .slice ab x.b.length cb, .slice ar x.rows.length cr] 46))
        case first =>
          go_wp2_with fail
          go_meet
          exact ⟨rfl, rfl, rfl⟩
        case rest =>
        obtain ⟨rfl, rfl, rfl⟩ := hcut
        rename_i ha
        refine ha _ _ ?_
        clear ha
        go_step
        go_cut [14] (fun x1 wx => x1 = .int .i64 k ∧ ∃ d', LaSt k (sized z) W Fr vs s d' l ∧ In [] W wx (Cells wr.heap.size #[.int .i64 x.act, .int .i64 x.n, .slice ab x.b.length cb, .slice ar x.rows.length cr] 46 :: LgA lb bd l :: DkA bd d' :: RowA 40 3 u12 Fr.length (flatFr Fr vs) :: []))
        case first =>
          clear HVB
          by_cases f1 : k < len2
          · obtain ⟨bz, oz, zk, rfl, cz⟩ := HZ.out f1
            have f1' : (k : Int) < (len2 : Int) := Int.ofNat_lt.2 f1
            have KF := Lib.hid (HKF.out zk)
            clear HKF HZ f1
            by_cases f2 : 0 < zk
            · by_cases f3 : zk < 8
              · go_wp2_with fail
                refine KF.out.mono ?_
                rintro e w4 ⟨rfl, g4⟩
                have G4 := Lib.hid g4
                clear g4 KF
                go_wp2_with fail
                go_meet
                exact ⟨rfl, _, HST.out.fail zk, G4.out⟩
              · have f3' : decide (zk < 8) = false := decide_eq_false f3
                clear KF f3
                go_wp2_with fail
                go_meet
                exact ⟨rfl, _, HST.out, H4.out⟩
            · have f2' : decide (0 < zk) = false := decide_eq_false f2
              clear KF f2
              go_wp2_with fail
              go_meet
              exact ⟨rfl, _, HST.out, H4.out⟩
          · have f1' : decide ((k : Int) < (len2 : Int)) = false := decide_eq_false (fun e => f1 (Int.ofNat_lt.1 e))
            have f1n : decide (k < len2) = false := decide_eq_false f1
            clear HZ HKF
            go_wp2_with fail
            go_meet
            exact ⟨rfl, _, HST.out, H4.out⟩
        case rest =>
        obtain ⟨rfl, d', hst', ho'⟩ := hcut
        clear HST H4 c0 c1 c2 c3
        obtain ⟨Fv, hv⟩ := ho'.get 3 rfl
        obtain ⟨au, cu, rfl, hcu1, hcu2, -⟩ := hv.shape
        have c0 : wc.cell? ⟨wr.heap.size, 0, none⟩ = some (.int .i64 x.act) := cell_of (ho'.block 0 rfl) rfl
        have c1 : wc.cell? ⟨wr.heap.size, 1, none⟩ = some (.int .i64 x.n) := cell_of (ho'.block 0 rfl) rfl
        have c2 : wc.cell? ⟨wr.heap.size, 2, none⟩ = some (.slice ab x.b.length cb) := cell_of (ho'.block 0 rfl) rfl
        have HST := Lib.hid hst'
        have HO := Lib.hid ho'
        have hops := hst'.opsle hk80
        have HOPS := Lib.hid hops
        have HFEW : Hid (Fr.length ≤ 80) := Lib.hid (Nat.le_trans hst'.few hk80)
        have HK1 := Lib.hid hk1
        have HB400 := Lib.hid hb400
        clear hst' ho' hv hops hk1 hb400 hk80 hlen80 hk hb1 hb2 hrr1 hrr2 hr1 hm1 hr3 hl2 hm2 hr2 hcu1 hcu2 HKF HZ
        by_cases q0 : x.act = 0
        · have q0' : (x.act == 0) = true := by rw [q0]; rfl
          obtain ⟨kn, hkn, hkn2⟩ := kind_of x.n
          have KA := Lib.hid (o_append (c := cb) (HO.out.sel2 (R1 := [_, _, _, _]) [1, 2, 3, 0] (by decide) rfl) (HST.out.ok (sized_ok z)) (Nat.le_trans HOPS.out (by decide)) kn (A := ab) (body := x.b) (Nat.le_trans HB400.out (by decide)) (fun w' h' => HVB.out.2.old h'))
          have HAP := Lib.hid (HST.out.append kn hkn2 HVB.out.1)
          generalize appendL kn x.b (d', l) = r at *
          obtain ⟨⟨d2, l2⟩, re⟩ := r
          simp only at KA HAP
          clear q0 HST HO hkn2
          rcases HAP.out with ⟨e0, st⟩ | ⟨e0, st⟩
          · have HS := Lib.hid st
            have E0 := Lib.hid e0
            clear st e0 HAP
            go_wp2_with fail
            refine KA.out.mono ?_
            rintro e w4 ⟨rfl, g4⟩
            rw [E0.out]
            have y2 : w4.cell? ⟨wr.heap.size, 2, none⟩ = some (.slice ab x.b.length cb) := cell_of (g4.block 3 rfl) rfl
            have g5 := g4.cells #[.int .i64 kn, .int .i64 2, .slice ab x.b.length cb] 40
            have G5 := Lib.hid g5
            have SB := Lib.hid (Src.of_block (k := 3) (g5.block 0 rfl) rfl)
            clear g4 g5 KA
            go_wp2_with (at_builtin; refine app_list rfl G5.out 3 rfl (.tmp 85) (.tmp 90) 33 (by rfl) Tryz.underlying33 infoFrame (by decide) (by decide) (by rfl) (by rfl) SB.out (fun u hu => by simp at hu; rcases hu with rfl | rfl | rfl <;> rfl) (Nat.le_trans (Nat.add_le_add_right HFEW.out 1) (by decide)) ?_)
            intro v' w5 ho5 hg5
            have HN : Hid (LaRel bd lb (sized z) cs.length W v' (.int .i64 s) (.int .i64 ((k : Int) + 1)) w5) := Lib.hid ⟨k + 1, d2, l2, Fr ++ [⟨kn, 2, x.b⟩], vs ++ [.slice ab x.b.length cb], s, HK1.out, by rw [Int.natCast_add]; rfl, rfl, HS.out, by
              rw [flatFr_snoc _ _ HS.out.vals0, List.length_append]
              exact ho5.sel2 (R1 := [_, _, _, _, _]) [1, 2, 3] (by decide) rfl⟩
            clear ho5 hg5 G5 SB HS
            go_wp2_with fail
            go_roundw
            case rel => (try rw [hw2]); exact HN.out
            case measure => (try rw [hw2]); exact meas_lt hlt'
          · have qe : (re == 0) = false := beq_eq_false_iff_ne.2 e0
            have HN : Hid (∀ w', In [] W w' [LgA lb bd l2, DkA bd d2, RowA 40 3 (.slice au Fr.length cu) Fr.length (flatFr Fr vs), Cells wr.heap.size #[.int .i64 x.act, .int .i64 x.n, .slice ab x.b.length cb, .slice ar x.rows.length cr] 46] → LaRel bd lb (sized z) cs.length W (.slice au Fr.length cu) (.int .i64 s) (.int .i64 ((k : Int) + 1)) w') := Lib.hid fun w' h' => ⟨k + 1, d2, l2, Fr, vs, s, HK1.out, by rw [Int.natCast_add]; rfl, rfl, st, h'.sel2 (R1 := [_, _, _, _]) [0, 1, 2] (by decide) rfl⟩
            clear st e0 HAP
            go_wp2_with fail
            refine KA.out.mono ?_
            rintro e w4 ⟨rfl, g4⟩
            have HN2 := Lib.hid (HN.out w4 g4)
            clear g4 KA HN
            go_wp2_with fail
            go_roundw
            case rel => (try rw [hw2]); exact HN2.out
            case measure => (try rw [hw2]); exact meas_lt hlt'
        · have q0' : (x.act == 0) = false := beq_eq_false_iff_ne.2 q0
          by_cases q1 : x.act = 1
          · have q1' : (x.act == 1) = true := by rw [q1]; rfl
            have KA := Lib.hid (o_lsync (HO.out.sel2 (R1 := [_, _, _, _]) [1, 2, 3, 0] (by decide) rfl) (HST.out.ok (sized_ok z)) (Nat.le_trans HOPS.out (by decide)))
            have HAP := Lib.hid HST.out.sync
            generalize syncL (d', l) = r at *
            obtain ⟨⟨d2, l2⟩, re⟩ := r
            simp only at KA HAP
            clear q0 q1 HST HO
            rcases HAP.out with ⟨e0, st⟩ | ⟨e0, st⟩
            · have HN : Hid (∀ w', In [] W w' [LgA lb bd l2, DkA bd d2, RowA 40 3 (.slice au Fr.length cu) Fr.length (flatFr Fr vs), Cells wr.heap.size #[.int .i64 x.act, .int .i64 x.n, .slice ab x.b.length cb, .slice ar x.rows.length cr] 46] → LaRel bd lb (sized z) cs.length W (.slice au Fr.length cu) (.int .i64 Fr.length) (.int .i64 ((k : Int) + 1)) w') := Lib.hid fun w' h' => ⟨k + 1, d2, l2, Fr, vs, Fr.length, HK1.out, by rw [Int.natCast_add]; rfl, rfl, st, h'.sel2 (R1 := [_, _, _, _]) [0, 1, 2] (by decide) rfl⟩
              have E0 := Lib.hid e0
              clear st e0 HAP
              go_wp2_with fail
              refine KA.out.mono ?_
              rintro e w4 ⟨rfl, g4⟩
              rw [E0.out]
              have HN2 := Lib.hid (HN.out w4 g4)
              clear g4 KA HN
              go_wp2_with fail
              go_roundw
              case rel => (try rw [hw2]); exact HN2.out
              case measure => (try rw [hw2]); exact meas_lt hlt'
            · have qe : (re == 0) = false := beq_eq_false_iff_ne.2 e0
              have HN : Hid (∀ w', In [] W w' [LgA lb bd l2, DkA bd d2, RowA 40 3 (.slice au Fr.length cu) Fr.length (flatFr Fr vs), Cells wr.heap.size #[.int .i64 x.act, .int .i64 x.n, .slice ab x.b.length cb, .slice ar x.rows.length cr] 46] → LaRel bd lb (sized z) cs.length W (.slice au Fr.length cu) (.int .i64 s) (.int .i64 ((k : Int) + 1)) w') := Lib.hid fun w' h' => ⟨k + 1, d2, l2, Fr, vs, s, HK1.out, by rw [Int.natCast_add]; rfl, rfl, st, h'.sel2 (R1 := [_, _, _, _]) [0, 1, 2] (by decide) rfl⟩
              clear st e0 HAP
              go_wp2_with fail
              refine KA.out.mono ?_
              rintro e w4 ⟨rfl, g4⟩
              have HN2 := Lib.hid (HN.out w4 g4)
              clear g4 KA HN
              go_wp2_with fail
              go_roundw
              case rel => (try rw [hw2]); exact HN2.out
              case measure => (try rw [hw2]); exact meas_lt hlt'
          · have q1' : (x.act == 1) = false := beq_eq_false_iff_ne.2 q1
            have HN2 : Hid (LaRel bd lb (sized z) cs.length W (.slice au Fr.length cu) (.int .i64 s) (.int .i64 ((k : Int) + 1)) wc) := Lib.hid ⟨k + 1, d', l, Fr, vs, s, HK1.out, by rw [Int.natCast_add]; rfl, rfl, HST.out.more, HO.out.sel2 (R1 := [_, _, _, _]) [1, 2, 3] (by decide) rfl⟩
            clear q0 q1 HST HO
            go_wp2_with fail
            go_roundw
            case rel => (try rw [hw2]); exact HN2.out
            case measure => (try rw [hw2]); exact meas_lt hlt'
      · have hge : (cs.length : Int) ≤ (k : Int) := Int.ofNat_le.2 (Nat.le_of_not_lt hlt)
        have hk80 : k ≤ 80 := Nat.le_trans hk HSH.out.len
        obtain ⟨j, d2, j1, j2, he⟩ := hst.crash p z
        have hops := hst.opsle hk80
        have KC := Lib.hid (o_dcrash_arg ho 1 rfl (Nat.le_trans hops (by decide)) H3.out.1 hr3 H3.out.2)
        have KT := Lib.hid (fun w' (R : List Asrt) (h' : In [] W w' (DkA bd (dCrash d p) :: R)) => o_told h' (Nat.le_trans hops (by decide)) z)
        rw [he] at KT
        simp only at KT
        obtain ⟨Fv, hv⟩ := ho.get 2 rfl
        obtain ⟨av, cv, rfl, hcv, hcv2, -⟩ := hv.shape
        have hsl : ∀ wx, (Instr.slice 33 (.slice av Fr.length cv) none (some (.int .i64 j)) none).run Tryz.prog wx = .ok (.slice av j cv) wx := fun wx => row_prefix Tryz.underlying33 infoFrame hv (Nat.le_trans j2 hcv) wx
        have hj1 : (s : Int) ≤ (j : Int) := Int.ofNat_le.2 j1
        have hj2 : (j : Int) ≤ (Fr.length : Int) := Int.ofNat_le.2 j2
        have hfj : (Fr.take j).length = j := by rw [List.length_take]; exact Nat.min_eq_left j2
        have HFJ := Lib.hid hfj
        have HJ : Hid (j ≤ 80) := Lib.hid (Nat.le_trans j2 (Nat.le_trans hst.few hk80))
        have HVL := Lib.hid (And.intro hst.vals hst.bodies)
        clear ho hst hv he hops hfj hlt hk hk80 hr1 hm1 hr3 hl2 hm2 hr2 j1 j2 hcv hcv2
        go_wp2_with fail
        refine KC.out.mono ?_
        rintro e w4 ⟨rfl, g4⟩
        have K5 := Lib.hid (KT.out w4 _ (g4.sel2 (R1 := [_, _, _]) [1, 2] (by decide) rfl))
        clear g4 KC KT
        go_wp2_with fail
        refine K5.out.mono ?_
        rintro e w5 ⟨v5, rfl, g5⟩
        obtain ⟨F5, q5⟩ := g5.get 0 rfl
        obtain ⟨A5, C5, rfl⟩ := frsA_shape q5
        have g6 : In [] W w5 [FrsA (.slice A5 (Fr.take j).length C5) (Fr.take j), DkA bd d2, RowA 40 3 (.slice av Fr.length cv) Fr.length (flatFr Fr vs)] := g5
        have KS := Lib.hid (o_samefs (ca := C5) (cb := cv) (fs := Fr.take j) (gs := Fr.take j) (a := A5) (b := av) g6 (fun w' h' => (frsA_at (h'.get 0 rfl).choose_spec).2) (fun w' h' => (frArg_at h' (h'.get 2 rfl).choose_spec HVL.out.1 HVL.out.2).take j) (by rw [HFJ.out]; exact Nat.le_trans HJ.out (by decide)) (by rw [HFJ.out]; exact Nat.le_trans HJ.out (by decide)))
        simp only [decide_true] at KS
        have KW := Lib.hid (fun w' (h' : In [] W w' [FrsA (.slice A5 (Fr.take j).length C5) (Fr.take j), DkA bd d2, RowA 40 3 (.slice av Fr.length cv) Fr.length (flatFr Fr vs)]) => HAW.out w' _ h')
        rw [HFJ.out] at KS KW ⊢
        clear g5 g6 q5 K5 HAW
        go_wp2_with fail
        refine KS.out.mono ?_
        rintro e w6 ⟨rfl, g7⟩
        have K7 := Lib.hid (KW.out w6 g7)
        clear g7 KS KW
        go_wp2_with fail
        refine K7.out.mono ?_
        rintro e w7 ⟨rfl, g8⟩
        have G := Lib.hid g8.mod
        clear g8 K7
        go_wp2_with fail
        go_ret
        exact ⟨rfl, G.out⟩
end Go.Proofs.YtogclkhpbjfadaaGreat
