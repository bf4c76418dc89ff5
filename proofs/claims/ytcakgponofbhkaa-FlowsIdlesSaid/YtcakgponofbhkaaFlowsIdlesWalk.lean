/- What is idle up to a time, and then up to a later one. -/
import Derived.Test.YtcakgponofbhkaaFlowPlain
import Derived.Test.YtcakgponofbhkaaDuePlain2
namespace Go.Proofs.Ytcakgponofbhkaa
open Go.RowKit
set_option linter.unusedVariables false
set_option maxRecDepth 100000
attribute [-go_sem] run_eql_struct

theorem In.rowF {F0 : List Nat} {w0 w : World} {R : List Asrt} {bt : Nat} {most idle : Int} {L : List Fl} (h : In F0 w0 w R) (i : Nat) (hA : R[i]? = some (FA bt most idle L)) : L.Pairwise (fun x y => x.seen ≤ y.seen) := by
  obtain ⟨F, bm, bk, bq, hok, hs⟩ := h.get i hA
  have hI := In.start FR.framed hs
  obtain ⟨Fq, hq⟩ := hI.get 3 rfl
  have hr : Row (L.map encQ) := IsQ.row hq
  unfold Row at hr
  rw [List.pairwise_map] at hr
  refine hr.imp (fun {x y} h => ?_)
  change (decide (x.seen < y.seen) || (x.seen == y.seen && bl (keyT x.t).data.toList (keyT y.t).data.toList)) = true at h
  rw [Bool.or_eq_true, Bool.and_eq_true, decide_eq_true_eq, beq_iff_eq] at h
  omega
theorem idleR_late {L : List Fl} (h : L.Pairwise (fun x y => x.seen ≤ y.seen)) (c : Int) : ∀ x ∈ idleR L c, c < x.seen := by
  induction L with
  | nil => intro x hx; simp [idleR] at hx
  | cons y r ih =>
    obtain ⟨h1, h2⟩ := List.pairwise_cons.1 h
    intro x hx
    unfold idleR at *
    rw [List.dropWhile_cons] at hx
    split at hx
    · exact ih h2 x hx
    · rename_i hy
      have hy' : c < y.seen := by simpa [isIdle] using hy
      rcases List.mem_cons.1 hx with rfl | hx
      · exact hy'
      · have := h1 x hx; omega
theorem idle_twice (L : List Fl) {a b : Int} (h : a ≤ b) : idleD L a ++ idleD (idleR L a) b = idleD L b ∧ idleR (idleR L a) b = idleR L b := by
  induction L with
  | nil => exact ⟨rfl, rfl⟩
  | cons y r ih =>
    unfold idleD idleR at *
    simp only [List.takeWhile_cons, List.dropWhile_cons]
    by_cases h1 : y.seen ≤ a
    · have e1 : isIdle a y = true := decide_eq_true h1
      have e2 : isIdle b y = true := decide_eq_true (by omega)
      simp only [e1, e2, if_true, List.cons_append]
      exact ⟨by rw [ih.1], ih.2⟩
    · have e1 : isIdle a y = false := decide_eq_false h1
      simp only [e1]
      simp [List.takeWhile_cons, List.dropWhile_cons]
def seenF (x : Fl) : Fl := { x with seen := cutU x.seen 100 }
def idL (L : List Fl) : Nat → List Fl
  | 0 => []
  | j + 1 => match L[j]? with
    | some x => if j < 60 then (putF 100 (idL L j) (seenF x)).1 else idL L j
    | none => idL L j
def IdRel (w : World) (bp bq : Nat) (id : Int) (L : List Fl) (k : Value) (wr : World) : Prop := ∃ j : Nat, k = .int .i64 j ∧ j ≤ L.length ∧ In [] w wr [FA bq 100 id (idL L j), FA bp 100 id (idL L j)]
theorem sameflows_t {w : World} {v v' : Value} {A : List Fl} {F F' : List Nat} (h : ViewA 8 v A.length (flatF A) w F) (h' : ViewA 8 v' A.length (flatF A) w F') : Calls Try.prog 31 #[v, v'] w (SamePost true w) := by
  have := sameflows h h'
  rwa [decide_eq_true rfl] at this
def IdLoop (w : World) (hi id : Int) (n : Nat) (k : Value) (wr : World) : Prop := ∃ j : Nat, k = .int .i64 j ∧ j ≤ n ∧ Mod [] w wr
set_option maxHeartbeats 32000000 in
theorem walk_FlowsIdles (w : World) {a : Option Addr} {len cap : Nat} {L : List Fl} (hL : ArgFl w a len cap L) (i : Int) (hi : (Lit.int .i64 i).wf = true) (x : Int) (hx : (Lit.int .i64 x).wf = true) (y : Int) (hy : (Lit.int .i64 y).wf = true) :
    Calls Try.prog 6 #[.slice a len cap, .int .i64 i, .int .i64 x, .int .i64 y] w (TruePost w) := by
  have hlen := hL.length
  subst hlen
  have HL := Lib.hid hL
  have hcap : L.length ≤ 9223372036854775807 := by have h1 := hL.room; have h2 := hL.most; unfold maxLen at h2; omega
  clear hL hi hx hy
  have bi := cutU_bd i (m := 50) (by omega) (by omega)
  have bx := cutU_bd x (m := 200) (by omega) (by omega)
  have by' := cutU_bd y (m := 200) (by omega) (by omega)
  unfold cutU at bi bx by'
  obtain ⟨i0, i1⟩ := bi
  obtain ⟨x0, x1⟩ := bx
  obtain ⟨y0, y1⟩ := by'
  by_cases hway : wrap64 ((IntKind.u64.wrap y).tmod 200) < wrap64 ((IntKind.u64.wrap x).tmod 200)
  case' pos =>
    go_enter Try.func6, Try.ntmps6
    go_wp2_with fail
    generalize wrap64 ((IntKind.u64.wrap y).tmod 200) = lo at *
    generalize wrap64 ((IntKind.u64.wrap x).tmod 200) = hi at *
    have hlh : lo ≤ hi := by omega
  case' neg =>
    go_enter Try.func6, Try.ntmps6
    go_wp2_with fail
    generalize wrap64 ((IntKind.u64.wrap y).tmod 200) = hi at *
    generalize wrap64 ((IntKind.u64.wrap x).tmod 200) = lo at *
    have hlh : lo ≤ hi := by omega
  all_goals
    clear hway
    generalize wrap64 ((IntKind.u64.wrap i).tmod 50) = ti at *
    have hcl : clampI (ti + 1) = ti + 1 := by unfold clampI; omega
    have HN1 := Lib.hid (o_fnew (Own.nil w) 100 (ti + 1))
    rw [hcl, show clampM 100 = 100 from rfl] at HN1
    have HCL := Lib.hid hcl
    clear hcl
    refine HN1.out.mono ?_
    rintro e w1 ⟨bp, rfl, ho⟩
    have HN2 := Lib.hid (o_fnew ho 100 (ti + 1))
    rw [HCL.out, show clampM 100 = 100 from rfl] at HN2
    clear ho HN1
    go_wp2_with fail
    refine HN2.out.mono ?_
    rintro e w2 ⟨bq, rfl, ho⟩
    have HS : Hid (IdRel w bp bq (ti + 1) L (.int .i64 0) w2) := Lib.hid ⟨0, rfl, Nat.zero_le _, ho⟩
    clear ho HN2 HCL
    go_wp2_with fail
    go_loopw [11, 12, 40] (fun _ _ k wr => IdRel w bp bq (ti + 1) L k wr) (fun _ _ k _ => L.length - (intOf k).toNat)
    case atStart => exact HS.out
    case round =>
      obtain ⟨j, rfl, hj, ho⟩ := hrel
      clear HS
      by_cases hlt : j < L.length
      · obtain ⟨b, o, x', rfl, hb, hx', hwx, hc⟩ := HL.out.read hlt
        obtain ⟨c0, c1, c2, c3, c4, c5, c6, c7⟩ := hc.old ho hb
        have i2 : (j : Int) < (L.length : Int) := by omega
        have HR : Hid (∀ wr', In [] w wr' [FA bq 100 (ti + 1) (if j < 60 then (putF 100 (idL L j) (seenF x')).1 else idL L j), FA bp 100 (ti + 1) (if j < 60 then (putF 100 (idL L j) (seenF x')).1 else idL L j)] → IdRel w bp bq (ti + 1) L (.int .i64 (j + 1)) wr') := Lib.hid fun wr' h => ⟨j + 1, by congr 1, by omega, by unfold idL; rw [hx']; exact h⟩
        by_cases h60 : j < 60
        · have h60' : (j : Int) < 60 := by omega
          have hcs := ho.cells (encF (seenF x')) 59
          have HCS := Lib.hid hcs
          have WX := Lib.hid hwx.t
          have HR2 : Hid (∀ wr', In [] w wr' [FA bq 100 (ti + 1) (putF 100 (idL L j) (seenF x')).1, FA bp 100 (ti + 1) (putF 100 (idL L j) (seenF x')).1] → IdRel w bp bq (ti + 1) L (.int .i64 (j + 1)) wr') := Lib.hid fun wr' h => HR.out wr' (by rw [if_pos h60]; exact h)
          clear ho hc hwx hx' hlt h60 hcs HR
          go_wp2_with fail
          refine (o_fput HCS.out 2 rfl (f := seenF x') WX.out).mono ?_
          rintro e w3 ⟨rfl, ho⟩
          have H3 := Lib.hid ho
          obtain ⟨f0, f1, f2, f3, f4, f5, f6, f7⟩ := o_fl0 ho 0 rfl
          simp only [seenF, cutU] at f0 f1 f2 f3 f4 f5 f6 f7
          clear ho HCS
          go_wp2_with fail
          refine (o_fput H3.out 1 rfl (f := seenF x') WX.out).mono ?_
          rintro e w4 ⟨rfl, ho⟩
          have HE := Lib.hid (HR2.out _ ho.drop)
          clear ho H3 HR2 f0 f1 f2 f3 f4 f5 f6 f7
          go_wp2_with fail
          go_roundw
          case rel => exact HE.out
          case measure => simp [intOf]; omega
        · have hd : decide ((j : Int) < 60) = false := by simp; omega
          have HE : Hid (IdRel w bp bq (ti + 1) L (.int .i64 (j + 1)) (wr.alloc (.cells (encF x') 59))) := Lib.hid (HR.out _ (by rw [if_neg h60]; exact ho.alloc _))
          clear ho hc hwx hx' hlt h60 HR
          go_wp2_with fail
          go_roundw
          case rel => exact HE.out
          case measure => simp [intOf]; omega
      · have hge : (L.length : Int) ≤ (j : Int) := by omega
        have hjl : j = L.length := by omega
        subst hjl
        have hrow := ho.rowF 0 rfl
        have hok := ho.okF 0 rfl
        generalize idL L L.length = M at *
        have hMl : M.length ≤ 100 := by have := hok.room; omega
        obtain ⟨t1, t2⟩ := idle_twice M (a := lo - (ti + 1)) (b := hi - (ti + 1)) (by omega)
        have hlate := idleR_late hrow (hi - (ti + 1))
        have HI1 := Lib.hid (o_fidle ho 1 rfl (by omega) (by omega) lo (by omega) (by omega))
        have HT := Lib.hid (And.intro t1 t2)
        have HLATE := Lib.hid hlate
        have HB : Hid (0 ≤ lo ∧ lo ≤ hi ∧ hi < 200 ∧ 0 ≤ ti ∧ ti < 50) := Lib.hid ⟨by omega, hlh, by omega, i0, i1⟩
        clear ho hrow hok t1 t2 hlate hlt
        go_wp2_with fail
        refine HI1.out.mono ?_
        rintro e w3 ⟨v1, rfl, ho⟩
        have HI2 := Lib.hid (o_fidle ho 2 rfl (by omega) (by omega) hi (by omega) (by omega))
        clear ho HI1
        go_wp2_with fail
        refine HI2.out.mono ?_
        rintro e w4 ⟨v2, rfl, ho⟩
        obtain ⟨F2, hv2⟩ := ho.get 0 rfl
        obtain ⟨a2, c2, rfl, l1, l2, -⟩ := hv2.shape
        have HSRC := Lib.hid hv2.all
        have hfl : (flatF (idleD M (lo - (ti + 1))) ++ flatF (idleD (idleR M (lo - (ti + 1))) (hi - (ti + 1)))) = flatF (idleD M (hi - (ti + 1))) := by
          rw [← HT.out.1]; simp [flatF]
        have hlen2 : (idleD M (lo - (ti + 1))).length + (idleD (idleR M (lo - (ti + 1))) (hi - (ti + 1))).length = (idleD M (hi - (ti + 1))).length := by rw [← HT.out.1, List.length_append]
        have hbd : (idleD M (hi - (ti + 1))).length ≤ M.length := by
          have := congrArg List.length (idle_app M (hi - (ti + 1))); rw [List.length_append] at this; omega
        have HO := Lib.hid ho
        have HFL := Lib.hid (And.intro hfl hlen2)
        have hbd2 : (idleD M (lo - (ti + 1))).length + (idleD (idleR M (lo - (ti + 1))) (hi - (ti + 1))).length ≤ 1000000000 := by omega
        have HBD := Lib.hid hbd2
        clear ho hv2 HI2 hfl hlen2 hbd hbd2
        go_wp2_with (at_builtin; refine app_list (o := ⟨some 66, _, _, _, _, _⟩) (by rfl) HO.out 1 rfl (.tmp 62) (.tmp 65) 51 (by rfl) Try.underlying51 infoFlow (by decide) (by decide) (by rfl) (by rfl) HSRC.out (fun u hu => by
          obtain ⟨l, hl, hv⟩ := List.mem_flatten.1 hu
          obtain ⟨y, _, rfl⟩ := List.mem_map.1 hl
          simp at hv; rcases hv with rfl | rfl | rfl | rfl | rfl | rfl | rfl | rfl <;> rfl) HBD.out ?_)
        intro v' w5 ho _
        rw [HFL.out.1, HFL.out.2, HT.out.2] at ho
        have hmay : ∀ x ∈ idleR M (hi - (ti + 1)), 0 ≤ x.seen ∧ x.seen ≤ 1099511627776 := fun x hx => by
          have := (ho.okF 3 rfl).may x hx
          exact ⟨this.t0, this.t1⟩
        have HMAY := Lib.hid hmay
        have HI3 := Lib.hid (o_fidle ho 2 rfl (by omega) (by omega) hi (by omega) (by omega))
        clear ho HO HSRC HBD HFL hmay
        go_wp2_with fail
        refine HI3.out.mono ?_
        rintro e w6 ⟨v3, rfl, ho⟩
        obtain ⟨F3, hv3⟩ := ho.get 0 rfl
        obtain ⟨F4, hv4⟩ := ho.get 2 rfl
        have HSF := Lib.hid (sameflows_t hv4.view hv3.view)
        have HO := Lib.hid ho
        clear ho hv3 hv4 HI3
        go_wp2_with fail
        refine HSF.out.mono ?_
        rintro e w7 ⟨rfl, m, rfl⟩
        have HA1 := Lib.hid (o_fall (HO.out.drewN m) 4 rfl)
        clear HSF HO
        go_wp2_with fail
        refine HA1.out.mono ?_
        rintro e w8 ⟨v4, rfl, ho⟩
        have HA2 := Lib.hid (o_fall ho 4 rfl)
        clear ho HA1
        go_wp2_with fail
        refine HA2.out.mono ?_
        rintro e w9 ⟨v5, rfl, ho⟩
        obtain ⟨F5, hv5⟩ := ho.get 0 rfl
        obtain ⟨F6, hv6⟩ := ho.get 1 rfl
        have HSF := Lib.hid (sameflows_t hv6.view hv5.view)
        have HO := Lib.hid ho
        clear ho hv5 hv6 HA2
        go_wp2_with fail
        refine HSF.out.mono ?_
        rintro e w10 ⟨rfl, m2, rfl⟩
        have HA3 := Lib.hid (o_fall (HO.out.drewN m2) 6 rfl)
        clear HSF HO
        go_wp2_with fail
        refine HA3.out.mono ?_
        rintro e w11 ⟨v6, rfl, ho⟩
        obtain ⟨F7, hv7⟩ := ho.get 0 rfl
        obtain ⟨a7, c7, rfl, l71, l72, -⟩ := hv7.shape
        have HALL : Hid (∀ x ∈ sortF (idleR M (hi - (ti + 1))), (0 ≤ x.seen ∧ x.seen ≤ 1099511627776) ∧ hi - (ti + 1) < x.seen) := Lib.hid fun x hx => by
          have := (sortF_perm _).mem_iff.1 hx
          exact ⟨HMAY.out x this, HLATE.out x this⟩
        have hl100 : (sortF (idleR M (hi - (ti + 1)))).length ≤ 1000 := by
          rw [sortF_length]
          have := congrArg List.length (idle_app M (hi - (ti + 1))); rw [List.length_append] at this; omega
        generalize sortF (idleR M (hi - (ti + 1))) = S at *
        have HV : Hid (∀ W, Mod [] w11 W → 0 < S.length → ∃ g o, a7 = some ⟨g, o, none⟩ ∧ ∀ (j : Nat) (x : Fl), S[j]? = some x → FlAt W g (o + j * 8) x) := Lib.hid fun W hW h0 => view_flow ((RowA.framed _ _ _ _ _).keep hv7 (fun b hb => hW.block b ((RowA.framed _ _ _ _ _).lt hv7 b hb) (by simp))).view h0
        have HM11 := Lib.hid ho.mod
        have HS2 : Hid (IdLoop w11 hi ti S.length (.int .i64 0) w11) := Lib.hid ⟨0, rfl, Nat.zero_le _, Mod.refl _ _⟩
        clear ho hv7 HA3 HT HLATE HMAY
        go_wp2_with fail
        go_loopw [15, 84] (fun _ k wr => IdLoop w11 hi ti S.length k wr) (fun _ k _ => S.length - (intOf k).toNat)
        case atStart => exact HS2.out
        case round =>
          obtain ⟨j, rfl, hj, hm⟩ := hrel
          clear HS2
          by_cases hlt : j < S.length
          · obtain ⟨x', hx'⟩ : ∃ x', S[j]? = some x' := ⟨S[j], List.getElem?_eq_getElem hlt⟩
            obtain ⟨g, o, rfl, hc⟩ := HV.out wr hm (by omega)
            obtain ⟨f0, f1, f2, f3, f4, f5, f6, f7⟩ := hc j x' hx'
            obtain ⟨⟨s0, s1⟩, s2⟩ := HALL.out x' (List.mem_of_getElem? hx')
            obtain ⟨b0, b1, b2, b3, b4⟩ := HB.out
            have i2 : (j : Int) < (S.length : Int) := by omega
            have hd : decide (ti + 1 ≤ hi - x'.seen) = false := by simp; omega
            have HR : Hid (IdLoop w11 hi ti S.length (.int .i64 (j + 1)) (wr.alloc (.cells (encF x') 59))) := Lib.hid ⟨j + 1, by congr 1, by omega, hm.alloc _⟩
            clear hm hc hx' hlt
            go_wp2_with fail
            go_roundw
            case rel => exact HR.out
            case measure => simp [intOf]; omega
          · have hge : (S.length : Int) ≤ (j : Int) := by omega
            have HM := Lib.hid (HM11.out.trans hm (fun x hx => by simp at hx))
            clear hm hlt
            go_wp2_with fail
            refine (f11awake _).mono ?_
            rintro e w12 ⟨rfl, hmod⟩
            have HM2 := Lib.hid (HM.out.trans hmod (fun x hx => by simp at hx))
            clear hmod
            go_wp2_with fail
            go_ret
            exact ⟨rfl, HM2.out⟩
end Go.Proofs.Ytcakgponofbhkaa
