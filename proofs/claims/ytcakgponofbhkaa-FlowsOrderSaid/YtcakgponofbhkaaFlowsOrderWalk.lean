/- All are told by tuple, each once; those of all backends together are all. -/
import Derived.Test.YtcakgponofbhkaaFlowOf
import Derived.Test.YtcakgponofbhkaaR4Less
namespace Go.Proofs.Ytcakgponofbhkaa
open Go.RowKit
set_option linter.unusedVariables false
set_option maxRecDepth 100000
attribute [-go_sem] run_eql_struct

def orL (L : List Fl) : Nat → List Fl
  | 0 => []
  | j + 1 => match L[j]? with
    | some x => if j < 100 then (putF 100 (orL L j) x).1 else orL L j
    | none => orL L j
def inB (T : List Fl) (x : Fl) : Bool := T.any (fun y => y.bk == x.bk)
def cntB (S : List Fl) (j : Nat) : Nat := (S.filter (inB (S.take j))).length
theorem filter_or {p q : Fl → Bool} (h : ∀ z, p z = true → q z = true → False) : ∀ S : List Fl, (S.filter (fun z => p z || q z)).length = (S.filter p).length + (S.filter q).length
  | [] => rfl
  | z :: r => by
    have ih := filter_or h r
    simp only [List.filter_cons]
    cases hp : p z <;> cases hq : q z
    · simp [ih]
    · simp [ih]; omega
    · simp [ih]; omega
    · exact absurd (h z hp hq) (by simp)
theorem inB_next {S : List Fl} {q : Nat} {z x : Fl} (hz : S[q]? = some z) : inB (S.take (q + 1)) x = (inB (S.take q) x || (z.bk == x.bk)) := by
  have ht : S.take (q + 1) = S.take q ++ [z] := by rw [List.take_add_one, hz]; rfl
  unfold inB
  rw [ht, List.any_append]
  simp
theorem cntB_zero (S : List Fl) : cntB S 0 = 0 := by simp [cntB, inB]
theorem cntB_step {S : List Fl} {j : Nat} {x : Fl} (hx : S[j]? = some x) : cntB S (j + 1) = if inB (S.take j) x = true then cntB S j else cntB S j + (S.filter (keepF x.bk)).length := by
  have e : ∀ z, inB (S.take (j + 1)) z = (inB (S.take j) z || keepF x.bk z) := fun z => by
    have ht : S.take (j + 1) = S.take j ++ [x] := by rw [List.take_add_one, hx]; rfl
    unfold inB keepF bkNe
    rw [ht, List.any_append]
    congr 1
    by_cases h : x.bk = z.bk
    · simp [h]
    · have : z.bk ≠ x.bk := fun e => h e.symm
      have e1 : ([x].any fun y => y.bk == z.bk) = (x.bk == z.bk) := by simp
      rw [e1, beq_eq_false_iff_ne.2 h, bne_iff_ne.2 this]; rfl
  unfold cntB
  rw [show S.filter (inB (S.take (j + 1))) = S.filter (fun z => inB (S.take j) z || keepF x.bk z) from List.filter_congr (fun z _ => e z)]
  have hsame : ∀ z, keepF x.bk z = true → inB (S.take j) z = inB (S.take j) x := fun z hz => by
    have : z.bk = x.bk := by simpa [keepF, bkNe] using hz
    unfold inB; rw [this]
  by_cases h : inB (S.take j) x = true
  · rw [if_pos h]
    congr 1
    refine List.filter_congr (fun z _ => ?_)
    cases hk : keepF x.bk z with
    | false => rw [Bool.or_false]
    | true => rw [hsame z hk, h]; rfl
  · rw [if_neg h]
    exact filter_or (fun z h1 h2 => h (by rw [← hsame z h2]; exact h1)) S
theorem cntB_all (S : List Fl) : cntB S S.length = S.length := by
  unfold cntB
  rw [List.take_length]
  congr 1
  exact List.filter_eq_self.2 (fun x hx => List.any_eq_true.2 ⟨x, hx, by simp⟩)
theorem cntB_le (S : List Fl) (j : Nat) : cntB S j ≤ S.length := List.length_filter_le _ _
theorem sortF_strict {M : List Fl} (hk : (M.map (·.t)).Nodup) {j : Nat} {x y : Fl} (hx : (sortF M)[j]? = some x) (hy : (sortF M)[j + 1]? = some y) : ltT x.t y.t = true := by
  obtain ⟨h1, e1⟩ := List.getElem?_eq_some_iff.1 hx
  obtain ⟨h2, e2⟩ := List.getElem?_eq_some_iff.1 hy
  have hr := List.pairwise_iff_getElem.1 (sortF_row M) j (j + 1) h1 h2 (by omega)
  rw [e1, e2] at hr
  cases h : ltT x.t y.t with
  | true => rfl
  | false =>
    have e := ltT_total h hr
    have hk2 : ((sortF M).map (·.t)).Nodup := ((sortF_perm M).map _).nodup_iff.2 hk
    have : ((sortF M).map (·.t))[j]? = ((sortF M).map (·.t))[j + 1]? := by
      rw [List.getElem?_map, List.getElem?_map, hx, hy]; simp [e]
    have := (List.getElem?_inj (by simpa using h1) hk2).1 this
    omega
theorem o_rowF {F0 : List Nat} {w0 w : World} {R : List Asrt} {S : List Fl} {a : Option Addr} {n cap : Nat} (h : In F0 w0 w R) (i : Nat) (hi : R[i]? = some (RowA 59 8 (.slice a n cap) S.length (flatF S))) (h0 : 0 < S.length) :
    ∃ g, a = some ⟨g, 0, none⟩ ∧ ∀ (j : Nat) (x : Fl), S[j]? = some x → FlAt w g (j * 8) x := by
  obtain ⟨F, hF⟩ := h.get i hi
  obtain ⟨gg, o, e, hc⟩ := view_flow hF.view h0
  subst e
  obtain ⟨_, _, h4 | ⟨g', c, cur, e, _⟩⟩ := hF
  · omega
  · cases e; exact ⟨_, rfl, fun j x hx => by have := hc j x hx; rwa [Nat.zero_add] at this⟩
def OrRel1 (w : World) (bt : Nat) (L : List Fl) (k : Value) (wr : World) : Prop := ∃ j : Nat, k = .int .i64 j ∧ j ≤ L.length ∧ In [] w wr [FA bt 100 10 (orL L j)]
def OrRel2 (w : World) (bt : Nat) (v : Value) (M S : List Fl) (n k : Value) (wr : World) : Prop := ∃ j : Nat, k = .int .i64 j ∧ n = .int .i64 (cntB S j) ∧ j ≤ S.length ∧ In [] w wr [RowA 59 8 v S.length (flatF S), FA bt 100 10 M]
def OrRel3 (w : World) (bt : Nat) (v : Value) (M S : List Fl) (x : Fl) (fb n : Nat) (f k : Value) (wr : World) : Prop := ∃ q : Nat, k = .int .i64 q ∧ f = .bool (!inB (S.take q) x) ∧ q ≤ n ∧ In [] w wr [Cells fb (encF x) 59, RowA 59 8 v S.length (flatF S), FA bt 100 10 M]
set_option maxHeartbeats 32000000 in
theorem walk_FlowsOrder (w : World) {a : Option Addr} {len cap : Nat} {L : List Fl} (hL : ArgFl w a len cap L) : Calls Try.prog 10 #[.slice a len cap] w (TruePost w) := by
  have hlen := hL.length
  subst hlen
  have HL := Lib.hid hL
  have hcap : L.length ≤ 9223372036854775807 := by have h1 := hL.room; have h2 := hL.most; unfold maxLen at h2; omega
  have HN := Lib.hid (o_fnew (Own.nil w) 100 10)
  clear hL
  go_enter Try.func10, Try.ntmps10
  go_wp2_with fail
  refine HN.out.mono ?_
  rintro e w1 ⟨bt, rfl, ho⟩
  have HS : Hid (OrRel1 w bt L (.int .i64 0) w1) := Lib.hid ⟨0, rfl, Nat.zero_le _, ho⟩
  clear ho HN
  go_wp2_with fail
  go_loopw [4, 5, 16] (fun _ _ k wr => OrRel1 w bt L k wr) (fun _ _ k _ => L.length - (intOf k).toNat)
  case atStart => exact HS.out
  case round =>
    obtain ⟨j, rfl, hj, ho⟩ := hrel
    clear HS
    by_cases hlt : j < L.length
    · obtain ⟨b, o, x, rfl, hb, hx, hwx, hc⟩ := HL.out.read hlt
      obtain ⟨c0, c1, c2, c3, c4, c5, c6, c7⟩ := hc.old ho hb
      have i1 : (j : Int) < (L.length : Int) := by omega
      have HR : Hid (∀ wr', In [] w wr' [FA bt 100 10 (if j < 100 then (putF 100 (orL L j) x).1 else orL L j)] → OrRel1 w bt L (.int .i64 (j + 1)) wr') := Lib.hid fun wr' h => ⟨j + 1, by congr 1, by omega, by unfold orL; rw [hx]; exact h⟩
      by_cases h60 : j < 100
      · have h60' : (j : Int) < 100 := by omega
        have HP := Lib.hid (o_fput (ho.alloc (.cells (encF x) 59)) 0 rfl hwx.t)
        have HR2 : Hid (∀ wr', In [] w wr' [FA bt 100 10 (putF 100 (orL L j) x).1] → OrRel1 w bt L (.int .i64 (j + 1)) wr') := Lib.hid fun wr' h => HR.out wr' (by rw [if_pos h60]; exact h)
        clear ho hc hwx hx hlt h60 HR
        go_wp2_with fail
        refine HP.out.mono ?_
        rintro e w2 ⟨rfl, ho⟩
        have HE := Lib.hid (HR2.out _ ho)
        clear ho HP HR2
        go_wp2_with fail
        go_roundw
        case rel => exact HE.out
        case measure => simp [intOf]; omega
      · have hd : decide ((j : Int) < 100) = false := by simp; omega
        have HE : Hid (OrRel1 w bt L (.int .i64 (j + 1)) (wr.alloc (.cells (encF x) 59))) := Lib.hid (HR.out _ (by rw [if_neg h60]; exact ho.alloc _))
        clear ho hc hwx hx hlt h60 HR
        go_wp2_with fail
        go_roundw
        case rel => exact HE.out
        case measure => simp [intOf]; omega
    · have hge : (L.length : Int) ≤ (j : Int) := by omega
      have hjl : j = L.length := by omega
      subst hjl
      have hok := ho.okF 0 rfl
      generalize orL L L.length = M at *
      have hMl : M.length ≤ 100 := by have := hok.room; omega
      have HK := Lib.hid hok.keys
      have HSL := Lib.hid (sortF_length M)
      have HST : Hid (∀ (j : Nat) (x y : Fl), (sortF M)[j]? = some x → (sortF M)[j + 1]? = some y → ltT x.t y.t = true) := Lib.hid fun j x y hx hy => sortF_strict hok.keys hx hy
      have HOF : Hid (∀ b, (ofF b M).length = ((sortF M).filter (keepF b)).length) := Lib.hid fun b => rfl
      have HA := Lib.hid (o_fall ho 0 rfl)
      clear ho hok hlt HL
      generalize sortF M = S at *
      have hSl : S.length ≤ 100 := by have := HSL.out; omega
      go_wp2_with fail
      refine HA.out.mono ?_
      rintro e w2 ⟨v, rfl, ho⟩
      obtain ⟨Fv, hv⟩ := ho.get 0 rfl
      obtain ⟨av, cv, rfl, l1, l2, -⟩ := hv.shape
      unfold maxLen at l2
      have HS2 : Hid (OrRel2 w bt (.slice av S.length cv) M S (.int .i64 0) (.int .i64 0) w2) := Lib.hid ⟨0, rfl, by rw [cntB_zero]; rfl, Nat.zero_le _, ho⟩
      clear ho hv HA
      go_wp2_with fail
      go_loopw [7, 8, 9, 10, 12, 31] (fun n _ _ _ _ k wr => OrRel2 w bt (.slice av S.length cv) M S n k wr) (fun _ _ _ _ _ k _ => S.length - (intOf k).toNat)
      case atStart => exact HS2.out
      case round =>
        obtain ⟨j, rfl, rfl, hj, ho⟩ := hrel
        clear HS2
        by_cases hlt : j < S.length
        · obtain ⟨x, hx⟩ : ∃ x, S[j]? = some x := ⟨S[j], List.getElem?_eq_getElem hlt⟩
          obtain ⟨g, rfl, hc⟩ := o_rowF ho 0 rfl (by omega)
          obtain ⟨c0, c1, c2, c3, c4, c5, c6, c7⟩ := hc j x hx
          have i1 : (j : Int) < (S.length : Int) := by omega
          have HC := Lib.hid (ho.cells (encF x) 59)
          have HX := Lib.hid hx
          have HCS := Lib.hid (cntB_step hx)
          have HCL := Lib.hid (cntB_le S j)
          clear hlt
          rcases Nat.eq_zero_or_pos j with hj0 | hj0
          · have hd1 : decide (0 < j) = false := by simp; omega
            have hd2 : decide ((0 : Int) < (j : Int)) = false := by simp; omega
            clear hj0 hx hc ho
            go_wp2_with fail
            go_quiet (fail)
            have HI := Lib.hid (HC.out.drewN nq)
            go_wp2_with fail
            generalize wr.heap.size = fb at *
            go_loopw [10, 12, 54] (fun f _ k wr' => OrRel3 w bt (.slice (some ⟨g, 0, none⟩) S.length cv) M S x fb (j) f k wr') (fun _ _ k _ => (j) - (intOf k).toNat)
            case atStart => exact ⟨0, rfl, rfl, Nat.zero_le _, HI.out⟩
            case round =>
              obtain ⟨q, rfl, rfl, hq, ho⟩ := hrel
              clear HI
              by_cases hlt3 : q < (j)
              · obtain ⟨z, hz⟩ : ∃ z, S[q]? = some z := ⟨S[q]'(by omega), List.getElem?_eq_getElem _⟩
                obtain ⟨g', e', hc'⟩ := o_rowF ho 1 rfl (by omega)
                cases e'
                obtain ⟨z0, z1, z2, z3, z4, z5, z6, z7⟩ := hc' q z hz
                obtain ⟨x0, x1, x2, x3, x4, x5, x6, x7⟩ := o_fl0 (ho.alloc (.cells (encF z) 59)) 0 rfl
                have HN3 := Lib.hid (inB_next (x := x) hz)
                have i3 : (q : Int) < ((j : Nat) : Int) := by omega
                have HO3 := Lib.hid (ho.alloc (.cells (encF z) 59))
                clear ho hz hc' hlt3
                cases hb : inB (S.take q) x with
                | true =>
                  have HR3 : Hid (OrRel3 w bt (.slice (some ⟨g, 0, none⟩) S.length cv) M S x fb (j) (.bool false) (.int .i64 (q + 1)) (wr.alloc (.cells (encF z) 59))) := Lib.hid ⟨q + 1, by congr 1, by rw [HN3.out, hb]; rfl, by omega, HO3.out⟩
                  clear hb HN3 HO3
                  go_wp2_with fail
                  go_roundw
                  case rel => exact HR3.out
                  case measure => simp [intOf]; omega
                | false =>
                  have HR3 : Hid (OrRel3 w bt (.slice (some ⟨g, 0, none⟩) S.length cv) M S x fb (j) (.bool (z.bk != x.bk)) (.int .i64 (q + 1)) (wr.alloc (.cells (encF z) 59))) := Lib.hid ⟨q + 1, by congr 1, by rw [HN3.out, hb]; rfl, by omega, HO3.out⟩
                  clear hb HN3 HO3
                  go_wp2_with fail
                  go_roundw
                  case rel => exact HR3.out
                  case measure => simp [intOf]; omega
              · have hge3 : ((j : Nat) : Int) ≤ (q : Int) := by omega
                have hqj : (j) = q := by omega
                subst hqj
                have hcnt : ((S.filter (keepF x.bk)).length : Int) ≤ (S.length : Int) := by have := List.length_filter_le (keepF x.bk) S; omega
                have hcl2 : ((cntB S (j) : Nat) : Int) ≤ (S.length : Int) := by have := HCL.out; omega
                cases hb : inB (S.take (j)) x with
                | true =>
                  have HR2 : Hid (OrRel2 w bt (.slice (some ⟨g, 0, none⟩) S.length cv) M S (.int .i64 (cntB S (j))) (.int .i64 ((j : Nat) + 1)) wr) := Lib.hid ⟨(j) + 1, by congr 1, by rw [HCS.out, if_pos hb], by omega, ho.drop⟩
                  clear hb ho hlt3
                  go_wp2_with fail
                  go_roundw
                  case rel => exact HR2.out
                  case measure => simp [intOf]; omega
                | false =>
                  have HOFW := Lib.hid (o_fof ho 2 rfl x.bk)
                  obtain ⟨x0, x1, x2, x3, x4, x5, x6, x7⟩ := o_fl0 ho 0 rfl
                  have HR2 : Hid (∀ w', In [] w w' [RowA 59 8 (.slice (some ⟨g, 0, none⟩) S.length cv) S.length (flatF S), FA bt 100 10 M] → OrRel2 w bt (.slice (some ⟨g, 0, none⟩) S.length cv) M S (.int .i64 ((cntB S (j) : Int) + ((S.filter (keepF x.bk)).length : Int))) (.int .i64 ((j : Nat) + 1)) w') := Lib.hid fun w' h => ⟨(j) + 1, by congr 1, by rw [HCS.out, if_neg (by rw [hb]; simp)]; congr 1, by omega, h⟩
                  rw [HOF.out x.bk] at HOFW
                  clear hb ho hlt3
                  go_wp2_with fail
                  refine HOFW.out.mono ?_
                  rintro e w6 ⟨v6, rfl, ho⟩
                  obtain ⟨F6, hv6⟩ := ho.get 0 rfl
                  obtain ⟨a6, c6, rfl, l61, l62, -⟩ := hv6.shape
                  have HE := Lib.hid (HR2.out _ ((ho.drop).drop))
                  clear ho hv6 HOFW HR2 x0 x1 x2 x3 x4 x5 x6 x7
                  go_wp2_with fail
                  go_roundw
                  case rel => exact HE.out
                  case measure => simp [intOf]; omega
          · obtain ⟨p, rfl⟩ : ∃ p, j = p + 1 := ⟨j - 1, by omega⟩
            obtain ⟨y, hy⟩ : ∃ y, S[p]? = some y := ⟨S[p]'(by omega), List.getElem?_eq_getElem _⟩
            have hless := HST.out p y x hy hx
            have hCL := Lib.hid (r4less y.t x.t)
            have hd1 : decide (0 < p + 1) = true := by simp
            have hpre : ∀ W, (Instr.slice 51 (.slice (some ⟨g, 0, none⟩) S.length cv) none (some (.int .i64 (p + 1 : Nat))) none).run Try.prog W = .ok (.slice (some ⟨g, 0, none⟩) (p + 1) cv) W := fun W => run_prefix Try.underlying51 infoFlow _ _ _ _ (by omega) W
            have hw1 : IntKind.i64.wrap (((p + 1 : Nat) : Int) - 1) = (p : Int) := by rw [show ((p + 1 : Nat) : Int) - 1 = (p : Int) by omega]; exact IntWalk.i64_in _ (by omega)
            have fC : Hid (FlAt (wr.alloc (.cells (encF x) 59)) g (p * 8) y) := Lib.hid (by
              obtain ⟨g', e', hc'⟩ := o_rowF HC.out 1 rfl (by omega)
              cases e'
              exact hc' p y hy)
            obtain ⟨y0, y1, y2, y3, y4, -, -, -⟩ := fC.out
            obtain ⟨x0, x1, x2, x3, x4, -, -, -⟩ := o_fl0 HC.out 0 rfl
            have HSC : Hid (∀ W', In [] w W' [Cells wr.heap.size (encF x) 59, RowA 59 8 (.slice (some ⟨g, 0, none⟩) S.length cv) S.length (flatF S), FA bt 100 10 M] → W'.cell? ⟨g, p * 8, none⟩ = some (.int .u32 y.t.src) ∧ W'.cell? ⟨g, p * 8 + 1, none⟩ = some (.int .u32 y.t.dst) ∧ W'.cell? ⟨g, p * 8 + 2, none⟩ = some (.int .i64 y.t.proto) ∧ W'.cell? ⟨g, p * 8 + 3, none⟩ = some (.int .i64 y.t.sport) ∧ W'.cell? ⟨g, p * 8 + 4, none⟩ = some (.int .i64 y.t.dport) ∧ W'.cell? ⟨wr.heap.size, 0, none⟩ = some (.int .u32 x.t.src) ∧ W'.cell? ⟨wr.heap.size, 1, none⟩ = some (.int .u32 x.t.dst) ∧ W'.cell? ⟨wr.heap.size, 2, none⟩ = some (.int .i64 x.t.proto) ∧ W'.cell? ⟨wr.heap.size, 3, none⟩ = some (.int .i64 x.t.sport) ∧ W'.cell? ⟨wr.heap.size, 4, none⟩ = some (.int .i64 x.t.dport)) := Lib.hid fun W' h => by
              obtain ⟨g', e', hc'⟩ := o_rowF h 1 rfl (by omega)
              cases e'
              obtain ⟨z0, z1, z2, z3, z4, -, -, -⟩ := hc' p y hy
              obtain ⟨u0, u1, u2, u3, u4, -, -, -⟩ := o_fl0 h 0 rfl
              exact ⟨z0, z1, z2, z3, z4, u0, u1, u2, u3, u4⟩
            have hc0 := HSC.out _ (HC.out.drewN 1)
            have hp0 : (0 : Int) ≤ (p : Int) := by omega
            have hp1 : (p : Int) < (S.length : Int) := by omega
            have hp2 : IntKind.i64.wrap (p : Int) = (p : Int) := IntWalk.i64_in _ (by omega)
            clear hx hc ho hy hj0 y0 y1 y2 y3 y4 x0 x1 x2 x3 x4 fC
            go_wp2_with fail
            go_region_held3 (fun w' => w'.cell? ⟨g, p * 8, none⟩ = some (.int .u32 y.t.src) ∧ w'.cell? ⟨g, p * 8 + 1, none⟩ = some (.int .u32 y.t.dst) ∧ w'.cell? ⟨g, p * 8 + 2, none⟩ = some (.int .i64 y.t.proto) ∧ w'.cell? ⟨g, p * 8 + 3, none⟩ = some (.int .i64 y.t.sport) ∧ w'.cell? ⟨g, p * 8 + 4, none⟩ = some (.int .i64 y.t.dport) ∧ w'.cell? ⟨wr.heap.size, 0, none⟩ = some (.int .u32 x.t.src) ∧ w'.cell? ⟨wr.heap.size, 1, none⟩ = some (.int .u32 x.t.dst) ∧ w'.cell? ⟨wr.heap.size, 2, none⟩ = some (.int .i64 x.t.proto) ∧ w'.cell? ⟨wr.heap.size, 3, none⟩ = some (.int .i64 x.t.sport) ∧ w'.cell? ⟨wr.heap.size, 4, none⟩ = some (.int .i64 x.t.dport)) (first | exact hc1 | exact hc0 | go_keep)
              ((go_at_call 40
                refine (hCL.out _).mono ?_
                rintro e v0 ⟨rfl, o, o', rfl⟩
                have HI := Lib.hid (((HC.out.drewN 1).alloc o).alloc o')
                have hc1 := HSC.out _ HI.out))
            go_wp2_with fail
            generalize wr.heap.size = fb at *
            go_loopw [10, 12, 54] (fun f _ k wr' => OrRel3 w bt (.slice (some ⟨g, 0, none⟩) S.length cv) M S x fb (p + 1) f k wr') (fun _ _ k _ => (p + 1) - (intOf k).toNat)
            case atStart => exact ⟨0, rfl, rfl, Nat.zero_le _, HI.out⟩
            case round =>
              obtain ⟨q, rfl, rfl, hq, ho⟩ := hrel
              clear HI
              by_cases hlt3 : q < (p + 1)
              · obtain ⟨z, hz⟩ : ∃ z, S[q]? = some z := ⟨S[q]'(by omega), List.getElem?_eq_getElem _⟩
                obtain ⟨g', e', hc'⟩ := o_rowF ho 1 rfl (by omega)
                cases e'
                obtain ⟨z0, z1, z2, z3, z4, z5, z6, z7⟩ := hc' q z hz
                obtain ⟨x0, x1, x2, x3, x4, x5, x6, x7⟩ := o_fl0 (ho.alloc (.cells (encF z) 59)) 0 rfl
                have HN3 := Lib.hid (inB_next (x := x) hz)
                have i3 : (q : Int) < ((p + 1 : Nat) : Int) := by omega
                have HO3 := Lib.hid (ho.alloc (.cells (encF z) 59))
                clear ho hz hc' hlt3
                cases hb : inB (S.take q) x with
                | true =>
                  have HR3 : Hid (OrRel3 w bt (.slice (some ⟨g, 0, none⟩) S.length cv) M S x fb (p + 1) (.bool false) (.int .i64 (q + 1)) (wr.alloc (.cells (encF z) 59))) := Lib.hid ⟨q + 1, by congr 1, by rw [HN3.out, hb]; rfl, by omega, HO3.out⟩
                  clear hb HN3 HO3
                  go_wp2_with fail
                  go_roundw
                  case rel => exact HR3.out
                  case measure => simp [intOf]; omega
                | false =>
                  have HR3 : Hid (OrRel3 w bt (.slice (some ⟨g, 0, none⟩) S.length cv) M S x fb (p + 1) (.bool (z.bk != x.bk)) (.int .i64 (q + 1)) (wr.alloc (.cells (encF z) 59))) := Lib.hid ⟨q + 1, by congr 1, by rw [HN3.out, hb]; rfl, by omega, HO3.out⟩
                  clear hb HN3 HO3
                  go_wp2_with fail
                  go_roundw
                  case rel => exact HR3.out
                  case measure => simp [intOf]; omega
              · have hge3 : ((p + 1 : Nat) : Int) ≤ (q : Int) := by omega
                have hqj : (p + 1) = q := by omega
                subst hqj
                have hcnt : ((S.filter (keepF x.bk)).length : Int) ≤ (S.length : Int) := by have := List.length_filter_le (keepF x.bk) S; omega
                have hcl2 : ((cntB S (p + 1) : Nat) : Int) ≤ (S.length : Int) := by have := HCL.out; omega
                cases hb : inB (S.take (p + 1)) x with
                | true =>
                  have HR2 : Hid (OrRel2 w bt (.slice (some ⟨g, 0, none⟩) S.length cv) M S (.int .i64 (cntB S (p + 1))) (.int .i64 ((p + 1 : Nat) + 1)) wr) := Lib.hid ⟨(p + 1) + 1, by congr 1, by rw [HCS.out, if_pos hb], by omega, ho.drop⟩
                  clear hb ho hlt3
                  go_wp2_with fail
                  go_roundw
                  case rel => exact HR2.out
                  case measure => simp [intOf]; omega
                | false =>
                  have HOFW := Lib.hid (o_fof ho 2 rfl x.bk)
                  obtain ⟨x0, x1, x2, x3, x4, x5, x6, x7⟩ := o_fl0 ho 0 rfl
                  have HR2 : Hid (∀ w', In [] w w' [RowA 59 8 (.slice (some ⟨g, 0, none⟩) S.length cv) S.length (flatF S), FA bt 100 10 M] → OrRel2 w bt (.slice (some ⟨g, 0, none⟩) S.length cv) M S (.int .i64 ((cntB S (p + 1) : Int) + ((S.filter (keepF x.bk)).length : Int))) (.int .i64 ((p + 1 : Nat) + 1)) w') := Lib.hid fun w' h => ⟨(p + 1) + 1, by congr 1, by rw [HCS.out, if_neg (by rw [hb]; simp)]; congr 1, by omega, h⟩
                  rw [HOF.out x.bk] at HOFW
                  clear hb ho hlt3
                  go_wp2_with fail
                  refine HOFW.out.mono ?_
                  rintro e w6 ⟨v6, rfl, ho⟩
                  obtain ⟨F6, hv6⟩ := ho.get 0 rfl
                  obtain ⟨a6, c6, rfl, l61, l62, -⟩ := hv6.shape
                  have HE := Lib.hid (HR2.out _ ((ho.drop).drop))
                  clear ho hv6 HOFW HR2 x0 x1 x2 x3 x4 x5 x6 x7
                  go_wp2_with fail
                  go_roundw
                  case rel => exact HE.out
                  case measure => simp [intOf]; omega
        · have hge : (S.length : Int) ≤ (j : Int) := by omega
          have hjl : j = S.length := by omega
          subst hjl
          have HFL := Lib.hid (o_flen ho 1 rfl)
          rw [← HSL.out] at HFL
          have HM := Lib.hid ho.mod
          have hca := cntB_all S
          clear ho hlt
          rw [hca]
          clear hca
          go_wp2_with fail
          refine HFL.out.mono ?_
          rintro e w6 ⟨rfl, rfl⟩
          go_wp2_with fail
          refine (f11awake _).mono ?_
          rintro e w7 ⟨rfl, hmod⟩
          have HM2 := Lib.hid (HM.out.trans hmod (fun x hx => by simp at hx))
          clear hmod
          go_wp2_with fail
          go_ret
          exact ⟨rfl, HM2.out⟩
end Go.Proofs.Ytcakgponofbhkaa
