/- The document's row of flows: Idle. -/
import Derived.Test.YtcakgponofbhkaaRFlowsTouch
namespace Go.Proofs.Ytcakgponofbhkaa
open Go.RowKit
set_option linter.unusedVariables false
set_option maxRecDepth 100000
attribute [-go_sem] run_eql_struct

def LtTF (x y : Fl) : Prop := x.seen < y.seen ∨ x.seen = y.seen ∧ ltT x.t y.t = true
theorem idle_ins {out : List Fl} {d : Fl} {k : Nat} (ho : out.Pairwise LtTF) (hd : ∀ y ∈ out, ltT y.t d.t = true) (hk : k ≤ out.length) (h1 : ∀ y ∈ out.drop k, d.seen < y.seen) (h2 : k = 0 ∨ ∃ y, out[k - 1]? = some y ∧ y.seen ≤ d.seen) :
    (out.take k ++ d :: out.drop k).Pairwise LtTF ∧ (out.take k ++ d :: out.drop k).Perm (d :: out) := by
  refine ⟨?_, ?_⟩
  · rw [List.pairwise_append]
    have hle : ∀ y ∈ out.take k, y.seen ≤ d.seen := by
      rcases h2 with rfl | ⟨z, hz, hzd⟩
      · simp
      · intro y hy
        obtain ⟨i, hi, rfl⟩ := List.mem_iff_getElem.1 hy
        rw [List.length_take] at hi
        rw [List.getElem_take]
        obtain ⟨hk1, rfl⟩ := List.getElem?_eq_some_iff.1 hz
        by_cases e : i = k - 1
        · subst e; exact hzd
        · have := List.pairwise_iff_getElem.1 ho i (k - 1) (by omega) hk1 (by omega)
          rcases this with h | ⟨h, _⟩ <;> omega
    refine ⟨ho.sublist (List.take_sublist _ _), List.pairwise_cons.2 ⟨fun y hy => Or.inl (h1 y hy), ho.sublist (List.drop_sublist _ _)⟩, fun y hy z hz => ?_⟩
    have hyd := hle y hy
    have hy1 := hd y (List.mem_of_mem_take hy)
    rcases List.mem_cons.1 hz with rfl | hz
    · rcases Int.lt_or_eq_of_le hyd with h | h
      · exact Or.inl h
      · exact Or.inr ⟨h, hy1⟩
    · have := h1 z hz; left; omega
  · refine List.perm_middle.trans (List.Perm.cons _ ?_)
    rw [List.take_append_drop]
def lateF (c : Int) (x : Fl) : Bool := !isIdle c x
theorem idle_step {L out : List Fl} {j : Nat} {x : Fl} {c : Int} (hL : L.Pairwise (fun x y => ltT x.t y.t = true)) (hx : L[j]? = some x) (hp : out.Perm ((L.take j).filter (isIdle c))) :
    (c < x.seen → out.Perm ((L.take (j + 1)).filter (isIdle c)) ∧ (L.take (j + 1)).filter (lateF c) = (L.take j).filter (lateF c) ++ [x]) ∧ (x.seen ≤ c → (L.take (j + 1)).filter (lateF c) = (L.take j).filter (lateF c) ∧ (∀ y ∈ out, ltT y.t x.t = true) ∧ ∀ out' : List Fl, out'.Perm (x :: out) → out'.Perm ((L.take (j + 1)).filter (isIdle c))) := by
  have e : (L.take (j + 1)).filter (isIdle c) = (L.take j).filter (isIdle c) ++ (if x.seen ≤ c then [x] else []) := by
    rw [List.take_add_one, hx, List.filter_append]
    by_cases h : x.seen ≤ c <;> simp [isIdle, h]
  have e2 : (L.take (j + 1)).filter (lateF c) = (L.take j).filter (lateF c) ++ (if x.seen ≤ c then [] else [x]) := by
    rw [List.take_add_one, hx, List.filter_append]
    by_cases h : x.seen ≤ c <;> simp [isIdle, lateF, h]
  rw [e, e2]
  constructor
  · intro h; rw [if_neg (by omega), if_neg (by omega), List.append_nil]; exact ⟨hp, rfl⟩
  · intro h
    rw [if_pos h, if_pos h, List.append_nil]
    refine ⟨rfl, fun y hy => ?_, fun out' ho => ho.trans ((hp.cons x).trans (List.perm_append_singleton _ _).symm)⟩
    have hy2 := (List.mem_filter.1 (hp.mem_iff.1 hy)).1
    obtain ⟨i, hi, rfl⟩ := List.mem_iff_getElem.1 hy2
    rw [List.length_take] at hi
    rw [List.getElem_take]
    obtain ⟨hj, rfl⟩ := List.getElem?_eq_some_iff.1 hx
    exact List.pairwise_iff_getElem.1 hL i j (by omega) hj (by omega)
def RIdleRel (bt : Nat) (most wait : Int) (L : List Fl) (c : Int) (v : Value) (w : World) (F : List Nat) (u5 u6 k : Value) (wr : World) : Prop :=
  ∃ (j : Nat) (out rest : List Fl), k = .int .i64 j ∧ j ≤ L.length ∧ out.Pairwise LtTF ∧ out.Perm ((L.take j).filter (isIdle c)) ∧ rest = (L.take j).filter (lateF c) ∧
    In F w wr (RowA 59 8 u5 out.length (flatF out) :: RowA 59 8 u6 rest.length (flatF rest) :: RFr bt most wait v L)
def RIdleIn (g bt : Nat) (most wait : Int) (L out rest : List Fl) (x : Fl) (u5 u6 v : Value) : List Asrt := Cells g (encF x) 59 :: RowA 59 8 u5 out.length (flatF out) :: RowA 59 8 u6 rest.length (flatF rest) :: RFr bt most wait v L
def RIdleRel2 (g bt : Nat) (most wait : Int) (L out rest : List Fl) (x : Fl) (u5 u6 v : Value) (w : World) (F : List Nat) (k : Value) (wr : World) : Prop :=
  ∃ i : Nat, k = .int .i64 i ∧ i ≤ out.length ∧ (∀ y ∈ out.drop i, x.seen < y.seen) ∧ In F w wr (RIdleIn g bt most wait L out rest x u5 u6 v)
set_option maxHeartbeats 32000000 in
theorem rf_idle {w : World} {bt : Nat} {most wait : Int} {L D : List Fl} {F : List Nat} (h : RFA bt most wait L w F) (hl : L.length ≤ 1000000) (hs : L.Pairwise (fun x y => ltT x.t y.t = true)) (hp : ∀ x ∈ L, 0 ≤ x.seen) (i1 : 1 ≤ wait) (i2 : wait ≤ 1099511627776) (now : Int) (n1 : -9223372036854775808 ≤ now) (n2 : now < 9223372036854775808)
    (hD : ∀ out : List Fl, out.Pairwise LtTF → out.Perm (L.filter (isIdle (now - wait))) → out = D) :
    Calls Try.prog 46 #[.pointer (some ⟨bt, 0, none⟩), .int .i64 now] w (Gives w F (fun v => Star [RFA bt most wait (L.filter (lateF (now - wait))), RowA 59 8 v D.length (flatF D)])) := by
  have HD := Lib.hid hD
  have HP := Lib.hid hp
  have HL := Lib.hid hs
  obtain ⟨v, h⟩ := h
  have HB := Lib.hid (In.start RFr.framed h)
  obtain ⟨a, cap, rfl⟩ := RFr.val (In.start RFr.framed h)
  have c0 : w.cell? ⟨bt, 0, none⟩ = some (.slice a L.length cap) := cell_of (HB.out.block 0 rfl) rfl
  have HS : Hid (RIdleRel bt most wait L (now - wait) (.slice a L.length cap) w F (.slice none 0 0) (.slice none 0 0) (.int .i64 0) w) := Lib.hid ⟨0, [], [], rfl, Nat.zero_le _, List.Pairwise.nil, by simp, by simp, (HB.out.rownil _ _).rownil _ _⟩
  clear h hs hp hD
  go_enter Try.func46, Try.ntmps46
  go_wp2_with fail
  go_loopw [5, 6, 15] (RIdleRel bt most wait L (now - wait) (.slice a L.length cap) w F) (fun _ _ k _ => L.length - (intOf k).toNat)
  case atStart => exact HS.out
  case round =>
    obtain ⟨j, out, rest, rfl, hj, hop, hpm, hre, ho⟩ := hrel
    clear HS
    by_cases hlt : j < L.length
    · obtain ⟨x, hx⟩ : ∃ x, L[j]? = some x := ⟨L[j], List.getElem?_eq_getElem hlt⟩
      obtain ⟨g, rfl, hc⟩ := flow_at_row ho 3 rfl (by omega)
      obtain ⟨x0, x1, x2, x3, x4, x5, x6, x7⟩ := hc j x hx
      have hlt' : (j : Int) < (L.length : Int) := by omega
      have hx0 := HP.out x (List.mem_of_getElem? hx)
      obtain ⟨hs1, hs2⟩ := idle_step HL.out hx hpm
      have HO : Hid (In F w (wr.alloc (.cells #[.int .u32 x.t.src, .int .u32 x.t.dst, .int .i64 x.t.proto, .int .i64 x.t.sport, .int .i64 x.t.dport, .int .i64 x.bk, .int .i64 x.gen, .int .i64 x.seen] 59)) (Cells wr.heap.size (encF x) 59 :: RowA 59 8 u5 out.length (flatF out) :: RowA 59 8 u6 rest.length (flatF rest) :: RFr bt most wait (.slice (some ⟨g, 0, none⟩) L.length cap) L)) := Lib.hid (ho.cells (encF x) 59)
      have hrl : rest.length ≤ 1000000 := by
        have h2 : ((L.take j).filter (lateF (now - wait))).length ≤ (L.take j).length := List.filter_sublist.length_le
        rw [List.length_take, ← hre] at h2; omega
      have hol : out.length ≤ 1000000 := by
        have := hpm.length_eq
        have h2 : ((L.take j).filter (isIdle (now - wait))).length ≤ (L.take j).length := List.filter_sublist.length_le
        rw [List.length_take] at h2; omega
      by_cases hnow : now < 0 ∨ now - wait < x.seen
      · have hlate : now - wait < x.seen := by rcases hnow with h | h <;> omega
        obtain ⟨q1, q2⟩ := hs1 hlate
        have Hfl : Hid (flatF rest ++ (encF x).toList = flatF ((L.take (j + 1)).filter (lateF (now - wait))) ∧ rest.length + 1 = ((L.take (j + 1)).filter (lateF (now - wait))).length) := Lib.hid (by rw [q2, flatF_snoc, hre]; simp)
        have HQ : Hid (out.Pairwise LtTF ∧ out.Perm ((L.take (j + 1)).filter (isIdle (now - wait)))) := Lib.hid ⟨hop, q1⟩
        have hg : decide (now < 0) = true ∨ (decide (now < 0) = false ∧ IntKind.i64.wrap (now - wait) = now - wait ∧ decide (now - wait < x.seen) = true) := by
          by_cases e : now < 0
          · left; exact decide_eq_true e
          · right; refine ⟨decide_eq_false e, by rw [IntKind.wrap_i64]; omega, decide_eq_true hlate⟩
        clear ho hx hc hlt c0 hs1 hs2 hop hpm hre q1 q2 hnow hlate
        rcases hg with hg | ⟨hg, hg2, hg3⟩
        all_goals
          go_upto_region 5 with fail
          generalize wr.heap.size = fb at *
          generalize (wr.alloc (.cells #[.int .u32 x.t.src, .int .u32 x.t.dst, .int .i64 x.t.proto, .int .i64 x.t.sport, .int .i64 x.t.dport, .int .i64 x.bk, .int .i64 x.gen, .int .i64 x.seen] 59)) = wy at *
          clear x0 x1 x2 x3 x4 x5 x6 x7
          have b2 : wy.cell? ⟨bt, 2, none⟩ = some (.int .i64 wait) := cell_of (HO.out.block 3 rfl) rfl
          obtain ⟨f0, f1, f2, f3, f4, f5, f6, f7⟩ := o_fl0 HO.out 0 rfl
          go_quiet (fail)
          have HI := Lib.hid (HO.out.drewN nq)
          clear b2 f0 f1 f2 f3 f4 f5 f6 f7 HO
          generalize wy.drewN nq = wz at *
          obtain ⟨f0, f1, f2, f3, f4, f5, f6, f7⟩ := o_fl0 HI.out 0 rfl
          go_wp2_with (at_builtin; refine append_elem' (HI.out.alloc _) 2 rfl rfl (.tmp 32) (.tmp 34) 51 rfl Try.underlying51 infoFlow (by decide) (by decide) rfl _ (encF x) rfl hp_alloc_new rfl (fun u hu => by simp [encF] at hu; rcases hu with rfl | rfl | rfl | rfl | rfl | rfl | rfl | rfl <;> rfl) (by omega) ?_)
          intro v' w3 ho
          have HR : Hid (RIdleRel bt most wait L (now - wait) (.slice (some ⟨g, 0, none⟩) L.length cap) w F u5 v' (.int .i64 (j + 1)) w3) := by
            refine Lib.hid ⟨j + 1, _, _, by congr 1, by omega, HQ.out.1, HQ.out.2, rfl, ?_⟩
            rw [← Hfl.out.1, ← Hfl.out.2]
            exact ho.drop
          clear ho HI f0 f1 f2 f3 f4 f5 f6 f7
          go_wp2_with fail
          go_roundw
          case rel => exact HR.out
          case measure => simp [intOf]; omega
      · have hi0 : 0 ≤ now ∧ x.seen ≤ now - wait := by
          constructor
          · exact Classical.byContradiction fun h => hnow (Or.inl (by omega))
          · exact Classical.byContradiction fun h => hnow (Or.inr (by omega))
        obtain ⟨q1, hs3, hs4⟩ := hs2 hi0.2
        have hg : decide (now < 0) = false := decide_eq_false (by omega)
        have hg2 : IntKind.i64.wrap (now - wait) = now - wait := by rw [IntKind.wrap_i64]; omega
        have hg3 : decide (now - wait < x.seen) = false := decide_eq_false (by omega)
        have Hins : Hid (∀ i, i ≤ out.length → (∀ y ∈ out.drop i, x.seen < y.seen) → (i = 0 ∨ ∃ y, out[i - 1]? = some y ∧ y.seen ≤ x.seen) → (out.take i ++ x :: out.drop i).Pairwise LtTF ∧ (out.take i ++ x :: out.drop i).Perm ((L.take (j + 1)).filter (isIdle (now - wait))) ∧ rest = (L.take (j + 1)).filter (lateF (now - wait))) :=
          Lib.hid fun i hi h1 h2 => by
            obtain ⟨p1, p2⟩ := idle_ins hop hs3 hi h1 h2
            exact ⟨p1, hs4 _ p2, by rw [hre, q1]⟩
        obtain ⟨Fo, hro⟩ := ho.get 0 rfl
        obtain ⟨ao, co, rfl, -, -, -⟩ := hro.shape
        clear ho hx hc hlt c0 hs1 hs2 hop hpm hre q1 hnow hi0 hs3 hs4 hro
        go_upto_region 5 with fail
        generalize wr.heap.size = fb at *
        generalize (wr.alloc (.cells #[.int .u32 x.t.src, .int .u32 x.t.dst, .int .i64 x.t.proto, .int .i64 x.t.sport, .int .i64 x.t.dport, .int .i64 x.bk, .int .i64 x.gen, .int .i64 x.seen] 59)) = wy at *
        clear x0 x1 x2 x3 x4 x5 x6 x7
        have b2 : wy.cell? ⟨bt, 2, none⟩ = some (.int .i64 wait) := cell_of (HO.out.block 3 rfl) rfl
        obtain ⟨f0, f1, f2, f3, f4, f5, f6, f7⟩ := o_fl0 HO.out 0 rfl
        go_quiet (fail)
        have HI := Lib.hid (HO.out.drewN nq)
        clear b2 f0 f1 f2 f3 f4 f5 f6 f7 HO hg hg2 hg3
        generalize wy.drewN nq = wz at *
        have HS : Hid (RIdleRel2 fb bt most wait L out rest x (.slice ao out.length co) u6 (.slice (some ⟨g, 0, none⟩) L.length cap) w F (.int .i64 out.length) wz) :=
          Lib.hid ⟨out.length, rfl, Nat.le_refl _, by simp, HI.out⟩
        clear HI
        go_wp2_with fail
        obtain ⟨wo, rfl⟩ : ∃ wo : World, wo = wr := ⟨_, rfl⟩
        go_loopw [9] (RIdleRel2 fb bt most wait L out rest x (.slice ao out.length co) u6 (.slice (some ⟨g, 0, none⟩) L.length cap) w F) (fun k _ => (intOf k).toNat)
        case atStart => exact HS.out
        case round =>
          obtain ⟨i, rfl, hi, hhi, ho⟩ := hrel
          clear HS
          obtain ⟨f0, f1, f2, f3, f4, f5, f6, f7⟩ := o_fl0 ho 0 rfl
          by_cases hgo : ∃ y, 0 < i ∧ out[i - 1]? = some y ∧ x.seen < y.seen
          · obtain ⟨y, hi0, hy, hyx⟩ := hgo
            obtain ⟨bo, rfl, hq⟩ := flow_at_row ho 1 rfl (by omega)
            obtain ⟨-, -, -, -, -, -, -, q7⟩ := hq (i - 1) y hy
            have HR : Hid (∀ m, RIdleRel2 fb bt most wait L out rest x (.slice (some ⟨bo, 0, none⟩) out.length co) u6 (.slice (some ⟨g, 0, none⟩) L.length cap) w F (.int .i64 ((i : Int) - 1)) (wr.drewN m)) :=
              Lib.hid fun m => ⟨i - 1, by congr 1; omega, by omega, fun z hz => by
                obtain ⟨hlt1, rfl⟩ := List.getElem?_eq_some_iff.1 hy
                rw [List.drop_eq_getElem_cons hlt1] at hz
                rcases List.mem_cons.1 hz with rfl | hz
                · exact hyx
                · exact hhi z (by rwa [show i - 1 + 1 = i by omega] at hz), ho.drewN m⟩
            have j0 : (0 : Int) < (i : Int) := by omega
            have j1 : (0 : Int) ≤ (i : Int) - 1 := by omega
            have j2 : (i : Int) - 1 < (out.length : Int) := by omega
            have j3 : ((i : Int) - 1).toNat = i - 1 := by omega
            have j4 : IntKind.i64.wrap ((i : Int) - 1) = (i : Int) - 1 := by rw [IntKind.wrap_i64]; omega
            clear ho hq hhi hy
            go_wp2_with fail
            go_quiet (fail)
            clear j3 j4
            go_wp2_with fail
            go_roundw
            case rel => exact HR.out _
            case measure => simp [intOf]; omega
          · have hex : i = 0 ∨ (0 < i ∧ ∃ y, out[i - 1]? = some y ∧ y.seen ≤ x.seen) := by
              by_cases e : i = 0
              · left; exact e
              · right
                refine ⟨by omega, out[i - 1]'(by omega), List.getElem?_eq_getElem (by omega), ?_⟩
                exact Classical.byContradiction fun hn => hgo ⟨_, by omega, List.getElem?_eq_getElem (by omega), by omega⟩
            obtain ⟨g1, g2, g3⟩ := Hins.out i hi hhi (by rcases hex with e | ⟨_, e⟩; exact Or.inl e; exact Or.inr e)
            obtain ⟨Fo, hro⟩ := ho.get 1 rfl
            obtain ⟨_, _, e, hcap, _, _⟩ := hro.shape
            cases e
            have HR : Hid (∀ u wz, In F w wz (RowA 59 8 u (out.take i ++ x :: out.drop i).length (flatF (out.take i ++ x :: out.drop i)) :: RowA 59 8 u6 rest.length (flatF rest) :: RFr bt most wait (.slice (some ⟨g, 0, none⟩) L.length cap) L) → RIdleRel bt most wait L (now - wait) (.slice (some ⟨g, 0, none⟩) L.length cap) w F u u6 (.int .i64 (j + 1)) wz) :=
              Lib.hid fun u wz hz => ⟨j + 1, _, _, by congr 1, by omega, g1, g2, g3, hz⟩
            have hpre : ∀ w : World, (Instr.slice 51 (.slice ao out.length co) none (some (.int .i64 i)) none).run Try.prog w = .ok (.slice ao i co) w := row_prefix Try.underlying51 infoFlow hro (by omega)
            have hsuf := run_suffix Try.underlying51 infoFlow ao out.length co i hi
            have k0 : (0 : Int) ≤ (i : Int) := by omega
            have k1 : (i : Int) ≤ (co : Int) := by omega
            have k2 : (i : Int) ≤ (out.length : Int) := by omega
            have Hsrc : Hid (∀ {w' : World} {F' : List Nat}, RowA 59 8 (.slice ao out.length co) out.length (flatF out) w' F' → Src w' ao i 8 (flatF (out.take i)) ∧ Src w' (sufA ao co i 8) (out.length - i) 8 (flatF (out.drop i))) :=
              Lib.hid (fun h => ⟨by rw [← flatF_take']; exact h.src hi, by rw [← flatF_drop]; exact h.src_from hi⟩)
            have HA : Hid (∀ m, In F w (wr.drewN m) (RIdleIn fb bt most wait L out rest x (.slice ao out.length co) u6 (.slice (some ⟨g, 0, none⟩) L.length cap))) := Lib.hid fun m => ho.drewN m
            have hsome : 0 < i → ∃ bo, ao = some ⟨bo, 0, none⟩ ∧ ∀ y, out[i - 1]? = some y → wr.cell? ⟨bo, (i - 1) * 8 + 7, none⟩ = some (.int .i64 y.seen) := fun h0 => by
              obtain ⟨bo, e, hq⟩ := flow_at_row ho 1 rfl (by omega)
              exact ⟨bo, e, fun y hy => (hq _ y hy).2.2.2.2.2.2.2⟩
            clear ho hro hhi hgo g1 g2 g3 Hins
            rcases hex with h0 | ⟨hi0, y, hy, hyx⟩
            case' inl =>
              have hd0 : decide (0 < i) = false := by simp; omega
              clear hsome h0
              go_wp2_with fail
              go_quiet (fail)
              go_wp2_with fail
            case' inr =>
              obtain ⟨bo, rfl, hq⟩ := hsome hi0
              have q1 := hq y hy
              have j0 : (0 : Int) < (i : Int) := by omega
              have j1 : (0 : Int) ≤ (i : Int) - 1 := by omega
              have j2 : (i : Int) - 1 < (out.length : Int) := by omega
              have j3 : ((i : Int) - 1).toNat = i - 1 := by omega
              have j4 : IntKind.i64.wrap ((i : Int) - 1) = (i : Int) - 1 := by rw [IntKind.wrap_i64]; omega
              have j5 : decide (x.seen < y.seen) = false := by simp; omega
              clear hq hy hsome
              go_wp2_with fail
              go_quiet (fail)
              clear j3 j4
              go_wp2_with fail
            all_goals
              have HZ := Lib.hid ((HA.out nq).rownil 59 8)
              clear HA f0 f1 f2 f3 f4 f5 f6 f7
              generalize wr.drewN nq = wv at *
              obtain ⟨f0, f1, f2, f3, f4, f5, f6, f7⟩ := o_fl0 HZ.out 1 rfl
              have hc0 : wv.cell? ⟨fb, 0, none⟩ = some (.int .u32 x.t.src) ∧ wv.cell? ⟨fb, 1, none⟩ = some (.int .u32 x.t.dst) ∧ wv.cell? ⟨fb, 2, none⟩ = some (.int .i64 x.t.proto) ∧ wv.cell? ⟨fb, 3, none⟩ = some (.int .i64 x.t.sport) ∧ wv.cell? ⟨fb, 4, none⟩ = some (.int .i64 x.t.dport) ∧ wv.cell? ⟨fb, 5, none⟩ = some (.int .i64 x.bk) ∧ wv.cell? ⟨fb, 6, none⟩ = some (.int .i64 x.gen) ∧ wv.cell? ⟨fb, 7, none⟩ = some (.int .i64 x.seen) := ⟨f0, f1, f2, f3, f4, f5, f6, f7⟩
              go_region_held3 (fun w' => w'.cell? ⟨fb, 0, none⟩ = some (.int .u32 x.t.src) ∧ w'.cell? ⟨fb, 1, none⟩ = some (.int .u32 x.t.dst) ∧ w'.cell? ⟨fb, 2, none⟩ = some (.int .i64 x.t.proto) ∧ w'.cell? ⟨fb, 3, none⟩ = some (.int .i64 x.t.sport) ∧ w'.cell? ⟨fb, 4, none⟩ = some (.int .i64 x.t.dport) ∧ w'.cell? ⟨fb, 5, none⟩ = some (.int .i64 x.bk) ∧ w'.cell? ⟨fb, 6, none⟩ = some (.int .i64 x.gen) ∧ w'.cell? ⟨fb, 7, none⟩ = some (.int .i64 x.seen)) (first | exact hc3 | exact hc2 | exact hc1 | go_keep)
                (first
                  | (refine app_step rfl (R := RowA 59 8 (.slice none 0 0) 0 [] :: RIdleIn fb bt most wait L out rest x _ _ _) (by exact HZ.out.drewN 1) 0 rfl (.const (.slice none 0 0)) (.tmp 55) 51 (by rfl) Try.underlying51 infoFlow (by decide) (by decide) (by rfl) (by rfl) (by obtain ⟨F', h'⟩ := (HZ.out.drewN 1).get 2 rfl; exact (Hsrc.out h').1) (flatF_one _) (by omega) ?_
                     intro v1 w3 ho1 hg1
                     have hc1 : w3.cell? ⟨fb, 0, none⟩ = some (.int .u32 x.t.src) ∧ w3.cell? ⟨fb, 1, none⟩ = some (.int .u32 x.t.dst) ∧ w3.cell? ⟨fb, 2, none⟩ = some (.int .i64 x.t.proto) ∧ w3.cell? ⟨fb, 3, none⟩ = some (.int .i64 x.t.sport) ∧ w3.cell? ⟨fb, 4, none⟩ = some (.int .i64 x.t.dport) ∧ w3.cell? ⟨fb, 5, none⟩ = some (.int .i64 x.bk) ∧ w3.cell? ⟨fb, 6, none⟩ = some (.int .i64 x.gen) ∧ w3.cell? ⟨fb, 7, none⟩ = some (.int .i64 x.seen) := o_fl0 ho1 1 rfl
                     have H1 := Lib.hid ho1
                     clear ho1 hg1)
                  | (refine app_step rfl (R := Cells _ (encF x) 59 :: RowA 59 8 (.slice none 0 0) 0 [] :: RIdleIn fb bt most wait L out rest x _ _ _) (by exact (HZ.out.drewN 1).cells _ _) 1 rfl (.const (.slice none 0 0)) (.tmp 55) 51 (by rfl) Try.underlying51 infoFlow (by decide) (by decide) (by rfl) (by rfl) (by obtain ⟨F', h'⟩ := ((HZ.out.drewN 1).cells (encF x) 59).get 3 rfl; exact (Hsrc.out h').1) (flatF_one _) (by omega) ?_
                     intro v1 w3 ho1 hg1
                     have hc1 : w3.cell? ⟨fb, 0, none⟩ = some (.int .u32 x.t.src) ∧ w3.cell? ⟨fb, 1, none⟩ = some (.int .u32 x.t.dst) ∧ w3.cell? ⟨fb, 2, none⟩ = some (.int .i64 x.t.proto) ∧ w3.cell? ⟨fb, 3, none⟩ = some (.int .i64 x.t.sport) ∧ w3.cell? ⟨fb, 4, none⟩ = some (.int .i64 x.t.dport) ∧ w3.cell? ⟨fb, 5, none⟩ = some (.int .i64 x.bk) ∧ w3.cell? ⟨fb, 6, none⟩ = some (.int .i64 x.gen) ∧ w3.cell? ⟨fb, 7, none⟩ = some (.int .i64 x.seen) := o_fl0 ho1 2 rfl
                     have H2 := Lib.hid ho1
                     clear ho1 hg1)
                  | (refine app_step rfl (by first | exact H2.out | exact H1.out.cells (encF x) 59) 1 rfl (.tmp 56) (.tmp 58) 51 (by rfl) Try.underlying51 infoFlow (by decide) (by decide) (by rfl) (by rfl) (by first | exact Src.of_block (H2.out.block 0 rfl) rfl | exact Src.of_block ((H1.out.cells (encF x) 59).block 0 rfl) rfl) (fun u hu => by simp [encF] at hu; rcases hu with rfl | rfl | rfl | rfl | rfl | rfl | rfl | rfl <;> rfl) (by omega) ?_
                     intro v2 w4 ho2 hg2
                     have hc2 : w4.cell? ⟨fb, 0, none⟩ = some (.int .u32 x.t.src) ∧ w4.cell? ⟨fb, 1, none⟩ = some (.int .u32 x.t.dst) ∧ w4.cell? ⟨fb, 2, none⟩ = some (.int .i64 x.t.proto) ∧ w4.cell? ⟨fb, 3, none⟩ = some (.int .i64 x.t.sport) ∧ w4.cell? ⟨fb, 4, none⟩ = some (.int .i64 x.t.dport) ∧ w4.cell? ⟨fb, 5, none⟩ = some (.int .i64 x.bk) ∧ w4.cell? ⟨fb, 6, none⟩ = some (.int .i64 x.gen) ∧ w4.cell? ⟨fb, 7, none⟩ = some (.int .i64 x.seen) := o_fl0 ho2 2 rfl
                     have H3 := Lib.hid ho2
                     clear ho2 hg2)
                  | (refine app_step rfl (by exact H3.out) 1 rfl (.tmp 59) (.tmp 62) 51 (by rfl) Try.underlying51 infoFlow (by decide) (by decide) (by rfl) (by rfl) (by obtain ⟨F', h'⟩ := H3.out.get 3 rfl; exact (Hsrc.out h').2) (flatF_one _) (by omega) ?_
                     intro v3 w5 ho3 hg3
                     have hc3 : w5.cell? ⟨fb, 0, none⟩ = some (.int .u32 x.t.src) ∧ w5.cell? ⟨fb, 1, none⟩ = some (.int .u32 x.t.dst) ∧ w5.cell? ⟨fb, 2, none⟩ = some (.int .i64 x.t.proto) ∧ w5.cell? ⟨fb, 3, none⟩ = some (.int .i64 x.t.sport) ∧ w5.cell? ⟨fb, 4, none⟩ = some (.int .i64 x.t.dport) ∧ w5.cell? ⟨fb, 5, none⟩ = some (.int .i64 x.bk) ∧ w5.cell? ⟨fb, 6, none⟩ = some (.int .i64 x.gen) ∧ w5.cell? ⟨fb, 7, none⟩ = some (.int .i64 x.seen) := o_fl0 ho3 2 rfl
                     have H4 := Lib.hid ho3
                     clear ho3 hg3))
              all_goals
                have HE : Hid (RIdleRel bt most wait L (now - wait) (.slice (some ⟨g, 0, none⟩) L.length cap) w F v3 u6 (.int .i64 (j + 1)) w5) := by
                  have h2 := H4.out
                  obtain ⟨e1, e2⟩ := flatF_app3 (out.take i) (out.drop i) x (j := i) (by rw [List.length_take]; omega)
                  rw [List.length_drop] at e2
                  rw [e1, e2] at h2
                  exact Lib.hid (HR.out _ _ (h2.sel [1, 4, 5, 6] (by decide) rfl))
                go_wp2_with fail
                go_roundw
                case rel => exact HE.out
                case measure => simp [intOf]; omega
    · have hjl : j = L.length := by omega
      subst hjl
      rw [List.take_length] at hpm hre
      obtain rfl := HD.out out hop hpm
      have hge : (L.length : Int) ≤ (L.length : Int) := by omega
      obtain ⟨Fo, hro⟩ := ho.get 1 rfl
      obtain ⟨a6, c6, rfl, -, -, -⟩ := hro.shape
      have c1 : wr.cell? ⟨bt, 0, none⟩ = some (.slice a L.length cap) := cell_of (ho.block 2 rfl) rfl
      have g1 : wr.frozen? ⟨bt, 0, none⟩ = false := free_of (ho.block 2 rfl)
      have h2 := (ho.put 2 rfl 0 (.slice a6 rest.length c6)).sel [2, 1, 0] (by decide) rfl
      have h3 := (In.join (A1 := RFr bt most wait (.slice a6 rest.length c6) rest) (R := [_]) h2).imp (A' := RFA bt most wait rest) 0 rfl (RFA.framed _ _ _ _) (fun F hF => ⟨_, hF⟩)
      have HG : Hid (Gives w F (fun v => Star [RFA bt most wait (L.filter (lateF (now - wait))), RowA 59 8 v out.length (flatF out)]) (.returned u5) (wr.setCell ⟨bt, 0, none⟩ (.slice a6 rest.length c6))) := by
        rw [← hre]
        exact Lib.hid (h3.gives u5 _ (fun F' hs => hs))
      clear ho hro h2 h3 hlt c0 hop hpm hre
      go_wp2_with fail
      go_ret
      exact HG.out
end Go.Proofs.Ytcakgponofbhkaa
