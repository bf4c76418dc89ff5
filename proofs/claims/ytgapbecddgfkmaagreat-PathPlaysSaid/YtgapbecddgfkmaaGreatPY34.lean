/- Rows.PathPlaysSaid -/
import Derived.Test.YtgapbecddgfkmaaGreatPY32
import Derived.Test.YtgapbecddgfkmaaGreatPY33
import Derived.Deep.RegionLaw
namespace Go.Proofs.YtgapbecddgfkmaaGreat
open Go.RowKit
set_option linter.unusedVariables false
set_option maxHeartbeats 64000000
set_option maxRecDepth 100000
attribute [-go_sem] run_eql_struct
def preF (L : List Fl) (f : Fl) : List Fl := L.takeWhile (fun x => ltT x.t f.t)
def sufF (L : List Fl) (f : Fl) : List Fl := match L.dropWhile (fun x => ltT x.t f.t) with
  | [] => []
  | y :: r => if y.t = f.t then r else y :: r
def pfF (L : List Fl) (f : Fl) : List Fl := preF L f ++ f :: sufF L f
theorem parts_lt {L : List Fl} {f : Fl} {j : Nat} (hj : j ≤ L.length) (hlo : ∀ y ∈ L.take j, ltT y.t f.t = true) (hhi : ∀ y, L[j]? = some y → ltT y.t f.t = false) : L.take j = preF L f ∧ L.drop j = L.dropWhile (fun x => ltT x.t f.t) := by
  have e : ∀ (A B : List Fl), (∀ y ∈ A, ltT y.t f.t = true) → (∀ y, B[0]? = some y → ltT y.t f.t = false) → (A ++ B).takeWhile (fun x => ltT x.t f.t) = A ∧ (A ++ B).dropWhile (fun x => ltT x.t f.t) = B := by
    intro A
    induction A with
    | nil =>
      intro B _ hB
      cases B with
      | nil => exact ⟨rfl, rfl⟩
      | cons y r =>
        have := hB y rfl
        simp [this]
    | cons a A ih =>
      intro B hA hB
      have h1 := hA a (by simp)
      obtain ⟨i1, i2⟩ := ih B (fun y hy => hA y (List.mem_cons_of_mem _ hy)) hB
      simp only [List.cons_append, List.takeWhile_cons, List.dropWhile_cons, h1, if_true, i1, i2]
      exact ⟨trivial, trivial⟩
  have := e (L.take j) (L.drop j) hlo (fun y hy => hhi y (by rw [List.getElem?_drop] at hy; simpa using hy))
  rw [List.take_append_drop] at this
  exact ⟨this.1.symm, this.2.symm⟩
theorem flatF_drop (L : List Fl) (m : Nat) : (flatF L).drop (m * 8) = flatF (L.drop m) := by
  induction L generalizing m with
  | nil => simp [flatF]
  | cons y r ih =>
    have e : flatF (y :: r) = (encF y).toList ++ flatF r := rfl
    cases m with
    | zero => simp [flatF]
    | succ m =>
      have l1 : (encF y).toList.length = 8 := rfl
      rw [e, List.drop_succ_cons, ← ih, List.drop_append, l1, show (m + 1) * 8 - 8 = m * 8 by omega, List.drop_eq_nil_of_le (by rw [l1]; omega), List.nil_append]
theorem flatF_take' (L : List Fl) (m : Nat) : (flatF L).take (m * 8) = flatF (L.take m) := by
  induction L generalizing m with
  | nil => simp [flatF]
  | cons y r ih =>
    have e : flatF (y :: r) = (encF y).toList ++ flatF r := rfl
    cases m with
    | zero => simp [flatF]
    | succ m =>
      have e2 : flatF ((y :: r).take (m + 1)) = (encF y).toList ++ flatF (r.take m) := rfl
      have l1 : (encF y).toList.length = 8 := rfl
      rw [e, e2, ← ih, List.take_append, l1, show (m + 1) * 8 - 8 = m * 8 by omega, List.take_of_length_le (by rw [l1]; omega)]
theorem flatF_one (L : List Fl) : ∀ u ∈ flatF L, u.oneCell' = true := by
  intro u hu
  obtain ⟨l, hl, hv⟩ := List.mem_flatten.1 hu
  obtain ⟨y, _, rfl⟩ := List.mem_map.1 hl
  simp at hv; rcases hv with rfl | rfl | rfl | rfl | rfl | rfl | rfl | rfl <;> rfl
theorem view_prefix {P : Program} {ST T : TypeId} {k by' : Nat} (hST : P.underlying ST = some (.slice T)) (hinf : (P.info? T).map (fun i => (i.zero.map (fun z => z.cells.size), i.size, i.bytes)) = some (some k, k, by')) {k' : Nat} {a : Option Addr} {n n' cap j : Nat} {xs : List Value} {w0 : World} {F : List Nat} (h : ViewA k' (.slice a n cap) n' xs w0 F) (hj : j ≤ cap) (w : World) :
    (Instr.slice ST (.slice a n cap) none (some (.int .i64 j)) none).run P w = .ok (.slice a j cap) w := by
  obtain ⟨_, a', cap', e, _, _, h3⟩ := h
  cases e
  rcases h3 with ⟨rfl, _, _⟩ | ⟨g, o, rfl, _⟩
  · exact run_prefix_none hST hinf _ _ _ hj w
  · exact run_prefix_at hST hinf _ _ _ _ _ hj w
theorem flatF_app3 (A B : List Fl) (x : Fl) {j : Nat} (hj : A.length = j) : [] ++ flatF A ++ (encF x).toList ++ flatF B = flatF (A ++ x :: B) ∧ 0 + j + 1 + B.length = (A ++ x :: B).length := by
  subst hj
  constructor
  · simp [flatF]
  · simp; omega
def PFRel (v : Value) (f : Fl) (L : List Fl) (fb : Nat) (F0 : List Nat) (w0 : World) (R : List Asrt) (k : Value) (wr : World) : Prop :=
  ∃ j : Nat, k = .int .i64 j ∧ j ≤ L.length ∧ (∀ y ∈ L.take j, ltT y.t f.t = true) ∧ In F0 w0 wr (Cells fb (encF f) 49 :: R)
def PFEnd (v : Value) (f : Fl) (L : List Fl) (fb : Nat) (F0 : List Nat) (w0 : World) (R : List Asrt) (k : Value) (wr : World) : Prop :=
  ∃ j : Nat, k = .int .i64 j ∧ j ≤ L.length ∧ L.take j = preF L f ∧ L.drop j = L.dropWhile (fun x => ltT x.t f.t) ∧ In F0 w0 wr (Cells fb (encF f) 49 :: R)
def PFPost (L : List Fl) (f : Fl) (F0 : List Nat) (w0 : World) (R : List Asrt) (e : Ending) (w' : World) : Prop :=
  ∃ v, e = .returned v ∧ In F0 w0 w' (RowA 49 8 v (pfF L f).length (flatF (pfF L f)) :: R)
theorem pf_call {F0 : List Nat} {w0 w : World} {R : List Asrt} {v : Value} {L : List Fl} (h : In F0 w0 w R) (hl : L.length ≤ 1000000) (hV : ∀ W, In F0 w0 W R → ∃ F, ViewA 8 v L.length (flatF L) W F) (f : Fl) :
    Calls Tryz.prog 91 #[v, .agg (encF f)] w (PFPost L f F0 w0 R) := by
  obtain ⟨F1, hv1⟩ := hV w h
  obtain ⟨a, cap, rfl, l1, l2⟩ := hv1.shape
  have HV := Lib.hid hV
  have HAT : Hid (∀ W, In F0 w0 W R → 0 < L.length → ∃ g o, a = some ⟨g, o, none⟩ ∧ ∀ (j : Nat) (x : Fl), L[j]? = some x → FlAt W g (o + j * 8) x) := Lib.hid fun W hW h0 => by
    obtain ⟨F, hF⟩ := hV W hW
    exact view_flow hF h0
  have HS : Hid (PFRel (.slice a L.length cap) f L w.heap.size F0 w0 R (.int .i64 0) (w.alloc (.cells (encF f) 49))) := Lib.hid ⟨0, rfl, Nat.zero_le _, by simp, h.cells (encF f) 49⟩
  unfold maxLen at l2
  have hm : Tryz.prog.eqGuardType Tryz.prog.depth 24 = false := by kernel_rfl
  clear h hV hv1
  go_enter Tryz.func91, Tryz.ntmps91
  go_upto_block 0 with fail
  generalize w.heap.size = fb at *
  go_cut [5] (fun k wx => PFEnd (.slice a L.length cap) f L fb F0 w0 R k wx)
  case first =>
    go_wp2_with fail
    go_loopw [5] (PFRel (.slice a L.length cap) f L fb F0 w0 R) (fun k _ => L.length - (intOf k).toNat)
    case atStart => exact HS.out
    case round =>
      obtain ⟨j, rfl, hj, hlo, ho⟩ := hrel
      clear HS
      by_cases hlt : j < L.length
      · obtain ⟨x, hx⟩ : ∃ x, L[j]? = some x := ⟨L[j], List.getElem?_eq_getElem hlt⟩
        obtain ⟨g, o, rfl, hc⟩ := HAT.out wr ho.drop (by omega)
        have HSC : Hid (∀ W', In F0 w0 W' (Cells fb (encF f) 49 :: R) → W'.cell? ⟨g, o + j * 8, none⟩ = some (.int .u32 x.t.src) ∧ W'.cell? ⟨g, o + j * 8 + 1, none⟩ = some (.int .u32 x.t.dst) ∧ W'.cell? ⟨g, o + j * 8 + 2, none⟩ = some (.int .i64 x.t.proto) ∧ W'.cell? ⟨g, o + j * 8 + 3, none⟩ = some (.int .i64 x.t.sport) ∧ W'.cell? ⟨g, o + j * 8 + 4, none⟩ = some (.int .i64 x.t.dport) ∧ W'.cell? ⟨fb, 0, none⟩ = some (.int .u32 f.t.src) ∧ W'.cell? ⟨fb, 1, none⟩ = some (.int .u32 f.t.dst) ∧ W'.cell? ⟨fb, 2, none⟩ = some (.int .i64 f.t.proto) ∧ W'.cell? ⟨fb, 3, none⟩ = some (.int .i64 f.t.sport) ∧ W'.cell? ⟨fb, 4, none⟩ = some (.int .i64 f.t.dport)) := Lib.hid fun W' h => by
          obtain ⟨g', o', e', hc'⟩ := HAT.out W' h.drop (by omega)
          cases e'
          obtain ⟨z0, z1, z2, z3, z4, -, -, -⟩ := hc' j x hx
          obtain ⟨u0, u1, u2, u3, u4, -, -, -⟩ := o_fl0 h 0 rfl
          exact ⟨z0, z1, z2, z3, z4, u0, u1, u2, u3, u4⟩
        have hc0 := HSC.out _ (ho.drewN 1)
        have hCL := Lib.hid (r4less x.t f.t)
        have i0 : (0 : Int) ≤ (j : Int) := by omega
        have i1 : (j : Int) < (L.length : Int) := by omega
        have HO := Lib.hid ho
        cases hless : ltT x.t f.t with
        | true =>
          have HR : Hid (∀ W', In F0 w0 W' (Cells fb (encF f) 49 :: R) → PFRel (.slice (some ⟨g, o, none⟩) L.length cap) f L fb F0 w0 R (.int .i64 (j + 1)) W') := Lib.hid fun W' h => ⟨j + 1, by congr 1, by omega, fun y hy => by
            rw [List.take_add_one, hx] at hy
            rcases List.mem_append.1 hy with hy | hy
            · exact hlo y hy
            · simp at hy; subst hy; exact hless, h⟩
          clear ho hc hx hlt hlo
          go_wp2_with fail
          go_region_held3 (fun w' => w'.cell? ⟨g, o + j * 8, none⟩ = some (.int .u32 x.t.src) ∧ w'.cell? ⟨g, o + j * 8 + 1, none⟩ = some (.int .u32 x.t.dst) ∧ w'.cell? ⟨g, o + j * 8 + 2, none⟩ = some (.int .i64 x.t.proto) ∧ w'.cell? ⟨g, o + j * 8 + 3, none⟩ = some (.int .i64 x.t.sport) ∧ w'.cell? ⟨g, o + j * 8 + 4, none⟩ = some (.int .i64 x.t.dport) ∧ w'.cell? ⟨fb, 0, none⟩ = some (.int .u32 f.t.src) ∧ w'.cell? ⟨fb, 1, none⟩ = some (.int .u32 f.t.dst) ∧ w'.cell? ⟨fb, 2, none⟩ = some (.int .i64 f.t.proto) ∧ w'.cell? ⟨fb, 3, none⟩ = some (.int .i64 f.t.sport) ∧ w'.cell? ⟨fb, 4, none⟩ = some (.int .i64 f.t.dport)) (first | exact hc1 | exact hc0 | go_keep)
            (first
              | (go_at_call 129
                 refine (hCL.out _).mono ?_
                 rintro e v0 ⟨rfl, o1, o2, rfl⟩
                 have HI := Lib.hid (((HO.out.drewN 1).alloc o1).alloc o2)
                 have hc1 := HSC.out _ HI.out))
          go_wp2_with fail
          go_roundw
          case rel => exact HR.out _ HI.out
          case measure => simp [intOf]; omega
        | false =>
          have HE : Hid (∀ W', In F0 w0 W' (Cells fb (encF f) 49 :: R) → PFEnd (.slice (some ⟨g, o, none⟩) L.length cap) f L fb F0 w0 R (.int .i64 j) W') := Lib.hid fun W' h => by
            obtain ⟨p1, p2⟩ := parts_lt hj hlo (fun y hy => by rw [hx] at hy; cases hy; exact hless)
            exact ⟨j, rfl, hj, p1, p2, h⟩
          clear ho hc hx hlt hlo
          go_wp2_with fail
          go_region_held3 (fun w' => w'.cell? ⟨g, o + j * 8, none⟩ = some (.int .u32 x.t.src) ∧ w'.cell? ⟨g, o + j * 8 + 1, none⟩ = some (.int .u32 x.t.dst) ∧ w'.cell? ⟨g, o + j * 8 + 2, none⟩ = some (.int .i64 x.t.proto) ∧ w'.cell? ⟨g, o + j * 8 + 3, none⟩ = some (.int .i64 x.t.sport) ∧ w'.cell? ⟨g, o + j * 8 + 4, none⟩ = some (.int .i64 x.t.dport) ∧ w'.cell? ⟨fb, 0, none⟩ = some (.int .u32 f.t.src) ∧ w'.cell? ⟨fb, 1, none⟩ = some (.int .u32 f.t.dst) ∧ w'.cell? ⟨fb, 2, none⟩ = some (.int .i64 f.t.proto) ∧ w'.cell? ⟨fb, 3, none⟩ = some (.int .i64 f.t.sport) ∧ w'.cell? ⟨fb, 4, none⟩ = some (.int .i64 f.t.dport)) (first | exact hc1 | exact hc0 | go_keep)
            (first
              | (go_at_call 129
                 refine (hCL.out _).mono ?_
                 rintro e v0 ⟨rfl, o1, o2, rfl⟩
                 have HI := Lib.hid (((HO.out.drewN 1).alloc o1).alloc o2)
                 have hc1 := HSC.out _ HI.out))
          go_wp2_with fail
          go_meet
          exact HE.out _ HI.out
      · have hge : decide (j < L.length) = false := by simp; omega
        have hge2 : (L.length : Int) ≤ (j : Int) := by omega
        have HE : Hid (∀ q, PFEnd (.slice a L.length cap) f L fb F0 w0 R (.int .i64 j) (wr.drewN q)) := Lib.hid fun q => by
          obtain ⟨p1, p2⟩ := parts_lt hj hlo (fun y hy => by have := (List.getElem?_eq_some_iff.1 hy).1; omega)
          exact ⟨j, rfl, hj, p1, p2, ho.drewN q⟩
        clear ho hlo hlt
        go_wp2_with fail
        go_quiet (fail)
        go_wp2_with fail
        go_meet
        exact HE.out _
  case rest =>
    obtain ⟨j, rfl, hj, hp1, hp2, ho⟩ := hcut
    clear HS
    obtain ⟨F2, hv2⟩ := HV.out wc ho.drop
    have hsuf := run_suffix Tryz.underlying75 infoFlow a L.length cap j hj
    have i0 : (0 : Int) ≤ (j : Int) := by omega
    have i1 : (j : Int) ≤ (L.length : Int) := by omega
    have i2 : (j : Int) ≤ (cap : Int) := by omega
    have hl3 : L.length ≤ cap := l1
    have hpre := fun W : World => view_prefix Tryz.underlying75 infoFlow hv2 (j := j) (by omega) W
    have HSRC1 : Hid (∀ W, In F0 w0 W R → Src W a j 8 (flatF (preF L f))) := Lib.hid fun W hW => by
      obtain ⟨F', hF'⟩ := HV.out W hW
      have := hF'.src (m := j) hj
      rw [flatF_take', hp1] at this; exact this
    have HSRC2 : Hid (∀ W, In F0 w0 W R → Src W (sufA a cap j 8) (L.length - j) 8 (flatF (L.drop j))) := Lib.hid fun W hW => by
      obtain ⟨F', hF'⟩ := HV.out W hW
      have := hF'.src_from (i := j) hj
      rw [flatF_drop] at this; exact this
    have hpl : (preF L f).length = j := by rw [← hp1, List.length_take]; omega
    have HPL := Lib.hid hpl
    have HO := Lib.hid ho
    have hsuf0 : sufF L f = match L.drop j with
      | [] => []
      | y :: r => if y.t = f.t then r else y :: r := by unfold sufF; rw [hp2]
    clear hv2 hpl
    by_cases hlt : j < L.length
    case' neg =>
      have hjl : j = L.length := by omega
      have HSUF : Hid (∀ W, In F0 w0 W R → Src W (sufA a cap j 8) (L.length - j) 8 (flatF (sufF L f))) := Lib.hid fun W hW => by
        have := HSRC2.out W hW
        rw [hsuf0]
        rw [List.drop_eq_nil_of_le (by omega)] at this ⊢
        exact this
      have HSL : Hid ((sufF L f).length = L.length - j) := Lib.hid (by rw [hsuf0, List.drop_eq_nil_of_le (by omega)]; simp; omega)
      have hd1 : decide (0 < L.length - j) = false := by simp; omega
      have hd2 : decide ((0 : Int) < ((L.length - j : Nat) : Int)) = false := by simp; omega
      clear hp1 hp2 hsuf0 HSRC2 hjl ho hlt
      go_wp2_with fail
      go_quiet (fail)
      have HI := Lib.hid (HO.out.drewN nq)
      generalize wc.drewN nq = wz at *
      go_wp2_with fail
      generalize sufA a cap j 8 = ra at *
      generalize hrn : L.length - j = rn at *
      have hrn2 : rn ≤ 1000000 := by omega
      clear hd1 hd2 hrn hsuf
    case' pos =>
      obtain ⟨y, hy⟩ : ∃ y, L[j]? = some y := ⟨L[j], List.getElem?_eq_getElem hlt⟩
      have hdr : L.drop j = y :: L.drop (j + 1) := by
        obtain ⟨h, rfl⟩ := List.getElem?_eq_some_iff.1 hy
        exact List.drop_eq_getElem_cons h
      obtain ⟨g, o, rfl, hc⟩ := HAT.out wc ho.drop (by omega)
      obtain ⟨y0, y1, y2, y3, y4, -, -, -⟩ := hc j y hy
      obtain ⟨f0, f1, f2, f3, f4, f5, f6, f7⟩ := o_fl0 ho 0 rfl
      have hsa : sufA (some ⟨g, o, none⟩) cap j 8 = some ⟨g, o + j * 8, none⟩ := by
        unfold sufA
        rw [if_neg (by omega)]
        simp [add_at]
      have HSRC3 : Hid (∀ W, In F0 w0 W R → Src W (sufA (some ⟨g, o + j * 8, none⟩) (cap - j) 1 8) (L.length - j - 1) 8 (flatF (L.drop (j + 1)))) := Lib.hid fun W hW => by
        obtain ⟨F', hF'⟩ := HV.out W hW
        have h1 := (hF'.cut (i := j) hj).src_from (i := 1) (by omega)
        rw [hsa, flatF_drop, flatF_drop, List.drop_drop] at h1
        exact h1
      rw [hsa] at hsuf HSRC2
      have hsuf1 : ∀ W, (Instr.slice 75 (.slice (some ⟨g, o + j * 8, none⟩) (L.length - j) (cap - j)) (some (.int .i64 1)) none none).run Tryz.prog W = .ok (.slice (sufA (some ⟨g, o + j * 8, none⟩) (cap - j) 1 8) (L.length - j - 1) (cap - j - 1)) W := fun W =>
        run_suffix Tryz.underlying75 infoFlow (some ⟨g, o + j * 8, none⟩) (L.length - j) (cap - j) 1 (by omega) W
      have HTE := Lib.hid (tup_eq y.t f.t)
      have hd1 : decide (0 < L.length - j) = true := by simp; omega
      have hlj : (0 : Int) < ((L.length - j : Nat) : Int) := by omega
      rw [hdr] at hsuf0
      simp only at hsuf0
      by_cases he : y.t = f.t
      case' pos =>
        have HSUF : Hid (∀ W, In F0 w0 W R → Src W (sufA (some ⟨g, o + j * 8, none⟩) (cap - j) 1 8) (L.length - j - 1) 8 (flatF (sufF L f))) := Lib.hid fun W hW => by
          rw [hsuf0, if_pos he]; exact HSRC3.out W hW
        have HSL : Hid ((sufF L f).length = L.length - j - 1) := Lib.hid (by rw [hsuf0, if_pos he, List.length_drop]; omega)
        have hq : ∀ w, (binOp .eql 24 (.agg (encT y.t)) (.agg (encT f.t))).run Tryz.prog w = .ok (.bool true) w := fun w => by rw [HTE.out]; simp [he]
        have hrn2 : L.length - j - 1 ≤ 1000000 := by omega
        clear hp1 hp2 hsuf0 HSRC2 HSRC3 ho hlt he HTE hdr hy hc hsa
        go_wp2_with fail
        go_quiet (fail)
        have HI := Lib.hid (HO.out.drewN nq)
        clear y0 y1 y2 y3 y4 f0 f1 f2 f3 f4 f5 f6 f7
        generalize wc.drewN nq = wz at *
        go_wp2_with fail
        generalize sufA (some ⟨g, o + j * 8, none⟩) (cap - j) 1 8 = ra at *
        generalize L.length - j - 1 = rn at *
        generalize cap - j - 1 = rc at *
      case' neg =>
        have HSUF : Hid (∀ W, In F0 w0 W R → Src W (some ⟨g, o + j * 8, none⟩) (L.length - j) 8 (flatF (sufF L f))) := Lib.hid fun W hW => by
          rw [hsuf0, if_neg he, ← hdr]; exact HSRC2.out W hW
        have HSL : Hid ((sufF L f).length = L.length - j) := Lib.hid (by rw [hsuf0, if_neg he, ← hdr, List.length_drop])
        have hq : ∀ w, (binOp .eql 24 (.agg (encT y.t)) (.agg (encT f.t))).run Tryz.prog w = .ok (.bool false) w := fun w => by rw [HTE.out]; simp [he]
        have hrn2 : L.length - j ≤ 1000000 := by omega
        clear hp1 hp2 hsuf0 HSRC2 HSRC3 ho hlt he HTE hdr hy hc hsa
        go_wp2_with fail
        go_quiet (fail)
        have HI := Lib.hid (HO.out.drewN nq)
        clear y0 y1 y2 y3 y4 f0 f1 f2 f3 f4 f5 f6 f7
        generalize wc.drewN nq = wz at *
        go_wp2_with fail
        clear hsuf1
        generalize (some (⟨g, o + j * 8, none⟩ : Addr)) = ra at *
        generalize L.length - j = rn at *
        generalize cap - j = rc at *
    all_goals
      have HZ := Lib.hid (HI.out.rownil 49 8)
      have hc0 : wz.cell? ⟨fb, 0, none⟩ = some (.int .u32 f.t.src) ∧ wz.cell? ⟨fb, 1, none⟩ = some (.int .u32 f.t.dst) ∧ wz.cell? ⟨fb, 2, none⟩ = some (.int .i64 f.t.proto) ∧ wz.cell? ⟨fb, 3, none⟩ = some (.int .i64 f.t.sport) ∧ wz.cell? ⟨fb, 4, none⟩ = some (.int .i64 f.t.dport) ∧ wz.cell? ⟨fb, 5, none⟩ = some (.int .i64 f.bk) ∧ wz.cell? ⟨fb, 6, none⟩ = some (.int .i64 f.gen) ∧ wz.cell? ⟨fb, 7, none⟩ = some (.int .i64 f.seen) := o_fl0 HI.out 0 rfl
      have hj2 : j ≤ 1000000 := by omega
      clear HO HI
      go_region_held3 (fun w' => w'.cell? ⟨fb, 0, none⟩ = some (.int .u32 f.t.src) ∧ w'.cell? ⟨fb, 1, none⟩ = some (.int .u32 f.t.dst) ∧ w'.cell? ⟨fb, 2, none⟩ = some (.int .i64 f.t.proto) ∧ w'.cell? ⟨fb, 3, none⟩ = some (.int .i64 f.t.sport) ∧ w'.cell? ⟨fb, 4, none⟩ = some (.int .i64 f.t.dport) ∧ w'.cell? ⟨fb, 5, none⟩ = some (.int .i64 f.bk) ∧ w'.cell? ⟨fb, 6, none⟩ = some (.int .i64 f.gen) ∧ w'.cell? ⟨fb, 7, none⟩ = some (.int .i64 f.seen)) (first | exact hc3 | exact hc2 | exact hc1 | exact hc0 | go_keep)
        (first
          | (refine app_step rfl (R := RowA 49 8 (.slice none 0 0) 0 [] :: Cells fb (encF f) 49 :: R) (by exact HZ.out.drewN 1) 0 rfl (.const (.slice none 0 0)) (.tmp 42) 75 (by rfl) Tryz.underlying75 infoFlow (by decide) (by decide) (by rfl) (by rfl) (HSRC1.out _ ((HZ.out.drewN 1).drop.drop)) (flatF_one _) (by omega) ?_
             intro v1 w3 ho1 hg1
             have hc1 : w3.cell? ⟨fb, 0, none⟩ = some (.int .u32 f.t.src) ∧ w3.cell? ⟨fb, 1, none⟩ = some (.int .u32 f.t.dst) ∧ w3.cell? ⟨fb, 2, none⟩ = some (.int .i64 f.t.proto) ∧ w3.cell? ⟨fb, 3, none⟩ = some (.int .i64 f.t.sport) ∧ w3.cell? ⟨fb, 4, none⟩ = some (.int .i64 f.t.dport) ∧ w3.cell? ⟨fb, 5, none⟩ = some (.int .i64 f.bk) ∧ w3.cell? ⟨fb, 6, none⟩ = some (.int .i64 f.gen) ∧ w3.cell? ⟨fb, 7, none⟩ = some (.int .i64 f.seen) := o_fl0 ho1 1 rfl
             have H1 := Lib.hid ho1
             clear ho1 hg1)
          | (refine app_step rfl (R := Cells _ (encF f) 49 :: RowA 49 8 (.slice none 0 0) 0 [] :: Cells fb (encF f) 49 :: R) (by exact (HZ.out.drewN 1).cells _ _) 1 rfl (.const (.slice none 0 0)) (.tmp 42) 75 (by rfl) Tryz.underlying75 infoFlow (by decide) (by decide) (by rfl) (by rfl) (HSRC1.out _ (((HZ.out.drewN 1).cells (encF f) 49).drop.drop.drop)) (flatF_one _) (by omega) ?_
             intro v1 w3 ho1 hg1
             have hc1 : w3.cell? ⟨fb, 0, none⟩ = some (.int .u32 f.t.src) ∧ w3.cell? ⟨fb, 1, none⟩ = some (.int .u32 f.t.dst) ∧ w3.cell? ⟨fb, 2, none⟩ = some (.int .i64 f.t.proto) ∧ w3.cell? ⟨fb, 3, none⟩ = some (.int .i64 f.t.sport) ∧ w3.cell? ⟨fb, 4, none⟩ = some (.int .i64 f.t.dport) ∧ w3.cell? ⟨fb, 5, none⟩ = some (.int .i64 f.bk) ∧ w3.cell? ⟨fb, 6, none⟩ = some (.int .i64 f.gen) ∧ w3.cell? ⟨fb, 7, none⟩ = some (.int .i64 f.seen) := o_fl0 ho1 2 rfl
             have H2 := Lib.hid ho1
             clear ho1 hg1)
          | (refine app_step rfl (by first | exact H2.out | exact H1.out.cells _ _) 1 rfl (.tmp 43) (.tmp 45) 75 (by rfl) Tryz.underlying75 infoFlow (by decide) (by decide) (by rfl) (by rfl) (by first | exact Src.of_block (H2.out.block 0 rfl) rfl | exact Src.of_block ((H1.out.cells (encF f) 49).block 0 rfl) rfl) (fun u hu => by simp at hu; rcases hu with rfl | rfl | rfl | rfl | rfl | rfl | rfl | rfl <;> rfl) (by omega) ?_
             intro v2 w4 ho2 hg2
             have hc2 : w4.cell? ⟨fb, 0, none⟩ = some (.int .u32 f.t.src) ∧ w4.cell? ⟨fb, 1, none⟩ = some (.int .u32 f.t.dst) ∧ w4.cell? ⟨fb, 2, none⟩ = some (.int .i64 f.t.proto) ∧ w4.cell? ⟨fb, 3, none⟩ = some (.int .i64 f.t.sport) ∧ w4.cell? ⟨fb, 4, none⟩ = some (.int .i64 f.t.dport) ∧ w4.cell? ⟨fb, 5, none⟩ = some (.int .i64 f.bk) ∧ w4.cell? ⟨fb, 6, none⟩ = some (.int .i64 f.gen) ∧ w4.cell? ⟨fb, 7, none⟩ = some (.int .i64 f.seen) := o_fl0 ho2 2 rfl
             have H3 := Lib.hid ho2
             clear ho2 hg2)
          | (refine app_step rfl (by exact H3.out) 1 rfl (.tmp 46) (.tmp 47) 75 (by rfl) Tryz.underlying75 infoFlow (by decide) (by decide) (by rfl) (by rfl) (HSUF.out _ (H3.out.drop.drop.drop)) (flatF_one _) (by omega) ?_
             intro v3 w5 ho3 hg3
             have hc3 : w5.cell? ⟨fb, 0, none⟩ = some (.int .u32 f.t.src) ∧ w5.cell? ⟨fb, 1, none⟩ = some (.int .u32 f.t.dst) ∧ w5.cell? ⟨fb, 2, none⟩ = some (.int .i64 f.t.proto) ∧ w5.cell? ⟨fb, 3, none⟩ = some (.int .i64 f.t.sport) ∧ w5.cell? ⟨fb, 4, none⟩ = some (.int .i64 f.t.dport) ∧ w5.cell? ⟨fb, 5, none⟩ = some (.int .i64 f.bk) ∧ w5.cell? ⟨fb, 6, none⟩ = some (.int .i64 f.gen) ∧ w5.cell? ⟨fb, 7, none⟩ = some (.int .i64 f.seen) := o_fl0 ho3 2 rfl
             have H4 := Lib.hid ho3
             clear ho3 hg3))
      all_goals
        have HE : Hid (PFPost L f F0 w0 R (.returned v3) w5) := by
          have h2 := H4.out.drop
          obtain ⟨e1, e2⟩ := flatF_app3 (preF L f) (sufF L f) f HPL.out
          rw [HSL.out] at e2
          rw [e1, e2] at h2
          have h3 := (h2.perm (List.Perm.swap _ _ _)).drop
          exact Lib.hid ⟨v3, rfl, h3⟩
        go_wp2_with fail
        go_ret
        exact HE.out
end Go.Proofs.YtgapbecddgfkmaaGreat
