/- Rows.PathPlaysSaid -/
import Derived.Test.YtgapbecddgfkmaaGreatPY27
import Derived.Test.YtgapbecddgfkmaaGreatPY26
import Derived.Test.YtgapbecddgfkmaaGreatPY12
import Derived.Test.YtgapbecddgfkmaaGreatPY3
import Derived.Test.YtgapbecddgfkmaaGreatPY13
import Derived.Test.YtgapbecddgfkmaaGreatPY8
import Derived.Test.YtgapbecddgfkmaaGreatPY7
namespace Go.Proofs.YtgapbecddgfkmaaGreat
open Go.RowKit
open Go.RowKit Go.WideShapes
set_option linter.unusedVariables false
set_option maxHeartbeats 64000000
set_option maxRecDepth 100000
section
variable {F0 : List Nat} {w0 w : World} {R : List Asrt}
def OutRel (l : List Int) (n : Int) (F0 : List Nat) (w0 : World) (R : List Asrt) (vj : Value) (wr : World) : Prop := ∃ j : Nat, vj = .int .i64 j ∧ j ≤ l.length ∧ (∀ x ∈ l.take j, x ≠ n) ∧ In F0 w0 wr R
theorem o_gone1 {l : List Int} {A : Option Addr} {c g : Nat} (hs : ∀ W, In F0 w0 W R → Src W A l.length 1 (intV l)) (hl : l.length ≤ 1000000000) (i : Nat) (hA : R[i]? = some (Cells g #[.slice A l.length c] 63)) (n : Int) (h : In F0 w0 w R) :
    Calls Tryz.prog 48 #[.int .i64 n, .pointer (some ⟨g, 0, none⟩)] w fun e w' => e = .returned (.bool (l.contains n)) ∧ In F0 w0 w' R := by
  have c0 : w.cell? ⟨g, 0, none⟩ = some (.slice A l.length c) := cell_of (h.block i hA) rfl
  have HS := Lib.hid hs
  have HR : Hid (OutRel l n F0 w0 R (.int .i64 0) w) := Lib.hid ⟨0, rfl, Nat.zero_le _, by simp, h⟩
  have hln : l.length ≤ 1000000000 := hl
  clear hs hA h hl
  go_enter Tryz.func48, Tryz.ntmps48
  go_wp2_with fail
  go_loopw [8] (OutRel l n F0 w0 R) (fun k _ => l.length - (intOf k).toNat)
  case atStart => exact HR.out
  case round =>
    obtain ⟨j, rfl, hj, hno, ho⟩ := hrel
    clear HR c0
    by_cases hlt : j < l.length
    · obtain ⟨x, hx⟩ : ∃ x, l[j]? = some x := ⟨l[j], List.getElem?_eq_getElem hlt⟩
      obtain ⟨gg, o, rfl, hc⟩ := (HS.out wr ho).plain (by omega) (by decide)
      have cj := hc j (.int .i64 x) (by unfold intV; rw [List.getElem?_map, hx]; rfl)
      have hlt' : (j : Int) < (l.length : Int) := by omega
      have hw2 : wrap64 ((j : Int) + 1) = (j : Int) + 1 := by unfold wrap64; omega
      by_cases hxn : x = n
      · have hq : (x == n) = true := by rw [hxn]; simp
        have G : Hid (l.contains n = true ∧ In F0 w0 wr R) := Lib.hid ⟨by rw [List.contains_iff_mem, ← hxn]; exact List.mem_of_getElem? hx, ho⟩
        clear ho hx hc hno hlt hxn
        go_wp2_with fail
        go_ret
        exact ⟨by rw [G.out.1]; rfl, G.out.2⟩
      · have hq : (x == n) = false := beq_eq_false_iff_ne.2 hxn
        have HN : Hid (OutRel l n F0 w0 R (.int .i64 ((j : Int) + 1)) wr) := Lib.hid ⟨j + 1, by rw [Int.natCast_add]; rfl, hlt, fun y hy => by
          rw [List.take_add_one, hx] at hy
          rcases List.mem_append.1 hy with hy | hy
          · exact hno y hy
          · simp at hy; subst hy; exact hxn, ho⟩
        clear ho hx hc hno hlt hxn
        go_wp2_with fail
        go_roundw
        case rel => (try rw [hw2]); exact HN.out
        case measure => (try rw [hw2]); exact meas_lt hlt'
    · have hge : (l.length : Int) ≤ (j : Int) := by omega
      have G : Hid (l.contains n = false ∧ In F0 w0 wr R) := Lib.hid ⟨by
        rw [List.take_of_length_le (by omega)] at hno
        cases e : l.contains n with
        | false => rfl
        | true => exact absurd rfl (hno n (List.contains_iff_mem.1 e)), ho⟩
      clear ho hno hlt hj
      go_wp2_with fail
      go_ret
      exact ⟨by rw [G.out.1]; rfl, G.out.2⟩
theorem outF_of {l : List Int} {A : Option Addr} {c g : Nat} (hs : ∀ W, In F0 w0 W R → Src W A l.length 1 (intV l)) (hl : l.length ≤ 1000000000) : OutF (.func (.func 48) #[] #[.pointer (some ⟨g, 0, none⟩)]) (fun n => l.contains n) F0 w0 (Cells g #[.slice A l.length c] 63 :: R) :=
  ⟨48, _, rfl, enters_of Tryz.func48 (by kernel_rfl) rfl, fun W n X hW => o_gone1 (fun W' hW' => by
    have e : X ++ Cells g #[.slice A l.length c] 63 :: R = (X ++ [Cells g #[.slice A l.length c] 63]) ++ R := by simp
    rw [e] at hW'
    exact hs W' (In.right' hW')) hl X.length (by simp; rfl) n hW⟩
theorem o_gone (A : Option Addr) (n c : Nat) (h : In F0 w0 w R) :
    Calls Tryz.prog 20 #[.slice A n c] w fun e w' => ∃ g, e = .returned (.func (.func 48) #[] #[.pointer (some ⟨g, 0, none⟩)]) ∧ In F0 w0 w' (Cells g #[.slice A n c] 63 :: R) := by
  have h1 := h.cells #[.slice A n c] 63
  have hmf : ∀ (fn : Fn) (first cap : Array Value) (w : World), (Instr.makeFunc fn first cap).run Tryz.prog w = .ok (.func fn first cap) w := fun _ _ _ _ => rfl
  have G := Lib.hid h1
  clear h h1
  go_enter Tryz.func20, Tryz.ntmps20
  go_wp2_with fail
  go_ret
  exact ⟨_, rfl, G.out⟩
theorem madeD_le (k : Tup) (ttl flags : Int) (body : List UInt8) : (madeD k ttl flags body).length ≤ body.length + 100 := by
  unfold madeD
  rw [List.length_append, buildD_length, innerL_length]
  split <;> omega
def bytesD (c : Call23) : List UInt8 := if c.act = 1 then c.body else madeD c.k c.ttl c.flags c.body
theorem o_l23bytes {c : Call23} {ab al ao : Option Addr} {cb cl co : Nat} (wk : WfT c.k) (hb : ∀ R', Bytes F0 w0 R' ab cb c.body) (hm : c.body.length ≤ 100000) (h : In F0 w0 w R) :
    Calls Tryz.prog 22 #[.agg (c23V c ab cb al cl ao co).toArray] w fun e w' => ∃ A k N, e = .returned (.slice A (bytesD c).length k) ∧ In F0 w0 w' (N :: R) ∧ ∀ R', Bytes F0 w0 (N :: R') A k (bytesD c) := by
  obtain ⟨act, ttl, flags, k, body, now, l, out⟩ := c
  obtain ⟨k0, k1, k2, k3, k4⟩ := k
  simp only at wk hb hm
  have h1 := h.cells #[.int .i64 act, .int .i64 ttl, .int .i64 flags, .int .u32 k0, .int .u32 k1, .int .i64 k2, .int .i64 k3, .int .i64 k4, .slice ab body.length cb, .int .i64 now, .slice al l.length cl, .slice ao out.length co] 65
  have KM := Lib.hid (o_made h1 wk ttl flags (hb _) hm)
  have HB := Lib.hid hb
  have HN := Lib.hid (h1.drop.rownil 5 1)
  have hcv : (c23V ⟨act, ttl, flags, ⟨k0, k1, k2, k3, k4⟩, body, now, l, out⟩ ab cb al cl ao co).toArray = #[.int .i64 act, .int .i64 ttl, .int .i64 flags, .int .u32 k0, .int .u32 k1, .int .i64 k2, .int .i64 k3, .int .i64 k4, .slice ab body.length cb, .int .i64 now, .slice al l.length cl, .slice ao out.length co] := rfl
  rw [hcv]
  clear hcv
  by_cases ha : act = 1
  · have ha' : (act == 1) = true := by rw [ha]; rfl
    have HE : Hid (bytesD ⟨act, ttl, flags, ⟨k0, k1, k2, k3, k4⟩, body, now, l, out⟩ = body) := Lib.hid (if_pos ha)
    clear KM h h1 hb ha wk hm
    go_enter Tryz.func22, Tryz.ntmps22
    go_wp2_with fail
    go_ret
    rw [HE.out]
    exact ⟨ab, cb, _, rfl, HN.out, fun R' => HB.out _⟩
  · have ha' : (act == 1) = false := beq_eq_false_iff_ne.2 ha
    have HE : Hid (bytesD ⟨act, ttl, flags, ⟨k0, k1, k2, k3, k4⟩, body, now, l, out⟩ = madeD ⟨k0, k1, k2, k3, k4⟩ ttl flags body) := Lib.hid (if_neg ha)
    clear h h1 hb ha wk hm HN HB
    go_enter Tryz.func22, Tryz.ntmps22
    go_wp2_with fail
    refine KM.out.mono ?_
    rintro e w1 ⟨v, rfl, ho⟩
    obtain ⟨A, n, rfl⟩ := ByR.shape ho
    have G := Lib.hid (ho.sel2 (R1 := [_, _]) (R2 := R) [0] (by decide) rfl)
    clear ho KM
    go_wp2_with fail
    go_ret
    rw [HE.out]
    exact ⟨A, n, _, rfl, G.out, fun R' => by
      have hb0 := ByR.bytes 0 rfl G.out
      exact ⟨fun W hW => ByR.src hW 0 rfl, hb0.nil, hb0.ad, hb0.cap, hb0.room⟩⟩
theorem bytesD_le (c : Call23) : (bytesD c).length ≤ c.body.length + 100 := by
  unfold bytesD
  split
  · omega
  · exact madeD_le _ _ _ _
theorem ArgBy.bytes {w0 : World} {a : Option Addr} {c : Nat} {bs : List UInt8} (h : ArgBy w0 (.slice a bs.length c) bs) (R : List Asrt) : Bytes [] w0 R a c bs := by
  obtain ⟨a', c', e, h1, h2, h3, h4, h5⟩ := h.ex
  rw [Value.slice.injEq] at e
  obtain ⟨rfl, -, rfl⟩ := e
  exact ⟨fun W hW => h1.old hW, fun e => ⟨h4 e, List.length_eq_zero_iff.1 (by have := h4 e; omega)⟩, h5, h2, h3⟩
end
theorem has_snoc (l : List Int) (x b : Int) : (l ++ [x]).contains b = (l.contains b || (x == b)) := by
  rw [Bool.eq_iff_iff]
  simp only [List.contains_iff_mem, Bool.or_eq_true, List.mem_append, List.mem_singleton, beq_iff_eq]
  exact or_congr Iff.rfl eq_comm
section
variable {F0 : List Nat} {w0 w : World} {R : List Asrt}
def outQ (out : List Int) : Int → Bool := fun n => out.contains n
theorem withoutL_snoc (q : Int → Bool) (l : List Bk) (b : Bk) : withoutL q (l ++ [b]) = withoutL q l ++ (if q b.id then [] else [b]) := by
  unfold withoutL
  rw [List.filter_append]
  cases hq : q b.id <;> simp [List.filter, hq]
def WoRel (l : List Bk) (out : List Int) (F0 : List Nat) (w0 : World) (R : List Asrt) (v5 v13 : Value) (wr : World) : Prop :=
  ∃ k : Nat, v13 = .int .i64 k ∧ k ≤ l.length ∧ In F0 w0 wr (BkR v5 (withoutL (outQ out) (l.take k)) :: R)
def WoRel2 (b : Bk) (out : List Int) (F0 : List Nat) (w0 : World) (R : List Asrt) (v8 v19 : Value) (wr : World) : Prop :=
  ∃ i : Nat, v19 = .int .i64 i ∧ i ≤ out.length ∧ v8 = .bool ((out.take i).contains b.id) ∧ In F0 w0 wr R
theorem withoutL_le (q : Int → Bool) (l : List Bk) : (withoutL q l).length ≤ l.length := List.length_filter_le _ _
theorem o_r10wo {l : List Bk} {A : Option Addr} {c : Nat} {out : List Int} {ao : Option Addr} {no : Nat} (hs : BksAt F0 w0 R A l) (hl : l.length ≤ 1000000) (hsrc : ∀ (R' : List Asrt) W, In F0 w0 W R' → Src W ao out.length 1 (intV out)) (hol : out.length ≤ 1000000) (h : In F0 w0 w R) :
    Calls Tryz.prog 50 #[.slice A l.length c, .slice ao out.length no] w fun e w' => ∃ v, e = .returned v ∧ In F0 w0 w' (BkR v (withoutL (outQ out) l) :: R) := by
  have H1 : Hid (WoRel l out F0 w0 R (.slice none 0 0) (.int .i64 0) w) := Lib.hid ⟨0, rfl, Nat.zero_le _, h.rownil 33 3⟩
  have HS := Lib.hid hs
  have HSR := Lib.hid hsrc
  have HL := Lib.hid (And.intro hl hol)
  clear h hs hl hsrc hol
  go_enter Tryz.func50, Tryz.ntmps50
  go_wp2_with fail
  go_loopw [5, 13] (WoRel l out F0 w0 R) (fun _ v _ => l.length - (intOf v).toNat)
  case atStart => exact H1.out
  case round =>
    clear H1
    obtain ⟨k, rfl, hk, ho⟩ := hrel
    by_cases hlt : k < l.length
    · obtain ⟨b, hb⟩ : ∃ b, l[k]? = some b := ⟨l[k], List.getElem?_eq_getElem hlt⟩
      obtain ⟨gb, ob, rfl, c0, c1, c2⟩ := HS.out.cell ho.drop hb
      have hlt' : (k : Int) < (l.length : Int) := by omega
      have hw2 : wrap64 ((k : Int) + 1) = (k : Int) + 1 := by have := HL.out.1; unfold wrap64; omega
      have ho2 := ho.cells (encBa b) 33
      have hlen : (withoutL (outQ out) (l.take k)).length ≤ k := by
        have := withoutL_le (outQ out) (l.take k)
        rw [List.length_take] at this; omega
      have HW : Hid (withoutL (outQ out) (l.take (k + 1)) = withoutL (outQ out) (l.take k) ++ (if out.contains b.id then [] else [b])) := Lib.hid (by
        rw [List.take_add_one, hb]
        show withoutL (outQ out) (l.take k ++ [b]) = _
        rw [withoutL_snoc]; rfl)
      have HLN := Lib.hid (And.intro hlen (And.intro hlt hk))
      have H2 : Hid (WoRel2 b out F0 w0 (Cells wr.heap.size (encBa b) 33 :: BkR u5 (withoutL (outQ out) (l.take k)) :: R) (.bool false) (.int .i64 0) (wr.alloc (.cells (encBa b) 33))) := Lib.hid ⟨0, rfl, Nat.zero_le _, rfl, ho2⟩
      generalize withoutL (outQ out) (l.take k) = wl at *
      obtain ⟨b0, b1, b2⟩ := b
      simp only at c0 c1 c2 HW
      clear ho ho2 hb hk hlen hlt
      go_wp2_with fail
      generalize wr.heap.size = g at *
      go_loopw [8, 19] (WoRel2 ⟨b0, b1, b2⟩ out F0 w0 (Cells g (encBa ⟨b0, b1, b2⟩) 33 :: BkR u5 wl :: R)) (fun _ v _ => out.length - (intOf v).toNat)
      case atStart => exact H2.out
      case round =>
        clear H2 c0 c1 c2
        obtain ⟨i, rfl, hi, rfl, ho⟩ := hrel
        have d0 := cell_of (o := 0) (v := .int .i64 b0) (ho.block 0 rfl) rfl
        have d1 := cell_of (o := 1) (v := .int .u32 b1) (ho.block 0 rfl) rfl
        have d2 := cell_of (o := 2) (v := .int .i64 b2) (ho.block 0 rfl) rfl
        by_cases hlt2 : i < out.length
        · obtain ⟨x, hx⟩ : ∃ x, out[i]? = some x := ⟨out[i], List.getElem?_eq_getElem hlt2⟩
          obtain ⟨gg, oo, rfl, hcell⟩ := (HSR.out _ _ ho).plain (by omega) (by decide)
          have cx := hcell i (.int .i64 x) (by simp [intV, hx])
          have hix : (i : Int) < (out.length : Int) := by omega
          have hw3 : wrap64 ((i : Int) + 1) = (i : Int) + 1 := by have := HL.out.2; unfold wrap64; omega
          have HR : Hid (WoRel2 ⟨b0, b1, b2⟩ out F0 w0 (Cells g (encBa ⟨b0, b1, b2⟩) 33 :: BkR u5 wl :: R) (.bool ((out.take i).contains b0 || (x == b0))) (.int .i64 ((i : Int) + 1)) wr) := Lib.hid ⟨i + 1, by rw [Int.natCast_add]; rfl, hlt2, by
            rw [List.take_add_one, hx]
            show _ = Value.bool ((out.take i ++ [x]).contains b0)
            rw [has_snoc], ho⟩
          clear ho hcell hx hi hlt2
          cases hin : (out.take i).contains b0 with
          | true =>
            rw [hin, Bool.true_or] at HR
            clear hin
            go_wp2_with fail
            go_roundw
            case rel => (try rw [hw3]); exact HR.out
            case measure => (try rw [hw3]); exact meas_lt hix
          | false =>
            rw [hin, Bool.false_or] at HR
            clear hin
            go_wp2_with fail
            go_roundw
            case rel => (try rw [hw3]); exact HR.out
            case measure => (try rw [hw3]); exact meas_lt hix
        · have hge2 : (out.length : Int) ≤ (i : Int) := by omega
          have hdk : decide ((i : Int) < (out.length : Int)) = false := decide_eq_false (by omega)
          have hdkn : decide (i < out.length) = false := decide_eq_false hlt2
          rw [List.take_of_length_le (by omega)]
          clear hi hlt2
          cases hin : out.contains b0 with
          | true =>
            have HR : Hid (WoRel l out F0 w0 R u5 (.int .i64 ((k : Int) + 1)) wr) := Lib.hid ⟨k + 1, by rw [Int.natCast_add]; rfl, HLN.out.2.1, by
              rw [HW.out, if_pos hin, List.append_nil]; exact ho.drop⟩
            clear ho hin
            go_wp2_with fail
            go_roundw
            case rel => (try rw [hw2]); exact HR.out
            case measure => (try rw [hw2]); exact meas_lt hlt'
          | false =>
            have hwk : withoutL (outQ out) (l.take (k + 1)) = wl ++ [⟨b0, b1, b2⟩] := by rw [HW.out, if_neg (by rw [hin]; simp)]
            have HWK := Lib.hid hwk
            have HO := Lib.hid ho
            have H5 := Lib.hid (ho.cells (encBa ⟨b0, b1, b2⟩) 33)
            clear ho hin hwk
            go_wp2_with (at_builtin; refine app_list rfl H5.out 2 rfl (.tmp 33) (.tmp 35) 34 (by rfl) Tryz.underlying34 infoBk (by decide) (by decide) (by rfl) (by rfl) (Src.of_block (H5.out.block 0 rfl) rfl) (fun u hu => by simp at hu; rcases hu with rfl | rfl | rfl <;> rfl) (by have := HLN.out; have := HL.out; omega) ?_)
            intro v6 w6 ho6 hg6
            have HR : Hid (WoRel l out F0 w0 R v6 (.int .i64 ((k : Int) + 1)) w6) := Lib.hid ⟨k + 1, by rw [Int.natCast_add]; rfl, HLN.out.2.1, by
              rw [HWK.out]
              have h := ho6.sel2 (R1 := [_, _, _]) (R2 := R) [2] (by decide) rfl
              unfold BkR
              rw [bkV_snoc, List.length_append]
              exact h⟩
            clear ho6 hg6 HO H5
            go_wp2_with fail
            go_roundw
            case rel => (try rw [hw2]); exact HR.out
            case measure => (try rw [hw2]); exact meas_lt hlt'
    · have hge : (l.length : Int) ≤ (k : Int) := by omega
      have hdk : decide ((k : Int) < (l.length : Int)) = false := decide_eq_false (by omega)
      have hdkn : decide (k < l.length) = false := decide_eq_false hlt
      rw [List.take_of_length_le (by omega)] at ho
      have G := Lib.hid ho
      clear ho hk hlt
      go_wp2_with fail
      go_ret
      exact ⟨_, rfl, G.out⟩
end
abbrev RChL (cb : Nat) (c : ChD) (vl vt : Value) (R : List Asrt) : List Asrt := Cells cb (cC c vl vt) 110 :: BkR vl c.l :: IR vt c.t :: R
section
variable {F0 : List Nat} {w0 w : World} {R : List Asrt}
theorem bks_nil : BksAt F0 w0 R none [] := fun W hW => ⟨rfl, fun h => absurd h (by simp)⟩
theorem o_r10newch {m : Nat} (hm : mayM (m : Int) = true) (hc : ∀ s, 1 ≤ s → s < m → Cov m s) (h : In F0 w0 w R) :
    Calls Tryz.prog 19 #[.int .i64 m] w fun e w' => ∃ cb vl vt, e = .returned (pC cb) ∧ In F0 w0 w' (RChL cb (newCh m) vl vt R) := by
  have K : Hid (Calls Tryz.prog 47 #[.slice none 0 0, .int .i64 m] w (TbPost [] m F0 w0 R)) := Lib.hid (o_r10table (l := []) (c := 0) bks_nil (by decide) h hm hc)
  have HT : Hid (tableM [] m = List.replicate m (-1)) := Lib.hid rfl
  clear h hm hc
  go_enter Tryz.func19, Tryz.ntmps19
  go_wp2_with fail
  refine K.out.mono ?_
  rintro e w1 ⟨a, c, rfl, ho⟩
  have h1 := (ho.rownil 33 3).cells (cC (newCh m) (.slice none 0 0) (.slice a m c)) 110
  rw [HT.out] at h1
  have G := Lib.hid h1
  clear ho h1 K
  go_wp2_with fail
  go_ret
  exact ⟨_, _, _, rfl, G.out⟩
def RSetPost (cb : Nat) (x : ChD × Int) (F0 : List Nat) (w0 : World) (R : List Asrt) (e : Ending) (w' : World) : Prop := ∃ vl vt, e = .returned (.int .i64 x.2) ∧ In F0 w0 w' (RChL cb x.1 vl vt R)
theorem o_r10chset {cb : Nat} {c : ChD} {vl vt : Value} {l : List Bk} {A : Option Addr} {n : Nat} {out : List Int} {ao : Option Addr} {no : Nat} (hm : mayM (c.slots : Int) = true) (hc : ∀ s, 1 ≤ s → s < c.slots → Cov c.slots s) (hmd : 0 ≤ c.made ∧ c.made ≤ 1000000000)
    (hs : BksAt F0 w0 R A l) (hl : l.length ≤ 1000000) (hsrc : ∀ (R' : List Asrt) W, In F0 w0 W R' → Src W ao out.length 1 (intV out)) (hol : out.length ≤ 1000000) (h : In F0 w0 w (RChL cb c vl vt R)) :
    Calls Tryz.prog 21 #[pC cb, .slice A l.length n, .slice ao out.length no] w (RSetPost cb (setCh c l (outQ out)) F0 w0 R) := by
  have hs3 : BksAt F0 w0 (RChL cb c vl vt R) A l := ((hs.more _).more _).more _
  have K0 := Lib.hid (o_qmaybks (c := n) hs3 (by omega) h)
  cases hg : gensMay l with
  | false =>
    have e : setCh c l (outQ out) = (c, 1) := by unfold setCh; rw [hg]; rfl
    rw [hg] at K0
    rw [e]
    clear e h hs hs3 hm hc hmd hl hg
    go_enter Tryz.func21, Tryz.ntmps21
    go_wp2_with fail
    refine K0.out.mono ?_
    rintro e w1 ⟨rfl, ho⟩
    have G := Lib.hid ho
    clear ho K0
    go_wp2_with fail
    go_ret
    exact ⟨_, _, rfl, G.out⟩
  | true =>
  rw [hg] at K0
  obtain ⟨m, tl, tt, md⟩ := c
  simp only at hm hc hmd
  have HE : Hid (setCh ⟨m, tl, tt, md⟩ l (outQ out) = (⟨m, l, tableM (withoutL (outQ out) l) m, md + 1⟩, 0)) := Lib.hid (by unfold setCh; rw [hg]; simp only [if_true])
  have hadd : IntKind.i64.wrap (md + 1) = md + 1 := IntWalk.i64_in _ (by omega)
  have HS := Lib.hid hs
  have HL := Lib.hid hl
  have hwl : (withoutL (outQ out) l).length ≤ 1000000 := Nat.le_trans (withoutL_le _ _) hl
  have K2 := Lib.hid (fun w' v (h' : In F0 w0 w' (Cells cb (cC ⟨m, l, tt, md⟩ v vt) 110 :: BkR v l :: IR vt tt :: R)) => o_r10wo (c := n) (no := no) (((hs.more _).more _).more _) hl hsrc hol h')
  have K3 := Lib.hid (fun w' v a c2 (h' : In F0 w0 w' (BkR (.slice a (withoutL (outQ out) l).length c2) (withoutL (outQ out) l) :: Cells cb (cC ⟨m, l, tt, md⟩ v vt) 110 :: BkR v l :: IR vt tt :: R)) => o_r10table (c := c2) (m := m) (bks_row (v := .slice a (withoutL (outQ out) l).length c2) (l := withoutL (outQ out) l) (n := (withoutL (outQ out) l).length) (c := c2) rfl 0 rfl) hwl h' hm hc)
  generalize withoutL (outQ out) l = wl at *
  clear h hs hs3 hm hc hmd hl hg hwl hsrc hol
  go_enter Tryz.func21, Tryz.ntmps21
  go_wp2_with fail
  refine K0.out.mono ?_
  rintro e w1 ⟨rfl, ho⟩
  have H0 := Lib.hid (ho.rownil 33 3)
  have HSRC := Lib.hid (HS.out _ (show In F0 w0 w1 R from ho.drop.drop.drop))
  clear K0 ho
  go_wp2_with (at_builtin; refine app_list rfl H0.out 0 rfl (.const (.slice none 0 0)) (.tmp 11) 34 (by rfl) Tryz.underlying34 infoBk (by decide) (by decide) (by rfl) (by rfl) HSRC.out (bkV_one _) (by have := HL.out; omega) ?_)
  intro v3 w2 ho hg
  obtain ⟨F3, r3⟩ := ho.get 0 rfl
  obtain ⟨a3, n3, rfl, -, -, -⟩ := RowA.shape r3
  clear r3
  have h2 : In F0 w0 w2 (Cells cb (cC ⟨m, tl, tt, md⟩ vl vt) 110 :: BkR (.slice a3 l.length n3) l :: IR vt tt :: R) := by
    exact ho.sel2 (R1 := [_, _, _, _]) (R2 := R) [1, 0, 3] (by decide) rfl
  have f1 : w2.frozen? ⟨cb, 1, none⟩ = false := free_of (h2.block 0 rfl)
  have c1 : w2.cell? ⟨cb, 1, none⟩ = some vl := cell_of (h2.block 0 rfl) rfl
  have h3 : In F0 w0 (w2.setCell ⟨cb, 1, none⟩ (.slice a3 l.length n3)) (Cells cb (cC ⟨m, l, tt, md⟩ (.slice a3 l.length n3) vt) 110 :: BkR (.slice a3 l.length n3) l :: IR vt tt :: R) := h2.put 0 rfl 1 (.slice a3 l.length n3)
  have H3 := Lib.hid h3
  clear ho hg h2 h3 H0 HSRC
  go_upto_region 4 with fail
  generalize (w2.setCell ⟨cb, 1, none⟩ (.slice a3 l.length n3)) = w3 at *
  have hd := H3.out.drewN 1
  have HD := Lib.hid hd
  have hS : w3.drew.cell? ⟨cb, 0, none⟩ = some (.int .i64 m) := cell_of (hd.block 0 rfl) rfl
  clear hd H3 f1 c1
  refine e_start (fun w' => w'.cell? ⟨cb, 0, none⟩ = some (.int .i64 m)) (by kernel_rfl) hS (fun hS => ?_)
  refine e_take (i := 0) (v := ?_) rfl (by kernel_rfl) (fun _ _ _ h => h) (by rfl) ?_ hS ?_
  rotate_left
  · (intro w hSw; (try dsimp only at hSw); go_simp; try with_reducible rfl)
  try simp only [Act.put, List.setIfInBounds_toArray, List.set_cons_zero, List.set_cons_succ]
  refine e_take (i := 1) (v := ?_) rfl (by kernel_rfl) (fun _ _ _ h => h) (by rfl) ?_ hS ?_
  rotate_left
  · (intro w hSw; (try dsimp only at hSw); go_simp; try with_reducible rfl)
  try simp only [Act.put, List.setIfInBounds_toArray, List.set_cons_zero, List.set_cons_succ]
  refine e_take (i := 2) (v := ?_) rfl (by kernel_rfl) (fun _ _ _ h => h) (by rfl) ?_ hS ?_
  rotate_left
  · (intro w hSw; (try dsimp only at hSw); go_simp; try with_reducible rfl)
  try simp only [Act.put, List.setIfInBounds_toArray, List.set_cons_zero, List.set_cons_succ]
  refine e_take (i := 4) (v := ?_) rfl (by kernel_rfl) (fun _ _ _ h => h) (by rfl) ?_ hS ?_
  rotate_left
  · (intro w hSw; (try dsimp only at hSw); go_simp; try with_reducible rfl)
  try simp only [Act.put, List.setIfInBounds_toArray, List.set_cons_zero, List.set_cons_succ]
  refine e_take (i := 5) (v := ?_) rfl (by kernel_rfl) (fun _ _ _ h => h) (by rfl) ?_ hS ?_
  rotate_left
  · (intro w hSw; (try dsimp only at hSw); go_simp; try with_reducible rfl)
  try simp only [Act.put, List.setIfInBounds_toArray, List.set_cons_zero, List.set_cons_succ]
  refine e_take (i := 6) (v := ?_) rfl (by kernel_rfl) (fun _ _ _ h => h) (by rfl) ?_ hS ?_
  rotate_left
  · (intro w hSw; (try dsimp only at hSw); go_simp; try with_reducible rfl)
  try simp only [Act.put, List.setIfInBounds_toArray, List.set_cons_zero, List.set_cons_succ]
  refine e_take (i := 7) (v := ?_) rfl (by kernel_rfl) (fun _ _ _ h => h) (by rfl) ?_ hS ?_
  rotate_left
  · (intro w hSw; (try dsimp only at hSw); go_simp; try with_reducible rfl)
  try simp only [Act.put, List.setIfInBounds_toArray, List.set_cons_zero, List.set_cons_succ]
  refine e_pin (i := 3) rfl (by kernel_rfl) (fun K' hK => ?_)
  go_simp
  go_at_call 50
  refine (K2.out _ _ HD.out).mono ?_
  rintro e w4 ⟨v4, rfl, ho4⟩
  obtain ⟨F4, r4⟩ := ho4.get 0 rfl
  obtain ⟨a4, c4, rfl, -, -, -⟩ := RowA.shape r4
  have HO4 := Lib.hid ho4
  have hS4 : w4.cell? ⟨cb, 0, none⟩ = some (.int .i64 m) := cell_of (ho4.block 1 rfl) rfl
  clear ho4 r4 hS
  refine hK.out _ _ hS4 (fun hS => ?_)
  clear hK K' hS4
  try simp only [Act.put, List.setIfInBounds_toArray, List.set_cons_zero, List.set_cons_succ]
  refine e_pin (i := 8) rfl (by kernel_rfl) (fun K' hK => ?_)
  go_simp
  go_at_call 47
  refine (K3.out _ _ _ _ HO4.out).mono ?_
  rintro e w5 ⟨a5, c5, rfl, ho5⟩
  have ho5 : In F0 w0 w5 (Cells cb (cC ⟨m, l, tt, md⟩ (.slice a3 l.length n3) vt) 110 :: BkR (.slice a3 l.length n3) l :: IR (.slice a5 m c5) (tableM wl m) :: R) := ho5.sel2 (R1 := [_, _, _, _, _]) (R2 := R) [2, 3, 0] (by decide) rfl
  have hS5 : w5.cell? ⟨cb, 0, none⟩ = some (.int .i64 m) := cell_of (ho5.block 0 rfl) rfl
  have HF2 : Hid ((w5.frozen? ⟨cb, 2, none⟩ = false) ∧ w5.cell? ⟨cb, 2, none⟩ = some vt) := Lib.hid ⟨free_of (ho5.block 0 rfl), cell_of (ho5.block 0 rfl) rfl⟩
  have h7 : In F0 w0 (w5.setCell ⟨cb, 2, none⟩ (.slice a5 m c5)) (Cells cb (cC ⟨m, l, tableM wl m, md⟩ (.slice a3 l.length n3) (.slice a5 m c5)) 110 :: BkR (.slice a3 l.length n3) l :: IR (.slice a5 m c5) (tableM wl m) :: R) := ho5.put 0 rfl 2 (.slice a5 m c5)
  have HF7 := Lib.hid h7
  clear ho5 h7 hS HO4
  refine hK.out _ _ hS5 (fun hS => ?_)
  clear hK K' hS5
  try simp only [Act.put, List.setIfInBounds_toArray, List.set_cons_zero, List.set_cons_succ]
  refine e_take (i := 9) (v := ?_) rfl (by kernel_rfl) (fun _ _ _ h => h) (by rfl) ?_ hS ?_
  rotate_left
  · (intro w hSw; (try dsimp only at hSw); go_simp; try with_reducible rfl)
  try simp only [Act.put, List.setIfInBounds_toArray, List.set_cons_zero, List.set_cons_succ]
  refine e_take (i := 10) (v := ?_) rfl (by kernel_rfl) (fun _ _ _ h => h) (by rfl) ?_ hS ?_
  rotate_left
  · (intro w hSw; (try dsimp only at hSw); go_simp; try with_reducible rfl)
  try simp only [Act.put, List.setIfInBounds_toArray, List.set_cons_zero, List.set_cons_succ]
  refine e_last (i := 11) rfl (by kernel_rfl) (fun K' hK => ?_)
  have hf := HF2.out.1
  have hc1 := HF2.out.2
  go_simp
  refine hK.out _ _ ?_
  clear hK K' hS hf hc1
  have c3 : (w5.setCell ⟨cb, 2, none⟩ (.slice a5 m c5)).cell? ⟨cb, 3, none⟩ = some (.int .i64 md) := cell_of (HF7.out.block 0 rfl) rfl
  have f3 : (w5.setCell ⟨cb, 2, none⟩ (.slice a5 m c5)).frozen? ⟨cb, 3, none⟩ = false := free_of (HF7.out.block 0 rfl)
  have G := Lib.hid (HF7.out.put 0 rfl 3 (.int .i64 (md + 1)))
  generalize (w5.setCell ⟨cb, 2, none⟩ (.slice a5 m c5)) = w7 at *
  clear HF7 HF2 HD K2 K3
  go_wp2_with fail
  go_ret
  rw [HE.out]
  exact ⟨.slice a3 l.length n3, .slice a5 m c5, rfl, G.out⟩
end
section
variable {F0 : List Nat} {w0 w : World} {R : List Asrt}
theorem o_qmayt (t : Tup) (h : In F0 w0 w R) : Calls Tryz.prog 6 #[.agg (encT t)] w fun e w' => e = .returned (.bool (decide (MayT t))) ∧ In F0 w0 w' R := by
  have G := Lib.hid ((h.cells (encT t) 24).drop)
  clear h
  by_cases hm : MayT t
  · rw [decide_eq_true hm]
    obtain ⟨h1, h2, h3, h4, h5⟩ := hm
    by_cases hp : t.proto = 6
    · have hp' : (t.proto == 6) = true := by simpa using hp
      clear h1 hp
      go_enter Tryz.func6, Tryz.ntmps6
      go_wp2_with fail
      go_ret
      exact ⟨rfl, G.out⟩
    · have hp' : (t.proto == 6) = false := by simpa using hp
      have hq' : (t.proto == 17) = true := by have := h1; simp; omega
      clear h1 hp
      go_enter Tryz.func6, Tryz.ntmps6
      go_wp2_with fail
      go_ret
      exact ⟨rfl, G.out⟩
  · rw [decide_eq_false hm]
    have hb : ((t.proto == 6) = false ∧ (t.proto == 17) = false) ∨ (((t.proto == 6) = true ∨ ((t.proto == 6) = false ∧ (t.proto == 17) = true)) ∧ (decide (0 ≤ t.sport) = false ∨ (0 ≤ t.sport ∧ (decide (t.sport ≤ 65535) = false ∨ (t.sport ≤ 65535 ∧ (decide (0 ≤ t.dport) = false ∨ (0 ≤ t.dport ∧ decide (t.dport ≤ 65535) = false))))))) := by
      have hm' : ¬ ((t.proto = 6 ∨ t.proto = 17) ∧ 0 ≤ t.sport ∧ t.sport ≤ 65535 ∧ 0 ≤ t.dport ∧ t.dport ≤ 65535) := fun ⟨a, b, c, d, e⟩ => hm ⟨a, b, c, d, e⟩
      simp only [beq_eq_false_iff_ne, beq_iff_eq, decide_eq_false_iff_not]; omega
    clear hm
    rcases hb with ⟨p1, p2⟩ | ⟨p, q⟩
    · go_enter Tryz.func6, Tryz.ntmps6
      go_wp2_with fail
      go_ret
      exact ⟨rfl, G.out⟩
    · rcases p with p | ⟨p, p2⟩ <;> rcases q with q | ⟨q, q2 | ⟨q2, q3 | ⟨q3, q4⟩⟩⟩
      all_goals
        go_enter Tryz.func6, Tryz.ntmps6
        go_wp2_with fail
        go_ret
        exact ⟨rfl, G.out⟩
end
section
variable {F0 : List Nat} {w0 w : World} {R : List Asrt}
theorem o_r10pick {cb : Nat} {c : ChD} {vl vt : Value} {t : Tup} (hw : WfT t) (hm : 1 ≤ c.slots ∧ c.slots ≤ 251) (ht : c.t.length = c.slots) (hl : c.l.length ≤ 1000000) (hids : ∀ b ∈ c.l, 0 ≤ b.id) (h : In F0 w0 w (RChL cb c vl vt R)) :
    Calls Tryz.prog 54 #[pC cb, .agg (encT t)] w (PickPost (pickCh c t) F0 w0 (RChL cb c vl vt R)) := by
  have h1 := (h.cells (encT t) 24).cells (encBa zBk) 33
  rw [World.size_alloc] at h1
  have K00 := o_qmayt t h1
  by_cases hmay : MayT t
  case neg =>
    have e : pickCh c t = none := by unfold pickCh; rw [if_neg hmay]
    rw [decide_eq_false hmay] at K00
    have K0 := Lib.hid K00
    rw [e]
    clear h h1 hmay hw hm ht hl e hids K00
    obtain ⟨k0, k1, k2, k3, k4⟩ := t
    go_enter Tryz.func54, Tryz.ntmps54
    go_wp2_with fail
    refine K0.out.mono ?_
    rintro e w1 ⟨rfl, ho⟩
    have htH := Lib.hid (there_of (ho.block 0 rfl))
    have G := Lib.hid (ho.setFull 0 rfl (xs := [.int .i64 0, .int .u32 0, .int .i64 0]) (b := w.heap.size + 1) (C := encBa zBk) (T := 33) rfl)
    clear K0 ho
    go_wp2_with (refine wpList_store_mid (op := ⟨none, Op.store 33 (.tmp 4) (.tmp 18), _, _, _, _⟩) (by rfl) 33 (.tmp 4) (.tmp 18) rfl (w.heap.size + 1) 0 (encBa zBk) (by rfl) (by rfl) htH.out (by kernel_rfl) (encBa_all _ _ _) ?_)
    exact bodyPost_ret (results_cell_tmp_row Tryz.results54 _ _ (w.heap.size + 1) 33 _ (0, 0) _ rfl (G.out.block 0 rfl) Tryz.underlying33 rfl (by kernel_rfl)) rfl ⟨rfl, G.out.drop.drop⟩
  case pos =>
  rw [decide_eq_true hmay] at K00
  have K0 := Lib.hid K00
  obtain ⟨m, tl, tt, md⟩ := c
  simp only at hm ht hl hids
  have e : pickCh ⟨m, tl, tt, md⟩ t = findBk tl (tt.getD (hashT t % m) 0) := by unfold pickCh; rw [if_pos hmay]
  obtain ⟨hh, ehh⟩ : ∃ hh, hh = hashT t := ⟨_, rfl⟩
  have hhl : hh < 4294967296 := by rw [ehh]; exact mixN_lt _ _
  rw [← ehh] at e
  have KH0 := fun w' R' (h' : In F0 w0 w' R') => o_r4hash hw hmay h'
  rw [← ehh] at KH0
  have KH := Lib.hid KH0
  have hmz : ¬ ((m : Int) = 0) := by omega
  have hmz' : ¬ (m = 0) := by omega
  have hm0 : ((m : Int) == 0) = false := beq_eq_false_iff_ne.2 (by omega)
  have hmw : IntKind.u32.wrap (m : Int) = (m : Int) := u32_small (by omega) (by omega)
  have hmod : Int.tmod (hh : Int) (m : Int) = ((hh % m : Nat) : Int) := by rw [Int.tmod_eq_emod_of_nonneg (by omega), Int.natCast_emod]
  have hixl : hh % m < m := Nat.mod_lt _ (by omega)
  have hxw : IntKind.u32.wrap ((hh % m : Nat) : Int) = ((hh % m : Nat) : Int) := u32_small (by omega) (by omega)
  have hxi : IntKind.i64.wrap ((hh % m : Nat) : Int) = ((hh % m : Nat) : Int) := IntWalk.i64_in _ (by omega)
  generalize hh % m = ix at *
  have hixm : (ix : Int) < (m : Int) := by omega
  obtain ⟨Fv, rv⟩ := h1.get 4 rfl
  obtain ⟨pt, ct, e2, -, -, -⟩ := RowA.shape rv
  simp only [ht] at e2
  subst e2
  obtain ⟨gt, rfl⟩ := ir_at (k := ix) h1 4 rfl (by simp only; omega)
  obtain ⟨Fl, rl⟩ := h1.get 3 rfl
  obtain ⟨pa, pc, rfl, -, -, -⟩ := RowA.shape rl
  simp only at h1 K0 KH ⊢
  have HX : Hid (∀ {R1 R2} W, In F0 w0 W (R1 :: R2 :: RChL cb ⟨m, tl, tt, md⟩ (.slice pa tl.length pc) (.slice (some ⟨gt, 0, none⟩) m ct) R) → W.cell? ⟨gt, ix, none⟩ = some (.int .i64 (tt.getD ix 0))) := Lib.hid fun W hW => (row_int (k := ix) hW 4 rfl (by simp only; omega)).1
  have HTI : Hid (tt.length = m ∧ ix < m) := Lib.hid ⟨ht, hixl⟩
  have HI := Lib.hid hids
  generalize tt.getD ix 0 = x at *
  have HE := Lib.hid e
  have KF := Lib.hid (fun w' R1 R2 (h' : In F0 w0 w' (R1 :: R2 :: RChL cb ⟨m, tl, tt, md⟩ (.slice pa tl.length pc) (.slice (some ⟨gt, 0, none⟩) m ct) R)) => o_r10find (l := tl) (c := pc) (bks_row (n := tl.length) (c := pc) rfl 3 rfl) hl x h')
  clear h h1 hm ht hl hmay hw e rv rl hhl ehh KH0 hixl hids K00
  obtain ⟨k0, k1, k2, k3, k4⟩ := t
  go_enter Tryz.func54, Tryz.ntmps54
  go_wp2_with fail
  generalize w.heap.size = g at *
  refine K0.out.mono ?_
  rintro e w1 ⟨rfl, ho⟩
  have H1 : Hid (In F0 w0 w1 (Cells (g + 1) (encBa zBk) 33 :: Cells g #[.int .u32 k0, .int .u32 k1, .int .i64 k2, .int .i64 k3, .int .i64 k4] 24 :: RChL cb ⟨m, tl, tt, md⟩ (.slice pa tl.length pc) (.slice (some ⟨gt, 0, none⟩) m ct) R)) := Lib.hid ho
  have d2 : w1.cell? ⟨cb, 2, none⟩ = some (.slice (some ⟨gt, 0, none⟩) m ct) := cell_of (H1.out.block 2 rfl) rfl
  clear K0 ho
  go_upto_region 3 with fail
  clear d2
  have hd := H1.out.drewN 1
  have HD := Lib.hid hd
  have hS : w1.drew.cell? ⟨cb, 0, none⟩ = some (.int .i64 m) ∧ w1.drew.cell? ⟨cb, 2, none⟩ = some (.slice (some ⟨gt, 0, none⟩) m ct) ∧ w1.drew.cell? ⟨g, 0, none⟩ = some (.int .u32 k0) ∧ w1.drew.cell? ⟨g, 1, none⟩ = some (.int .u32 k1) ∧ w1.drew.cell? ⟨g, 2, none⟩ = some (.int .i64 k2) ∧ w1.drew.cell? ⟨g, 3, none⟩ = some (.int .i64 k3) ∧ w1.drew.cell? ⟨g, 4, none⟩ = some (.int .i64 k4) ∧ w1.drew.cell? ⟨gt, ix, none⟩ = some (.int .i64 x) := ⟨cell_of (hd.block 2 rfl) rfl, cell_of (hd.block 2 rfl) rfl, cell_of (hd.block 1 rfl) rfl, cell_of (hd.block 1 rfl) rfl, cell_of (hd.block 1 rfl) rfl, cell_of (hd.block 1 rfl) rfl, cell_of (hd.block 1 rfl) rfl, HX.out _ (hd)⟩
  clear hd H1
  refine e_start (fun w' => w'.cell? ⟨cb, 0, none⟩ = some (.int .i64 m) ∧ w'.cell? ⟨cb, 2, none⟩ = some (.slice (some ⟨gt, 0, none⟩) m ct) ∧ w'.cell? ⟨g, 0, none⟩ = some (.int .u32 k0) ∧ w'.cell? ⟨g, 1, none⟩ = some (.int .u32 k1) ∧ w'.cell? ⟨g, 2, none⟩ = some (.int .i64 k2) ∧ w'.cell? ⟨g, 3, none⟩ = some (.int .i64 k3) ∧ w'.cell? ⟨g, 4, none⟩ = some (.int .i64 k4) ∧ w'.cell? ⟨gt, ix, none⟩ = some (.int .i64 x)) (by kernel_rfl) hS (fun hS => ?_)
  refine e_take (i := 0) (v := ?_) rfl (by kernel_rfl) (fun _ _ _ h => h) (by rfl) ?_ hS ?_
  rotate_left
  · (intro w hSw; (try dsimp only at hSw); go_simp; try with_reducible rfl)
  try simp only [Act.put, List.setIfInBounds_toArray, List.set_cons_zero, List.set_cons_succ]
  refine e_take (i := 1) (v := ?_) rfl (by kernel_rfl) (fun _ _ _ h => h) (by rfl) ?_ hS ?_
  rotate_left
  · (intro w hSw; (try dsimp only at hSw); go_simp; try with_reducible rfl)
  try simp only [Act.put, List.setIfInBounds_toArray, List.set_cons_zero, List.set_cons_succ]
  refine e_take (i := 2) (v := ?_) rfl (by kernel_rfl) (fun _ _ _ h => h) (by rfl) ?_ hS ?_
  rotate_left
  · (intro w hSw; (try dsimp only at hSw); go_simp; try with_reducible rfl)
  try simp only [Act.put, List.setIfInBounds_toArray, List.set_cons_zero, List.set_cons_succ]
  refine e_take (i := 3) (v := ?_) rfl (by kernel_rfl) (fun _ _ _ h => h) (by rfl) ?_ hS ?_
  rotate_left
  · (intro w hSw; (try dsimp only at hSw); go_simp; try with_reducible rfl)
  try simp only [Act.put, List.setIfInBounds_toArray, List.set_cons_zero, List.set_cons_succ]
  refine e_take (i := 4) (v := ?_) rfl (by kernel_rfl) (fun _ _ _ h => h) (by rfl) ?_ hS ?_
  rotate_left
  · (intro w hSw; (try dsimp only at hSw); go_simp; try with_reducible rfl)
  try simp only [Act.put, List.setIfInBounds_toArray, List.set_cons_zero, List.set_cons_succ]
  refine e_take (i := 6) (v := ?_) rfl (by kernel_rfl) (fun _ _ _ h => h) (by rfl) ?_ hS ?_
  rotate_left
  · (intro w hSw; (try dsimp only at hSw); go_simp; try with_reducible rfl)
  try simp only [Act.put, List.setIfInBounds_toArray, List.set_cons_zero, List.set_cons_succ]
  refine e_take (i := 7) (v := ?_) rfl (by kernel_rfl) (fun _ _ _ h => h) (by rfl) ?_ hS ?_
  rotate_left
  · (intro w hSw; (try dsimp only at hSw); go_simp; try with_reducible rfl)
  try simp only [Act.put, List.setIfInBounds_toArray, List.set_cons_zero, List.set_cons_succ]
  refine e_take (i := 8) (v := ?_) rfl (by kernel_rfl) (fun _ _ _ h => h) (by rfl) ?_ hS ?_
  rotate_left
  · (intro w hSw; (try dsimp only at hSw); go_simp; try with_reducible rfl)
  try simp only [Act.put, List.setIfInBounds_toArray, List.set_cons_zero, List.set_cons_succ]
  refine e_take (i := 9) (v := ?_) rfl (by kernel_rfl) (fun _ _ _ h => h) (by rfl) ?_ hS ?_
  rotate_left
  · (intro w hSw; (try dsimp only at hSw); go_simp; try with_reducible rfl)
  try simp only [Act.put, List.setIfInBounds_toArray, List.set_cons_zero, List.set_cons_succ]
  refine e_take (i := 10) (v := ?_) rfl (by kernel_rfl) (fun _ _ _ h => h) (by rfl) ?_ hS ?_
  rotate_left
  · (intro w hSw; (try dsimp only at hSw); go_simp; try with_reducible rfl)
  try simp only [Act.put, List.setIfInBounds_toArray, List.set_cons_zero, List.set_cons_succ]
  refine e_pin (i := 5) rfl (by kernel_rfl) (fun K' hK => ?_)
  go_simp
  go_at_call 89
  refine (KH.out _ _ HD.out).mono ?_
  rintro e w3 ⟨rfl, ho3⟩
  have HO3 := Lib.hid ho3
  have hS3 : w3.cell? ⟨cb, 0, none⟩ = some (.int .i64 m) ∧ w3.cell? ⟨cb, 2, none⟩ = some (.slice (some ⟨gt, 0, none⟩) m ct) ∧ w3.cell? ⟨g, 0, none⟩ = some (.int .u32 k0) ∧ w3.cell? ⟨g, 1, none⟩ = some (.int .u32 k1) ∧ w3.cell? ⟨g, 2, none⟩ = some (.int .i64 k2) ∧ w3.cell? ⟨g, 3, none⟩ = some (.int .i64 k3) ∧ w3.cell? ⟨g, 4, none⟩ = some (.int .i64 k4) ∧ w3.cell? ⟨gt, ix, none⟩ = some (.int .i64 x) := ⟨cell_of (ho3.block 2 rfl) rfl, cell_of (ho3.block 2 rfl) rfl, cell_of (ho3.block 1 rfl) rfl, cell_of (ho3.block 1 rfl) rfl, cell_of (ho3.block 1 rfl) rfl, cell_of (ho3.block 1 rfl) rfl, cell_of (ho3.block 1 rfl) rfl, HX.out _ (ho3)⟩
  clear ho3 hS
  refine hK.out _ _ hS3 (fun hS => ?_)
  clear hK K' hS3
  try simp only [Act.put, List.setIfInBounds_toArray, List.set_cons_zero, List.set_cons_succ]
  refine e_take (i := 11) (v := ?_) rfl (by kernel_rfl) (fun _ _ _ h => h) (by rfl) ?_ hS ?_
  rotate_left
  · (intro w hSw; (try dsimp only at hSw); go_simp; try with_reducible rfl)
  try simp only [Act.put, List.setIfInBounds_toArray, List.set_cons_zero, List.set_cons_succ]
  refine e_take (i := 12) (v := ?_) rfl (by kernel_rfl) (fun _ _ _ h => h) (by rfl) ?_ hS ?_
  rotate_left
  · (intro w hSw; (try dsimp only at hSw); go_simp; try with_reducible rfl)
  try simp only [Act.put, List.setIfInBounds_toArray, List.set_cons_zero, List.set_cons_succ]
  refine e_take (i := 13) (v := ?_) rfl (by kernel_rfl) (fun _ _ _ h => h) (by rfl) ?_ hS ?_
  rotate_left
  · (intro w hSw; (try dsimp only at hSw); go_simp; try with_reducible rfl)
  try simp only [Act.put, List.setIfInBounds_toArray, List.set_cons_zero, List.set_cons_succ]
  refine e_take (i := 14) (v := ?_) rfl (by kernel_rfl) (fun _ _ _ h => h) (by rfl) ?_ hS ?_
  rotate_left
  · (intro w hSw; (try dsimp only at hSw); go_simp; try with_reducible rfl)
  try simp only [Act.put, List.setIfInBounds_toArray, List.set_cons_zero, List.set_cons_succ]
  refine e_last (i := 15) rfl (by kernel_rfl) (fun K' hK => ?_)
  go_simp
  refine hK.out _ _ ?_
  clear hK K' hS
  by_cases hx0 : x < 0
  · have q : decide (x < 0) = true := decide_eq_true hx0
    have HF : Hid (findBk tl x = none) := Lib.hid (List.find?_eq_none.2 (fun y hy => by have := HI.out y hy; simp; omega))
    have htH := Lib.hid (there_of (HO3.out.block 0 rfl))
    have G := Lib.hid (HO3.out.setFull 0 rfl (xs := [.int .i64 0, .int .u32 0, .int .i64 0]) (b := g + 1) (C := encBa zBk) (T := 33) rfl)
    clear hx0 HO3 HD KF KH HX
    go_wp2_with (refine wpList_store_mid (op := ⟨none, Op.store 33 (.tmp 4) (.tmp 36), _, _, _, _⟩) (by rfl) 33 (.tmp 4) (.tmp 36) rfl (g + 1) 0 (encBa zBk) (by rfl) (by rfl) htH.out (by kernel_rfl) (encBa_all _ _ _) ?_)
    exact bodyPost_ret (results_cell_tmp_row Tryz.results54 _ _ (g + 1) 33 _ (0, 0) _ rfl (G.out.block 0 rfl) Tryz.underlying33 rfl (by kernel_rfl)) rfl ⟨by rw [HE.out, HF.out]; rfl, G.out.drop.drop⟩
  · have q : decide (x < 0) = false := decide_eq_false hx0
    have d1 : w3.cell? ⟨cb, 1, none⟩ = some (.slice pa tl.length pc) := cell_of (HO3.out.block 2 rfl) rfl
    have K4 := Lib.hid (KF.out _ _ _ HO3.out)
    clear hx0 HD KF KH HX HO3
    go_wp2_with fail
    refine K4.out.mono ?_
    rintro e w4 ⟨rfl, ho4⟩
    generalize hf : (findBk tl x).isSome = fs at *
    generalize hy : (findBk tl x).getD zBk = y at *
    have htH := Lib.hid (there_of (ho4.block 0 rfl))
    have G := Lib.hid (ho4.setFull 0 rfl (xs := [.int .i64 y.id, .int .u32 y.addr, .int .i64 y.weight]) (b := g + 1) (C := encBa zBk) (T := 33) rfl)
    have HFY := Lib.hid (And.intro hf hy)
    clear ho4 K4 hf hy
    go_wp2_with (refine wpList_store_mid (op := ⟨none, Op.store 33 (.tmp 4) (.tmp 43), _, _, _, _⟩) (by rfl) 33 (.tmp 4) (.tmp 43) rfl (g + 1) 0 (encBa y) (by rfl) (by rfl) htH.out (by kernel_rfl) (encBa_all _ _ _) ?_)
    exact bodyPost_ret (results_cell_tmp_row Tryz.results54 _ _ (g + 1) 33 _ (0, 0) _ rfl (G.out.block 0 rfl) Tryz.underlying33 rfl (by kernel_rfl)) rfl ⟨by rw [HE.out, HFY.out.1, HFY.out.2]; rfl, G.out.drop.drop⟩
end
structure WfF (f : Fl) : Prop where
  t : WfT f.t
  b0 : -9223372036854775808 ≤ f.bk
  b1 : f.bk < 9223372036854775808
  g0 : -9223372036854775808 ≤ f.gen
  g1 : f.gen < 9223372036854775808
  s0 : -9223372036854775808 ≤ f.seen
  s1 : f.seen < 9223372036854775808
end Go.Proofs.YtgapbecddgfkmaaGreat
