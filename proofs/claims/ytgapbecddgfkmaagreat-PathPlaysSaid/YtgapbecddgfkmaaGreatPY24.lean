/- Rows.PathPlaysSaid -/
import Derived.Test.YtgapbecddgfkmaaGreatPY2
import Derived.Test.YtgapbecddgfkmaaGreatPY6
import Derived.Test.YtgapbecddgfkmaaGreatPY23
import Derived.Test.YtgapbecddgfkmaaGreatPY22
import Derived.Test.YtgapbecddgfkmaaGreatPY17
import Derived.Test.YtgapbecddgfkmaaGreatPY11
import Derived.Test.YtgapbecddgfkmaaGreatPY10
import Derived.Test.YtgapbecddgfkmaaGreatPY20
import Derived.Deep.DeepCutAuto
import Derived.BigQuiet
import Derived.Deep.QuietTactic
import Derived.Test.YtgapbecddgfkmaaGreatPY12
import Derived.Deep.CutBlock
import Derived.Deep.LoopGhost
namespace Go.Proofs.YtgapbecddgfkmaaGreat
open Go.RowKit
set_option linter.unusedVariables false
set_option maxHeartbeats 64000000
set_option maxRecDepth 100000
def ViewA (k : Nat) (v : Value) (n : Nat) (xs : List Value) : Asrt := fun w F => xs.length = n * k ∧ ∃ a cap, v = .slice a n cap ∧ n ≤ cap ∧ cap ≤ maxLen ∧
  ((a = none ∧ n = 0 ∧ F = []) ∨ ∃ g o, a = some ⟨g, o, none⟩ ∧ F = [g] ∧ g < w.heap.size ∧ ∀ j u, xs[j]? = some u → w.cell? ⟨g, o + j, none⟩ = some u)
theorem RowA.view {T : TypeId} {k : Nat} {v : Value} {n : Nat} {xs : List Value} {w : World} {F : List Nat} (h : RowA T k v n xs w F) : ViewA k v n xs w F := by
  obtain ⟨a, cap, rfl, h1, h2, h3⟩ := h.shape
  obtain ⟨hF, hl, h4⟩ := h
  refine ⟨hl, a, cap, rfl, h1, h2, ?_⟩
  rcases h4 with ⟨e, h5⟩ | ⟨g, c, cur, e, _, hb, _⟩
  · cases e
    exact Or.inl ⟨rfl, h5, by rw [hF]; simp [Value.ownBlock]⟩
  · cases e
    refine Or.inr ⟨g, 0, rfl, by rw [hF]; simp [Value.ownBlock], hp_lt hb, fun j u hu => ?_⟩
    obtain ⟨b, e, hc⟩ := h3 j u hu
    cases e
    rw [Nat.zero_add]; exact hc
theorem ViewA.shape {k : Nat} {v : Value} {n : Nat} {xs : List Value} {w : World} {F : List Nat} (h : ViewA k v n xs w F) : ∃ a cap, v = .slice a n cap ∧ n ≤ cap ∧ cap ≤ maxLen := by
  obtain ⟨_, a, cap, e, h1, h2, _⟩ := h; exact ⟨a, cap, e, h1, h2⟩
theorem ViewA.at {k : Nat} {a : Option Addr} {n n' cap : Nat} {xs : List Value} {w : World} {F : List Nat} (h : ViewA k (.slice a n cap) n' xs w F) (hn : 0 < n') (hk : 0 < k) : ∃ g o, a = some ⟨g, o, none⟩ ∧ ∀ j u, xs[j]? = some u → w.cell? ⟨g, o + j, none⟩ = some u := by
  obtain ⟨hl, a', cap', e, h1, h2, h3⟩ := h
  cases e
  rcases h3 with ⟨_, h0, _⟩ | ⟨g, o, rfl, _, _, hc⟩
  · omega
  · exact ⟨g, o, rfl, hc⟩
theorem ViewA.src {k : Nat} {a : Option Addr} {n' n cap : Nat} {xs : List Value} {w : World} {F : List Nat} (h : ViewA k (.slice a n' cap) n xs w F) {m : Nat} (hm : m ≤ n) : Src w a m k (xs.take (m * k)) := by
  obtain ⟨hl, a', cap', e, h1, h2, h3⟩ := h
  cases e
  refine ⟨by rw [List.length_take, hl]; exact Nat.min_eq_left (Nat.mul_le_mul_right _ hm), fun h0 => ?_⟩
  rcases h3 with ⟨_, h0, _⟩ | ⟨g, o, rfl, _, _, hc⟩
  · omega
  · refine ⟨_, rfl, fun j u hu => ?_⟩
    rw [add_at]
    rw [List.getElem?_take] at hu
    split at hu
    · exact hc j u hu
    · cases hu
theorem ViewA.src_from {k : Nat} {a : Option Addr} {n' n cap : Nat} {xs : List Value} {w : World} {F : List Nat} (h : ViewA k (.slice a n' cap) n xs w F) {i : Nat} (hi : i ≤ n) : Src w (sufA a cap i k) (n - i) k (xs.drop (i * k)) := by
  obtain ⟨hl, a', cap', e, h1, h2, h3⟩ := h
  cases e
  refine ⟨by rw [List.length_drop, hl, Nat.sub_mul], fun h0 => ?_⟩
  rcases h3 with ⟨_, h0, _⟩ | ⟨g, o, rfl, _, _, hc⟩
  · omega
  · refine ⟨_, by rw [sufA, if_neg (by omega)]; rfl, fun j u hu => ?_⟩
    rw [List.getElem?_drop] at hu
    show w.cell? (((⟨g, o, none⟩ : Addr).add (i * k)).add j) = some u
    rw [add_at, add_at, Nat.add_assoc]
    exact hc _ u hu
theorem ViewA.cut {k : Nat} {a : Option Addr} {n' n cap : Nat} {xs : List Value} {w : World} {F : List Nat} (h : ViewA k (.slice a n' cap) n xs w F) {i : Nat} (hi : i ≤ n) : ViewA k (.slice (sufA a cap i k) (n - i) (cap - i)) (n - i) (xs.drop (i * k)) w F := by
  obtain ⟨hl, a', cap', e, h1, h2, h3⟩ := h
  cases e
  refine ⟨by rw [List.length_drop, hl, Nat.sub_mul], _, _, rfl, by omega, by omega, ?_⟩
  rcases h3 with ⟨rfl, rfl, rfl⟩ | ⟨g, o, rfl, rfl, hg, hc⟩
  · left; unfold sufA; refine ⟨by split <;> rfl, by omega, rfl⟩
  · right
    unfold sufA
    split
    · have : i * k = xs.length := by
        rw [hl]; congr 1; omega
      refine ⟨g, o, rfl, rfl, hg, fun j u hu => ?_⟩
      rw [List.drop_eq_nil_of_le (by rw [this]; exact Nat.le_refl _)] at hu
      simp at hu
    · refine ⟨g, o + i * k, by simp [add_at], rfl, hg, fun j u hu => ?_⟩
      rw [List.getElem?_drop] at hu
      rw [Nat.add_assoc]
      exact hc _ u hu
def flatF (L : List Fl) : List Value := (L.map (fun x => (encF x).toList)).flatten
theorem flatF_snoc (L : List Fl) (x : Fl) : flatF L ++ (encF x).toList = flatF (L ++ [x]) := by simp [flatF]
theorem infoFlow : (Tryz.prog.info? 49).map (fun i => (i.zero.map (fun z => z.cells.size), i.size, i.bytes)) = some (some 8, 8, 56) := by kernel_rfl
theorem fl_neq (s t : Fl) (w : World) : (binOp .neq 49 (.agg (encF s)) (.agg (encF t))).run Tryz.prog w = .ok (.bool (!decide (s = t))) w := by
  have h := fl_eq s t w
  rw [run_eql_struct] at h
  rw [run_neq_struct]
  revert h
  generalize (Sem.run _ _ _) = r
  intro h
  cases r with
  | ok b w' =>
    simp [Result.andThen] at h ⊢
    exact ⟨by rw [h.1], h.2⟩
  | halt x w' => simp [Result.andThen] at h
theorem tup_neq (s t : Tup) (w : World) : (binOp .neq 24 (.agg (encT s)) (.agg (encT t))).run Tryz.prog w = .ok (.bool (!decide (s = t))) w := by
  have h := tup_eq s t w
  rw [run_eql_struct] at h
  rw [run_neq_struct]
  revert h
  generalize (Sem.run _ _ _) = r
  intro h
  cases r with
  | ok b w' =>
    simp [Result.andThen] at h ⊢
    exact ⟨by rw [h.1], h.2⟩
  | halt x w' => simp [Result.andThen] at h
theorem flatF_at : ∀ {L : List Fl} {j : Nat} {x : Fl}, L[j]? = some x → ∀ (c : Nat) (u : Value), (encF x)[c]? = some u → (flatF L)[j * 8 + c]? = some u
  | [], j, x, h, c, u, hu => by simp at h
  | y :: r, 0, x, h, c, u, hu => by
    simp at h; subst h
    have e : flatF (y :: r) = (encF y).toList ++ flatF r := rfl
    have hc : c < 8 := by have := (Array.getElem?_eq_some_iff.1 hu).1; simpa using this
    rw [e, Nat.zero_mul, Nat.zero_add, List.getElem?_append_left (by simpa using hc), Array.getElem?_toList]; exact hu
  | y :: r, j + 1, x, h, c, u, hu => by
    have e : flatF (y :: r) = (encF y).toList ++ flatF r := rfl
    have ih := flatF_at (L := r) (j := j) (by simpa using h) c u hu
    rw [e, List.getElem?_append_right (by simp; omega)]
    rw [show (j + 1) * 8 + c - (encF y).toList.length = j * 8 + c by simp; omega]
    exact ih
def FlAt (w : World) (b o : Nat) (x : Fl) : Prop := w.cell? ⟨b, o, none⟩ = some (.int .u32 x.t.src) ∧ w.cell? ⟨b, o + 1, none⟩ = some (.int .u32 x.t.dst) ∧ w.cell? ⟨b, o + 2, none⟩ = some (.int .i64 x.t.proto) ∧ w.cell? ⟨b, o + 3, none⟩ = some (.int .i64 x.t.sport) ∧ w.cell? ⟨b, o + 4, none⟩ = some (.int .i64 x.t.dport) ∧ w.cell? ⟨b, o + 5, none⟩ = some (.int .i64 x.bk) ∧ w.cell? ⟨b, o + 6, none⟩ = some (.int .i64 x.gen) ∧ w.cell? ⟨b, o + 7, none⟩ = some (.int .i64 x.seen)
theorem view_flow {a : Option Addr} {n cap : Nat} {L : List Fl} {w : World} {F : List Nat} (h : ViewA 8 (.slice a n cap) L.length (flatF L) w F) (h0 : 0 < L.length) : ∃ g o, a = some ⟨g, o, none⟩ ∧ ∀ (j : Nat) (x : Fl), L[j]? = some x → FlAt w g (o + j * 8) x := by
  obtain ⟨g, o, rfl, hc⟩ := h.at h0 (by omega)
  refine ⟨g, o, rfl, fun j x hx => ?_⟩
  have key : ∀ c u, (encF x)[c]? = some u → w.cell? ⟨g, o + j * 8 + c, none⟩ = some u := fun c u hu => by rw [Nat.add_assoc]; exact hc _ u (flatF_at hx c u hu)
  exact ⟨key 0 _ rfl, key 1 _ rfl, key 2 _ rfl, key 3 _ rfl, key 4 _ rfl, key 5 _ rfl, key 6 _ rfl, key 7 _ rfl⟩
def SameRel (w : World) (A B : List Fl) (k : Value) (wr : World) : Prop := ∃ (j m : Nat), k = .int .i64 j ∧ j ≤ A.length ∧ A.take j = B.take j ∧ wr = w.drewN m
def SamePost (b : Bool) (w : World) (e : Ending) (w' : World) : Prop := e = .returned (.bool b) ∧ ∃ m, w' = w.drewN m
theorem take_next {A B : List Fl} {j : Nat} {x y : Fl} (h : A.take j = B.take j) (hx : A[j]? = some x) (hy : B[j]? = some y) : (x = y → A.take (j + 1) = B.take (j + 1)) ∧ (x ≠ y → A ≠ B) := by
  constructor
  · rintro rfl; rw [List.take_add_one, List.take_add_one, h, hx, hy]
  · rintro hne rfl; rw [hx] at hy; exact hne (Option.some.inj hy)
theorem sameflows {w : World} {v v' : Value} {A B : List Fl} {F F' : List Nat} (h : ViewA 8 v A.length (flatF A) w F) (h' : ViewA 8 v' B.length (flatF B) w F') :
    Calls Tryz.prog 26 #[v, v'] w (SamePost (decide (A = B)) w) := by
  obtain ⟨a, cap, rfl, l1, l2⟩ := h.shape
  obtain ⟨a', cap', rfl, l3, l4⟩ := h'.shape
  unfold maxLen at l2 l4
  by_cases hlen : A.length = B.length
  · have HV : Hid (0 < A.length → ∃ g o g' o', a = some ⟨g, o, none⟩ ∧ a' = some ⟨g', o', none⟩ ∧ ∀ (j : Nat) (x y : Fl), A[j]? = some x → B[j]? = some y → FlAt w g (o + j * 8) x ∧ FlAt w g' (o' + j * 8) y) := Lib.hid fun h0 => by
      obtain ⟨g, o, e1, c1⟩ := view_flow h h0
      obtain ⟨g', o', e2, c2⟩ := view_flow h' (by omega)
      exact ⟨g, o, g', o', e1, e2, fun j x y hx hy => ⟨c1 j x hx, c2 j y hy⟩⟩
    have HS : Hid (SameRel w A B (.int .i64 0) w) := Lib.hid ⟨0, 0, rfl, Nat.zero_le _, rfl, rfl⟩
    have HLEN := Lib.hid hlen
    have hl2 : ((A.length : Int) != (B.length : Int)) = false := by simp [hlen]
    clear h h' hlen
    have hm : Tryz.prog.eqGuardType Tryz.prog.depth 49 = false := by kernel_rfl
    go_enter Tryz.func26, Tryz.ntmps26
    go_wp2_with fail
    go_loopw [5, 13] (fun _ k wr => SameRel w A B k wr) (fun _ k _ => A.length - (intOf k).toNat)
    case atStart => exact HS.out
    case round =>
      obtain ⟨j, m, rfl, hj, htk, rfl⟩ := hrel
      clear HS hl2
      by_cases hlt : j < A.length
      · obtain ⟨x, hx⟩ : ∃ x, A[j]? = some x := ⟨A[j], List.getElem?_eq_getElem hlt⟩
        obtain ⟨y, hy⟩ : ∃ y, B[j]? = some y := ⟨B[j]'(by have := HLEN.out; omega), List.getElem?_eq_getElem _⟩
        obtain ⟨g, o, g', o', e1, e2, hc⟩ := HV.out (by omega)
        subst e1; subst e2
        obtain ⟨⟨a0, a1, a2, a3, a4, a5, a6, a7⟩, b0, b1, b2, b3, b4, b5, b6, b7⟩ := hc j x y hx hy
        have i1 : (j : Int) < (A.length : Int) := by omega
        have i2 : (j : Int) < (B.length : Int) := by have := HLEN.out; omega
        have HT := Lib.hid (take_next htk hx hy)
        have HN := Lib.hid (fl_neq x y)
        have HR : Hid (x = y → ∀ q, SameRel w A B (.int .i64 (j + 1)) (w.drewN q)) := Lib.hid fun e q => ⟨j + 1, q, by congr 1, by omega, HT.out.1 e, rfl⟩
        clear hx hy htk hc hlt
        by_cases he : x = y
        · have hn : ∀ w, (binOp .neq 49 (.agg (encF x)) (.agg (encF y))).run Tryz.prog w = .ok (.bool false) w := fun w => by rw [HN.out]; simp [he]
          have HE := Lib.hid he
          clear he
          go_wp2_with fail
          go_quiet (fail)
          go_wp2_with fail
          go_roundw
          case rel => exact HR.out HE.out _
          case measure => simp [intOf]; omega
        · have hn : ∀ w, (binOp .neq 49 (.agg (encF x)) (.agg (encF y))).run Tryz.prog w = .ok (.bool true) w := fun w => by rw [HN.out]; simp [he]
          have HE : Hid (A ≠ B) := Lib.hid (HT.out.2 he)
          clear he
          go_wp2_with fail
          go_quiet (fail)
          go_wp2_with fail
          go_ret
          exact ⟨by rw [decide_eq_false HE.out]; rfl, _, World.drewN_drewN _ _ _⟩
      · have hge : (A.length : Int) ≤ (j : Int) := by omega
        have HE : Hid (A = B) := Lib.hid (by
          have : j = A.length := by omega
          subst this
          rw [List.take_length] at htk
          rw [htk, HLEN.out, List.take_length])
        clear hlt htk
        go_wp2_with fail
        go_ret
        exact ⟨by rw [decide_eq_true HE.out]; rfl, _, rfl⟩
  · have HE : Hid (A ≠ B) := Lib.hid (fun e => hlen (by rw [e]))
    have hl2 : ((A.length : Int) != (B.length : Int)) = true := by rw [bne_iff_ne]; omega
    clear h h' hlen
    go_enter Tryz.func26, Tryz.ntmps26
    go_wp2_with fail
    go_ret
    exact ⟨by rw [decide_eq_false HE.out]; rfl, 0, rfl⟩
theorem within_rest {b : List UInt8} {k : Tup} {h : Hd} {rest : List UInt8} (e : withinD b = (k, h, rest, 0)) : (parseD b).2.1 = rest := by
  unfold withinD at e
  rcases hp : parseD b with ⟨hd, r, why⟩
  rw [hp] at e
  unfold withinOf at e
  simp only at e ⊢
  repeat' split at e
  all_goals (simp only [Prod.mk.injEq] at e; first | exact e.2.2.1 | omega)
section
variable {F0 : List Nat} {w0 w : World} {R : List Asrt} {b : List UInt8}
theorem o_r20ends (h : In F0 w0 w R) (t : Tup) {A : Option Addr} {c : Nat} (hb : Bytes F0 w0 R A c b) (hm : b.length ≤ 100000000) :
    Calls Tryz.prog 56 #[.agg (encT t), .slice A b.length c] w fun e w' => e = .returned (.bool (endsD t b)) ∧ In F0 w0 w' R := by
  have h1 := h.cells (encT t) 24
  have K0 := o_r20tuple h1 (hb.more _) hm
  have KP0 := fun w' X Y (h' : In F0 w0 w' (X :: Y :: Cells w.heap.size (encT t) 24 :: R)) => o_r20parse h' ⟨fun W hW => hb.src W hW.drop.drop.drop, hb.nil, hb.ad, hb.cap, hb.room⟩ hm
  have hT := fun k h rest => within_tcp (b := b) (k := k) (h := h) (rest := rest)
  have hR := fun k h rest => within_rest (b := b) (k := k) (h := h) (rest := rest)
  have HE : endsD t b = endsOf t (withinD b) := rfl
  unfold TupPost at K0
  unfold ParsePost at KP0
  generalize withinD b = wd at *
  obtain ⟨k, ⟨a0, a1, a2, a3, a4, a5, a6, a7, a8, a9, a10⟩, rest, why⟩ := wd
  have HT := fun (hw : why = 0) (hk : k.proto = 6) => hT k ⟨a0, a1, a2, a3, a4, a5, a6, a7, a8, a9, a10⟩ rest (by rw [hw]) hk
  have HR := fun (hw : why = 0) => hR k ⟨a0, a1, a2, a3, a4, a5, a6, a7, a8, a9, a10⟩ rest (by rw [hw])
  clear hT hR
  rcases hpd : parseD b with ⟨⟨c0, c1, c2, c3, c4, c5, c6, c7, c8, c9, c10⟩, rest2, why2⟩
  rw [hpd] at KP0 HR
  have ee : encH ⟨a0, a1, a2, a3, a4, a5, a6, a7, a8, a9, a10⟩ = (hC a0 a1 a2 a3 a4 a5 a6 a7 a8 a9 a10) := rfl
  have ee2 : encH ⟨c0, c1, c2, c3, c4, c5, c6, c7, c8, c9, c10⟩ = (hC c0 c1 c2 c3 c4 c5 c6 c7 c8 c9 c10) := rfl
  simp only [ee] at K0
  simp only [ee2] at KP0
  have K := Lib.hid K0
  have KP := Lib.hid KP0
  have HTE := Lib.hid (tup_neq k t)
  have HRS := Lib.hid HR
  have HE2 : Hid (endsD t b = (decide (why = 0) && (decide (k = t) && (decide (k.proto = 6) && decide (byN rest 13 &&& 5 ≠ 0))))) := Lib.hid HE
  obtain ⟨k0, k1, k2, k3, k4⟩ := k
  obtain ⟨t0, t1, t2, t3, t4⟩ := t
  clear h h1 hb hm K0 KP0 ee ee2 HE hpd HR
  go_enter Tryz.func56, Tryz.ntmps56
  go_wp2_with fail
  generalize w.heap.size = gt at *
  refine K.out.mono ?_
  rintro e w1 ⟨rfl, ho⟩
  clear K
  have ho2 := (ho.cells #[.int .u32 k0, .int .u32 k1, .int .i64 k2, .int .i64 k3, .int .i64 k4] 24).cells (hC a0 a1 a2 a3 a4 a5 a6 a7 a8 a9 a10) 84
  simp only [World.size_alloc] at ho2
  clear ho
  go_upto_region 2 with fail
  generalize w1.heap.size = g5 at *
  generalize ((w1.alloc (.cells #[.int .u32 k0, .int .u32 k1, .int .i64 k2, .int .i64 k3, .int .i64 k4] 24)).alloc (.cells (hC a0 a1 a2 a3 a4 a5 a6 a7 a8 a9 a10) 84)) = V at *
  have i0 : V.cell? ⟨g5, 0, none⟩ = some (.int .u32 k0) := cell_of (ho2.block 1 rfl) rfl
  have i1 : V.cell? ⟨g5, 1, none⟩ = some (.int .u32 k1) := cell_of (ho2.block 1 rfl) rfl
  have i2 : V.cell? ⟨g5, 2, none⟩ = some (.int .i64 k2) := cell_of (ho2.block 1 rfl) rfl
  have i3 : V.cell? ⟨g5, 3, none⟩ = some (.int .i64 k3) := cell_of (ho2.block 1 rfl) rfl
  have i4 : V.cell? ⟨g5, 4, none⟩ = some (.int .i64 k4) := cell_of (ho2.block 1 rfl) rfl
  have j0 : V.cell? ⟨gt, 0, none⟩ = some (.int .u32 t0) := cell_of (ho2.block 2 rfl) rfl
  have j1 : V.cell? ⟨gt, 1, none⟩ = some (.int .u32 t1) := cell_of (ho2.block 2 rfl) rfl
  have j2 : V.cell? ⟨gt, 2, none⟩ = some (.int .i64 t2) := cell_of (ho2.block 2 rfl) rfl
  have j3 : V.cell? ⟨gt, 3, none⟩ = some (.int .i64 t3) := cell_of (ho2.block 2 rfl) rfl
  have j4 : V.cell? ⟨gt, 4, none⟩ = some (.int .i64 t4) := cell_of (ho2.block 2 rfl) rfl
  have HO2 := Lib.hid ho2
  clear ho2
  by_cases hw : why = 0
  case neg =>
    have q := Lib.hid (show endsD ⟨t0, t1, t2, t3, t4⟩ b = false by rw [HE2.out, decide_eq_false hw]; rfl)
    have qw : (why != 0) = true := by rw [bne_iff_ne]; exact hw
    clear HT HTE HE2 hw KP HRS
    go_wp2_with fail
    go_ret
    exact ⟨by rw [q.out]; rfl, HO2.out.drop.drop.drop⟩
  have qw : (why != 0) = false := by rw [hw]; rfl
  have HT2 := HT hw
  have HR2 := HRS.out hw
  by_cases hk : (⟨k0, k1, k2, k3, k4⟩ : Tup) = ⟨t0, t1, t2, t3, t4⟩
  case neg =>
    have q := Lib.hid (show endsD ⟨t0, t1, t2, t3, t4⟩ b = false by rw [HE2.out, decide_eq_false hk, Bool.false_and, Bool.and_false])
    have hte := HTE.out
    rw [decide_eq_false hk] at hte
    clear HT HTE HE2 hw HT2 hk KP HRS HR2
    go_wp2_with fail
    go_ret
    exact ⟨by rw [q.out]; rfl, HO2.out.drop.drop.drop⟩
  have hte := HTE.out
  rw [decide_eq_true hk] at hte
  by_cases h6 : k2 = 6
  case neg =>
    have q := Lib.hid (show endsD ⟨t0, t1, t2, t3, t4⟩ b = false by rw [HE2.out, decide_eq_false h6, Bool.false_and, Bool.and_false, Bool.and_false])
    have q6 : (k2 != 6) = true := by rw [bne_iff_ne]; exact h6
    clear HT HTE HE2 hw HT2 hk h6 KP HRS HR2
    go_wp2_with fail
    go_ret
    exact ⟨by rw [q.out]; rfl, HO2.out.drop.drop.drop⟩
  have q6 : (k2 != 6) = false := by rw [h6]; rfl
  have hl := HT2 h6
  have HX : Hid (endsD ⟨t0, t1, t2, t3, t4⟩ b = decide (byN rest 13 &&& 5 ≠ 0)) := Lib.hid (by rw [HE2.out, decide_eq_true hw, decide_eq_true hk, decide_eq_true h6]; rfl)
  have HRL := Lib.hid (And.intro HR2 hl)
  have KQ := Lib.hid (KP.out _ _ _ HO2.out)
  clear HT HTE HE2 hw HT2 hk h6 KP HRS HR2 hl
  go_wp2_with fail
  refine KQ.out.mono ?_
  rintro e w2 ⟨v, rfl, ho⟩
  rw [HRL.out.1] at ho
  obtain ⟨va, vc, rfl⟩ := ByR.shape ho
  have ho3 := ho.cells (hC c0 c1 c2 c3 c4 c5 c6 c7 c8 c9 c10) 84
  have hbb := ByR.bytes 1 rfl ho3
  obtain ⟨g, o, rfl, hc13⟩ : ∃ g o, va = some ⟨g, o, none⟩ ∧ (w2.alloc (.cells (hC c0 c1 c2 c3 c4 c5 c6 c7 c8 c9 c10) 84)).cell? ⟨g, o + 13, none⟩ = some (.int .u8 (byN rest 13)) := by
    obtain ⟨g, o, e, hc⟩ := (hbb.src _ ho3).plain (by have := HRL.out.2; omega) (by decide)
    exact ⟨g, o, e, hc 13 _ (u8s_get (by have := HRL.out.2; omega))⟩
  have hl13 := byN_lt rest 13
  have qb : bits .and .u8 ((byN rest 13 : Nat) : Int) 5 = ((byN rest 13 &&& 5 : Nat) : Int) := bits_and_u8 _ 5 hl13 (by omega)
  have hix : (13 : Int) < (rest.length : Int) := by have := HRL.out.2; omega
  have G := Lib.hid (ho3.sel2 (R1 := [_, _, _, _, _]) (R2 := R) [] (by decide) rfl)
  clear ho ho3 hbb KQ i0 i1 i2 i3 i4 j0 j1 j2 j3 j4 hte qw q6
  generalize byN rest 13 = y at *
  generalize y &&& 5 = z at *
  by_cases hz0 : z = 0
  · have q := Lib.hid (show endsD ⟨t0, t1, t2, t3, t4⟩ b = false by rw [HX.out, decide_eq_false (by omega)])
    have qz : ((z : Int) != 0) = false := by rw [hz0]; rfl
    clear HX hz0
    go_wp2_with fail
    go_ret
    exact ⟨by rw [q.out]; rfl, G.out⟩
  · have q := Lib.hid (show endsD ⟨t0, t1, t2, t3, t4⟩ b = true by rw [HX.out, decide_eq_true (by omega)])
    have qz : ((z : Int) != 0) = true := by rw [bne_iff_ne]; omega
    clear HX hz0
    go_wp2_with fail
    go_ret
    exact ⟨by rw [q.out]; rfl, G.out⟩
end
def wayOf (b : Bk) (m c : Nat) : Nat := (firstN b.id m + c * skipN b.id m) % m
structure CsRow (m : Nat) (t : List Int) (b : Bk) (r : MRow) (c i : Nat) : Prop where
  id : r.id = b.id
  sk : r.skip = skipN b.id m
  le : c ≤ i * m
  at' : (c = 0 ∧ r.at' = firstN b.id m) ∨ (∃ c', c = c' + 1 ∧ r.at' = wayOf b m c' ∧ t.getD r.at' 0 ≠ -1)
structure CsOk (m : Nat) (l : List Bk) (s : List Int × List MRow) (cs : List Nat) (i : Nat) : Prop where
  len : cs.length = l.length
  ge : ∀ x ∈ s.1, -1 ≤ x
  row : ∀ (j : Nat) (b : Bk) (r : MRow) (c : Nat), l[j]? = some b → s.2[j]? = some r → cs[j]? = some c → CsRow m s.1 b r c i
theorem way_step (b : Bk) {m c d : Nat} : wayOf b m (c + d) = (wayOf b m c + d * skipN b.id m) % m := by
  unfold wayOf
  rw [Nat.mod_add_mod, Nat.add_mul, Nat.add_assoc]
theorem cs_step {l : List Bk} {m i : Nat} {s : List Int × List MRow} {cs ks : List Nat} (hm : 3 ≤ m) (h : FillOk m l.length s i) (hi : i < m) (hc : ∀ s, 1 ≤ s → s < m → Cov m s) (hcs : CsOk m l s cs i)
    {j : Nat} {b : Bk} {c : Nat} (hb0 : 0 ≤ b.id) (hj : ks.getD (i % ks.length) 0 = j) (hb : l[j]? = some b) (hcj : cs[j]? = some c) :
    ∃ d, d < m ∧ (∀ e, e < d → s.1.getD (wayOf b m (c + e)) 0 ≠ -1) ∧ s.1.getD (wayOf b m (c + d)) 0 = -1 ∧ (stepM ks s i).1 = s.1.set (wayOf b m (c + d)) b.id ∧ CsOk m l (stepM ks s i) (cs.set j (c + d + 1)) (i + 1) := by
  have hjl : j < l.length := (List.getElem?_eq_some_iff.1 hb).1
  obtain ⟨r, hr⟩ : ∃ r, s.2[j]? = some r := ⟨_, List.getElem?_eq_getElem (by rw [h.rl]; exact hjl)⟩
  have hrow := hcs.row j b r c hb hr hcj
  have hmem := List.mem_of_getElem? hr
  obtain ⟨q1, q2, q3, q4⟩ := h.rows r hmem
  obtain ⟨k, hk, hf⟩ := h.free hi hc hmem
  obtain ⟨d, d1, d2, d3, d4⟩ := goFree_spec (t := s.1) (skip := r.skip) (by rw [h.tl]; omega) k m r.at' hk (by rw [h.tl]; exact hf) (by rw [h.tl]; exact q2)
  rw [h.tl] at d2 d3 d4
  have hfa : freeAt s.1 r = (r.at' + d * r.skip) % m := by unfold freeAt; rw [h.tl]; exact d2
  have hgd : s.2.getD j default = r := by rw [List.getD_eq_getElem?_getD, hr]; rfl
  have hs1 : stepM ks s i = (s.1.set ((r.at' + d * r.skip) % m) b.id, s.2.set j ⟨b.id, (r.at' + d * r.skip) % m, r.skip⟩) := by
    unfold stepM
    simp only [hj, hgd]
    unfold nextT nextR
    rw [hfa, hrow.id]
  have hpl : (r.at' + d * r.skip) % m < s.1.length := by rw [h.tl]; exact Nat.mod_lt _ (by omega)
  -- the way's numbers
  have key : ∃ d', d' < m ∧ (∀ e, e < d' → s.1.getD (wayOf b m (c + e)) 0 ≠ -1) ∧ wayOf b m (c + d') = (r.at' + d * r.skip) % m := by
    rw [hrow.sk] at d3 d4 ⊢
    rcases hrow.at' with ⟨rfl, ha⟩ | ⟨c', rfl, ha, hn⟩
    · have e0 : ∀ e, wayOf b m (0 + e) = (r.at' + e * skipN b.id m) % m := fun e => by unfold wayOf; rw [ha, Nat.zero_add]
      exact ⟨d, by omega, fun e he => by rw [e0]; exact d3 e he, e0 d⟩
    · have e0 : ∀ e, wayOf b m (c' + 1 + e) = (r.at' + (e + 1) * skipN b.id m) % m := fun e => by rw [show c' + 1 + e = c' + (e + 1) by omega, way_step, ha]
      have hd0 : d ≠ 0 := by
        rintro rfl
        rw [Nat.zero_mul, Nat.add_zero, Nat.mod_eq_of_lt q2] at d4
        exact hn d4
      obtain ⟨d', rfl⟩ : ∃ d', d = d' + 1 := ⟨d - 1, by omega⟩
      exact ⟨d', by omega, fun e he => by rw [e0]; exact d3 (e + 1) (by omega), e0 d'⟩
  obtain ⟨d', k1, k2, k3⟩ := key
  refine ⟨d', k1, k2, by rw [k3]; exact d4, by rw [hs1, k3], ?_⟩
  rw [hs1]
  refine ⟨by rw [List.length_set]; exact hcs.len, fun x hx => ?_, fun j' b' r' c' hb' hr' hc' => ?_⟩
  · rcases List.mem_or_eq_of_mem_set hx with hx | rfl
    · exact hcs.ge x hx
    · omega
  by_cases hjj : j' = j
  · subst hjj
    rw [hb] at hb'
    obtain rfl := Option.some.inj hb'
    rw [List.getElem?_set_self (by rw [h.rl]; exact hjl)] at hr'
    obtain rfl := Option.some.inj hr'
    rw [List.getElem?_set_self (by rw [hcs.len]; exact hjl)] at hc'
    obtain rfl := Option.some.inj hc'
    refine ⟨rfl, hrow.sk, ?_, Or.inr ⟨c + d', rfl, by show _ = wayOf b m (c + d'); rw [k3], ?_⟩⟩
    · have := hrow.le; rw [Nat.add_mul]; omega
    · show (s.1.set _ b.id).getD _ 0 ≠ -1
      rw [List.getD_eq_getElem?_getD, List.getElem?_set_self hpl]
      show b.id ≠ -1
      omega
  · rw [List.getElem?_set_ne (Ne.symm hjj)] at hr' hc'
    have h9 := hcs.row j' b' r' c' hb' hr' hc'
    refine ⟨h9.id, h9.sk, by have := h9.le; rw [Nat.add_mul]; omega, ?_⟩
    rcases h9.at' with h8 | ⟨c2, e1, e2, e3⟩
    · exact Or.inl h8
    · refine Or.inr ⟨c2, e1, e2, ?_⟩
      show (s.1.set _ b.id).getD _ 0 ≠ -1
      by_cases hp : (r.at' + d * r.skip) % m = r'.at'
      · rw [hp] at hpl ⊢
        rw [List.getD_eq_getElem?_getD, List.getElem?_set_self hpl]
        show b.id ≠ -1
        omega
      · rw [List.getD_eq_getElem?_getD, List.getElem?_set_ne hp, ← List.getD_eq_getElem?_getD]; exact e3
theorem cs_start (l : List Bk) (m : Nat) (ks : List Nat) : CsOk m l (fillM ks m (rowsM l m) 0) (List.replicate l.length 0) 0 := by
  refine ⟨List.length_replicate, fun x hx => ?_, fun j b r c hb hr hc => ?_⟩
  · have hx' : x ∈ List.replicate m (-1 : Int) := hx
    rw [List.eq_of_mem_replicate hx']; exact Int.le_refl _
  have hr' : (rowsM l m)[j]? = some r := hr
  rw [rowsM, List.getElem?_map, hb] at hr'
  obtain rfl := Option.some.inj hr'
  have hc0 : c = 0 := by
    have := List.mem_of_getElem? hc
    exact List.eq_of_mem_replicate this
  subst hc0
  exact ⟨rfl, rfl, by omega, Or.inl ⟨rfl, rfl⟩⟩
def preM (l : List Bk) (j : Nat) : Nat := (takesM (l.take j) 0).length
theorem preM_succ {l : List Bk} {j : Nat} {b : Bk} (hb : l[j]? = some b) : preM l (j + 1) = preM l j + b.weight.toNat := by
  unfold preM
  rw [List.take_add_one, hb]
  show (takesM (l.take j ++ [b]) 0).length = _
  rw [takesM_snoc, List.length_append, List.length_replicate]
theorem preM_all (l : List Bk) : preM l l.length = (takesM l 0).length := by unfold preM; rw [List.take_length]
theorem takesM_app : ∀ (a b : List Bk) (j : Nat), takesM (a ++ b) j = takesM a j ++ takesM b (j + a.length)
  | [], b, j => by simp [takesM]
  | x :: a, b, j => by
    have := takesM_app a b (j + 1)
    simp only [List.cons_append, takesM, this, List.append_assoc, List.length_cons]
    rw [show j + 1 + a.length = j + (a.length + 1) by omega]
theorem takes_at {l : List Bk} {j k : Nat} {b : Bk} (hb : l[j]? = some b) (hk : k < b.weight.toNat) : (takesM l 0)[preM l j + k]? = some j := by
  have hjl : j < l.length := (List.getElem?_eq_some_iff.1 hb).1
  have e : l = l.take j ++ (b :: l.drop (j + 1)) := by
    have h1 : l.drop j = b :: l.drop (j + 1) := by
      rw [List.drop_eq_getElem_cons hjl]
      congr 1
      rw [List.getElem?_eq_getElem hjl] at hb; exact Option.some.inj hb
    rw [← h1, List.take_append_drop]
  have e2 : takesM l 0 = takesM (l.take j) 0 ++ (List.replicate b.weight.toNat j ++ takesM (l.drop (j + 1)) (j + 1)) := by
    conv => lhs; rw [e]
    rw [takesM_app, takesM, List.length_take, Nat.min_eq_left (by omega), Nat.zero_add]
  rw [e2]
  show (takesM (l.take j) 0 ++ _)[(takesM (l.take j) 0).length + k]? = _
  rw [List.getElem?_append_right (by omega), Nat.add_sub_cancel_left, List.getElem?_append_left (by simpa using hk), List.getElem?_replicate, if_pos hk]
theorem preM_le {l : List Bk} {j k : Nat} {b : Bk} (hb : l[j]? = some b) (hk : k < b.weight.toNat) : preM l j + k < (takesM l 0).length := (List.getElem?_eq_some_iff.1 (takes_at hb hk)).1
theorem takes_mod {l : List Bk} {j k q : Nat} {b : Bk} (hb : l[j]? = some b) (hk : k < b.weight.toNat) : (takesM l 0).getD ((q * (takesM l 0).length + (preM l j + k)) % (takesM l 0).length) 0 = j := by
  rw [Nat.mul_comm, Nat.mul_add_mod, Nat.mod_eq_of_lt (preM_le hb hk), List.getD_eq_getElem?_getD, takes_at hb hk]; rfl
theorem r1_mix {w : World} {A : Option Addr} {bs : List UInt8} {c s : Nat} (h : Src w A bs.length 1 (u8s bs)) (hl : bs.length ≤ 100000000) (hs : s < 4294967296) :
    Calls Tryz.prog 126 #[.int .u32 s, .slice A bs.length c] w fun e w' => e = .returned (.int .u32 (mixN s bs)) ∧ w' = w := by
  have H := Lib.hid h
  have q0 : bits .xor .u32 (s : Int) 2166136261 = ((s ^^^ 2166136261 : Nat) : Int) := bits_xor_u32 s 2166136261 hs (by omega)
  have hs2 := xor_lt32 hs (show 2166136261 < 4294967296 by omega)
  have HS : Hid (MixRel s bs (.int .u32 ((s ^^^ 2166136261 : Nat) : Int)) (.int .i64 0)) := Lib.hid ⟨0, Nat.zero_le _, rfl, rfl⟩
  have HF := Lib.hid (fun i => mixFrom_lt (bs.take i) hs2)
  clear h hs hs2
  go_enter Tryz.func126, Tryz.ntmps126
  go_wp2_with fail
  go_loop [5, 12] (MixRel s bs) (fun _ k => bs.length - (intOf k).toNat)
  case atStart => exact HS.out
  case round =>
    obtain ⟨i, hi, rfl, rfl⟩ := hrel
    have hc := HF.out i
    by_cases hlt : i < bs.length
    · obtain ⟨x, hx⟩ : ∃ x, bs[i]? = some x := ⟨bs[i], List.getElem?_eq_getElem hlt⟩
      obtain ⟨g, o, rfl, hcell⟩ := H.out.plain (by omega) (by decide)
      have c0 := hcell i (.int .u8 x.toNat) (by simp [u8s, hx])
      have hlt' : (i : Int) < (bs.length : Int) := by omega
      have HX : Hid (mixFrom (s ^^^ 2166136261) (bs.take (i + 1)) = (mixFrom (s ^^^ 2166136261) (bs.take i) ^^^ x.toNat) * 16777619 % 4294967296) := Lib.hid (by
        rw [List.take_add_one, hx]; exact mixFrom_snoc _ _ _)
      have hq := bits_xor_u32 _ x.toNat hc (by have := x.toNat_lt; omega)
      have hxl := x.toNat_lt
      clear hx hcell
      generalize mixFrom (s ^^^ 2166136261) (bs.take i) = f at *
      generalize (x.toNat) = xn at *
      have hm := mul_u32 (f ^^^ xn) 16777619
      have HM := Lib.hid hm
      clear hm
      go_wp2_with fail
      go_round
      case rel => exact ⟨i + 1, by omega, by go_num, by rw [HX.out, ← HM.out]; rfl⟩
      case measure => simp [intOf]; omega
    · have hil : i = bs.length := by omega
      subst hil
      rw [List.take_length] at hc ⊢
      have HE : Hid (mixN s bs = mixEnd (mixFrom (s ^^^ 2166136261) bs) ^^^ mixEnd (mixFrom (s ^^^ 2166136261) bs) / 8192) := Lib.hid rfl
      generalize mixFrom (s ^^^ 2166136261) bs = f at *
      have q1 : bits .xor .u32 (f : Int) ((f : Int) / 32768) = ((f ^^^ f / 32768 : Nat) : Int) := by
        have := bits_xor_u32 f (f / 32768) hc (by omega)
        rwa [show (((f / 32768 : Nat) : Nat) : Int) = (f : Int) / 32768 by omega] at this
      have HM : Hid (((f ^^^ f / 32768 : Nat) : Int) * 2246822507 % 4294967296 = ((mixEnd f : Nat) : Int)) := Lib.hid (by
        have := mul_u32 (f ^^^ f / 32768) 2246822507
        rw [show ∀ n, IntKind.u32.wrap n = n % 4294967296 from fun n => by simp [IntKind.wrap, IntKind.bits, IntKind.signed]] at this
        exact this)
      have he := mixEnd_lt f
      have HE2 := Lib.hid he
      clear he
      go_upto_region 9 with fail
      rw [HM.out]
      have he := HE2.out
      generalize mixEnd f = m at *
      have q2 : bits .xor .u32 (m : Int) ((m : Int) / 8192) = ((m ^^^ m / 8192 : Nat) : Int) := by
        have := bits_xor_u32 m (m / 8192) he (by omega)
        rwa [show (((m / 8192 : Nat) : Nat) : Int) = (m : Int) / 8192 by omega] at this
      clear HM HE2 q1
      go_wp2_with fail
      go_ret
      exact ⟨by rw [HE.out]; rfl, rfl⟩
theorem r10_may (m : Nat) (w : World) : Calls Tryz.prog 85 #[.int .i64 m] w fun e w' => e = .returned (.bool (mayM (m : Int))) ∧ w' = w := by
  by_cases h3 : m < 3
  · have HE : Hid (mayM (m : Int) = false) := Lib.hid (mayM_no (by omega))
    have q : (m : Int) < 3 := by omega
    clear h3
    go_enter Tryz.func85, Tryz.ntmps85
    go_wp2_with fail
    go_ret
    exact ⟨by rw [HE.out]; rfl, rfl⟩
  have q3 : decide ((m : Int) < 3) = false := decide_eq_false (by omega)
  by_cases h251 : 251 < m
  · have HE : Hid (mayM (m : Int) = false) := Lib.hid (mayM_no (by omega))
    have q : (251 : Int) < (m : Int) := by omega
    clear h3 h251
    go_enter Tryz.func85, Tryz.ntmps85
    go_wp2_with fail
    go_ret
    exact ⟨by rw [HE.out]; rfl, rfl⟩
  have q4 : decide ((251 : Int) < (m : Int)) = false := decide_eq_false (by omega)
  have H3 := Lib.hid (And.intro h3 h251)
  clear h3 h251
  go_enter Tryz.func85, Tryz.ntmps85
  go_wp2_with fail
  go_loop [3] (MayRel m) (fun v => 17 - (intOf v).toNat)
  case atStart => exact ⟨2, rfl, by omega, by omega, fun j h1 h2 => by omega⟩
  case round =>
    obtain ⟨i, rfl, hi, hi16, hd⟩ := hrel
    have w1 : IntKind.i64.wrap ((i : Int) * (i : Int)) = ((i * i : Nat) : Int) := by
      have : i * i ≤ 16 * 16 := Nat.mul_le_mul hi16 hi16
      rw [← Int.natCast_mul]; exact IntWalk.i64_in _ (by omega)
    by_cases hsq : i * i ≤ m
    · have q5 : ((i * i : Nat) : Int) ≤ (m : Int) := by omega
      have hi15 := sq_le hsq (by have := H3.out; omega)
      have hne : ((i : Int) == 0) = false := beq_eq_false_iff_ne.2 (by omega)
      have hmod : Int.tmod (m : Int) (i : Int) = ((m % i : Nat) : Int) := by rw [Int.tmod_eq_emod_of_nonneg (by omega), Int.natCast_emod]
      by_cases hz : m % i = 0
      · have HE : Hid (mayM (m : Int) = false) := Lib.hid (mayM_div (by have := H3.out; omega) (by have := H3.out; omega) hi hi15 hsq hz)
        rw [hz] at hmod
        clear hd hz hsq
        generalize i * i = ii at *
        go_wp2_with fail
        go_ret
        exact ⟨by rw [HE.out]; rfl, rfl⟩
      · have HN : Hid (∀ j, 2 ≤ j → j < i + 1 → m % j ≠ 0) := Lib.hid (fun j h1 h2 => by
          rcases Nat.lt_or_ge j i with h | h
          · exact hd j h1 h
          · have : j = i := by omega
            subst this; exact hz)
        have hz' : (((m % i : Nat) : Int) == 0) = false := beq_eq_false_iff_ne.2 (by omega)
        clear hd hz hsq
        generalize m % i = mi at *
        generalize i * i = ii at *
        go_wp2_with fail
        go_round
        case rel => exact ⟨i + 1, by go_num, by omega, by omega, HN.out⟩
        case measure => simp [intOf]; omega
    · have q5 : ¬ (((i * i : Nat) : Int) ≤ (m : Int)) := by omega
      have HE : Hid (mayM (m : Int) = true) := Lib.hid (mayM_yes (by have := H3.out; omega) (by have := H3.out; omega) (by omega) hd)
      clear hd hsq
      generalize i * i = ii at *
      go_wp2_with fail
      go_ret
      exact ⟨by rw [HE.out]; rfl, rfl⟩
section
variable {F0 : List Nat} {w0 w : World} {R : List Asrt}
theorem o_r10row (h : In F0 w0 w R) {id : Int} (h0 : 0 ≤ id) (h1 : id < 4294967296) {m : Nat} (hm : mayM (m : Int) = true) :
    Calls Tryz.prog 86 #[.int .i64 id, .int .i64 m] w fun e w' => e = .returned (.tuple #[.int .i64 (firstN id m), .int .i64 (skipN id m)]) ∧ In F0 w0 w' R := by
  have K0 := Lib.hid (r10_may m w)
  rw [hm] at K0
  have hm3 : 3 ≤ m ∧ m ≤ 251 := by
    have := hm
    unfold mayM at this
    rw [Bool.and_eq_true, decide_eq_true_eq] at this
    omega
  have K1 : Hid (Calls Tryz.prog 71 #[.int .u32 id] w fun e w' => ∃ a c, e = .returned (.slice a 4 c) ∧ In F0 w0 w' (ByR (.slice a 4 c) (idB id) :: R)) := Lib.hid (md_u32 h0 h1 h)
  have hid : IntKind.u32.wrap id = id := u32_small h0 h1
  have HF : Hid (firstN id m = mixN 1 (idB id) % m) := Lib.hid rfl
  have HSk : Hid (skipN id m = mixN 2 (idB id) % (m - 1) + 1) := Lib.hid rfl
  have m1 := mixN_lt 1 (idB id)
  have m2 := mixN_lt 2 (idB id)
  have hl : (idB id).length = 4 := by unfold idB; simp [be, beTo_length]
  have KX := Lib.hid (fun (s : Nat) (hs : s < 4294967296) W (A : Option Addr) (c : Nat) (hW : Src W A (idB id).length 1 (u8s (idB id))) => r1_mix (c := c) (s := s) hW (by omega) hs)
  rw [hl] at KX
  have HL := Lib.hid hl
  have hmw : IntKind.u32.wrap (m : Int) = (m : Int) := u32_small (by omega) (by omega)
  have HM := Lib.hid hm3
  clear h h0 h1 hm hl hm3 m1 m2
  generalize idB id = ib at *
  generalize hx1 : mixN 1 ib = x1 at *
  generalize hx2 : mixN 2 ib = x2 at *
  have HX1 := Lib.hid hx1
  have HX2 := Lib.hid hx2
  obtain ⟨p, hp⟩ : ∃ p, m = p + 1 := ⟨m - 1, by have := HM.out; omega⟩
  have hms : IntKind.i64.wrap ((m : Int) - 1) = (p : Int) := by have := HM.out; rw [IntWalk.i64_in _ (by omega)]; omega
  have hpw : IntKind.u32.wrap (p : Int) = (p : Int) := by have := HM.out; exact u32_small (by omega) (by omega)
  have hne : ((m : Int) == 0) = false := beq_eq_false_iff_ne.2 (by have := HM.out; omega)
  have hm0 : ¬ ((m : Int) = 0) := by have := HM.out; omega
  have hp0 : ¬ ((p : Int) = 0) := by have := HM.out; omega
  have hm0' : ¬ (m = 0) := by have := HM.out; omega
  have hp0' : ¬ (p = 0) := by have := HM.out; omega
  have hnp : ((p : Int) == 0) = false := beq_eq_false_iff_ne.2 (by have := HM.out; omega)
  have hr1 : Int.tmod (x1 : Int) (m : Int) = ((x1 % m : Nat) : Int) := by rw [Int.tmod_eq_emod_of_nonneg (by omega), Int.natCast_emod]
  have hr2 : Int.tmod (x2 : Int) (p : Int) = ((x2 % p : Nat) : Int) := by rw [Int.tmod_eq_emod_of_nonneg (by omega), Int.natCast_emod]
  have hlt1 : x1 % m < m := Nat.mod_lt _ (by have := HM.out; omega)
  have hlt2 : x2 % p < p := Nat.mod_lt _ (by have := HM.out; omega)
  have HSk2 : Hid (skipN id m = x2 % p + 1) := Lib.hid (by rw [HSk.out, hp]; rfl)
  generalize x1 % m = y1 at *
  generalize x2 % p = y2 at *
  have HB := Lib.hid (And.intro hlt1 (And.intro hlt2 hp))
  have w1' : IntKind.u32.wrap (y1 : Int) = (y1 : Int) := by have := HM.out; exact u32_small (by omega) (by omega)
  have w2' : IntKind.u32.wrap (y2 : Int) = (y2 : Int) := by have := HM.out; exact u32_small (by omega) (by omega)
  have w1i : IntKind.i64.wrap (y1 : Int) = (y1 : Int) := by have := HM.out; exact IntWalk.i64_in _ (by omega)
  have w2i : IntKind.i64.wrap (y2 : Int) = (y2 : Int) := by have := HM.out; exact IntWalk.i64_in _ (by omega)
  have w3i : IntKind.i64.wrap ((y2 : Int) + 1) = ((y2 + 1 : Nat) : Int) := by have := HM.out; rw [IntWalk.i64_in _ (by omega)]; omega
  have W4 : Hid (wrap64 (y1 : Int) = (y1 : Int)) := Lib.hid (by have := HM.out; unfold wrap64; omega)
  have W5 : Hid (wrap64 ((y2 : Int) + 1) = ((y2 + 1 : Nat) : Int)) := Lib.hid (by have := HM.out; unfold wrap64; omega)
  have W6 : Hid (wrap64 (y2 : Int) = (y2 : Int)) := Lib.hid (by have := HM.out; unfold wrap64; omega)
  clear hx1 hx2 hlt1 hlt2 hp HSk
  go_enter Tryz.func86, Tryz.ntmps86
  go_wp2_with fail
  refine K0.out.mono ?_
  rintro e w1 ⟨rfl, rfl⟩
  clear K0
  go_wp2_with fail
  refine K1.out.mono ?_
  rintro e w2 ⟨a, c, rfl, ho⟩
  have K3 := Lib.hid (fun n => KX.out 1 (by omega) (w2.drewN n) a c (by have := ByR.src (ho.drewN n) 0 rfl; rwa [HL.out] at this))
  have K5 := Lib.hid (fun n => KX.out 2 (by omega) (w2.drewN n) a c (by have := ByR.src (ho.drewN n) 0 rfl; rwa [HL.out] at this))
  rw [HX1.out] at K3
  rw [HX2.out] at K5
  have G := Lib.hid (fun n => (ho.drewN n).drop)
  clear ho K1 KX
  go_upto_region 4 with fail
  go_quiet (first
    | (go_at_call_of 126 (Value.int .u32 1); exact Calls.quiet_of_same (K3.out _))
    | (go_at_call_of 126 (Value.int .u32 2); exact Calls.quiet_of_same (K5.out _)))
  go_wp2_with fail
  go_ret2
  refine ⟨?_, G.out _⟩
  rw [HF.out, HSk2.out]; rfl
end
def blockAt (n : Nat) : Code → Option Code
  | .block m c => match Nat.beq m n with
    | true => some (.block m c)
    | false => blockAt n c
  | .cond _ a b => match blockAt n a with
    | some c => some c
    | none => blockAt n b
  | .seq a b => match blockAt n a with
    | some c => some c
    | none => blockAt n b
  | .loop c => blockAt n c
  | .scope c => blockAt n c
  | _ => none
def nthW : List Value → Nat → Value
  | [], _ => .tuple #[]
  | v :: _, 0 => v
  | _ :: l, n + 1 => nthW l n
theorem meet_w {J : Act → World → Prop} {X : (Nat → Value) → World → Prop} {fr : (Nat → Value) → Act} (hJ : ∀ a' w', (∃ f, X f w' ∧ a' = fr f) → J a' w') {l : List Value} {w : World} (h : X (nthW l) w) (e : (⟨l.toArray, []⟩ : Act) = fr (nthW l)) : Met J ⟨l.toArray, []⟩ w := hJ _ _ ⟨_, h, e⟩
theorem wp_piece {P : Program} {s : Code} {Q : Exit → Act → World → Prop} {a : Act} {w : World} (R : Act → World → Prop) (hK : ∀ a' w', R a' w' → Q .normal a' w')
    (first : ∀ (J K' : Act → World → Prop), (∀ a' w', R a' w' → J a' w') → (∀ a' w', Met J a' w' → K' a' w') → s.wp P (Exit.then K' Q) a w) : s.wp P Q a w := by
  refine wp_mono (first R R (fun _ _ q => q) (fun _ _ q => q)) ?_
  intro e a' w' hq
  cases e with
  | normal => exact hK _ _ hq
  | exit id => exact hq
  | goto l => exact hq
  | ret => exact hq
  | panic ch => exact hq
  | outgrown => exact hq
noncomputable def tbB8 : Code := (Tryz.f47.body.bind (blockAt 8)).getD .skip
noncomputable def tbB6 : Code := (Tryz.f47.body.bind (blockAt 6)).getD .skip
def nI (cs : List Nat) : List Int := cs.map (fun c : Nat => (c : Int))
theorem nI_len (cs : List Nat) : (nI cs).length = cs.length := List.length_map _
theorem nI_set (cs : List Nat) (j x : Nat) : (nI cs).set j (x : Int) = nI (cs.set j x) := by unfold nI; rw [List.map_set]
theorem nI_get {cs : List Nat} {j c : Nat} (h : cs[j]? = some c) : (nI cs).getD j 0 = (c : Int) := by unfold nI; rw [List.getD_eq_getElem?_getD, List.getElem?_map, h]; rfl
abbrev bkC (b : Bk) : Array Value := #[.int .i64 b.id, .int .u32 b.addr, .int .i64 b.weight]
def TbIn (l : List Bk) (m gt gn i : Nat) (cs : List Nat) (F0 : List Nat) (w0 : World) (R : List Asrt) (w : World) : Prop :=
  In F0 w0 w (IR (.slice (some ⟨gt, 0, none⟩) m m) (fillM (takesM l 0) m (rowsM l m) i).1 :: IR (.slice (some ⟨gn, 0, none⟩) l.length l.length) (nI cs) :: R)
end Go.Proofs.YtgapbecddgfkmaaGreat
