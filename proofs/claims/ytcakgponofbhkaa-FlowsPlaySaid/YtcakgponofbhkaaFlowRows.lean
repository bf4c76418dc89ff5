/- Rows of flows, held against each other. -/
import Derived.Test.YtcakgponofbhkaaFlowSame
import Derived.Test.YtcakgponofbhkaaView
namespace Go.Proofs.Ytcakgponofbhkaa
open Go.RowKit
set_option linter.unusedVariables false
set_option maxRecDepth 100000

theorem fl_neq (s t : Fl) (w : World) : (binOp .neq 59 (.agg (encF s)) (.agg (encF t))).run Try.prog w = .ok (.bool (!decide (s = t))) w := by
  have h := fl_eq s t w
  rw [run_eql_struct] at h
  rw [run_neq_struct]
  revert h
  generalize (Sem.run _ _ _) = r
  intro h
  cases r with
  | ok b w' =>
    simp [Result.andThen] at h ⊢
    exact ⟨by rw [h.1], h.2⟩
  | halt x w' => simp [Result.andThen] at h
theorem tup_neq (s t : Tup) (w : World) : (binOp .neq 57 (.agg (encT s)) (.agg (encT t))).run Try.prog w = .ok (.bool (!decide (s = t))) w := by
  have h := tup_eq s t w
  rw [run_eql_struct] at h
  rw [run_neq_struct]
  revert h
  generalize (Sem.run _ _ _) = r
  intro h
  cases r with
  | ok b w' =>
    simp [Result.andThen] at h ⊢
    exact ⟨by rw [h.1], h.2⟩
  | halt x w' => simp [Result.andThen] at h
theorem flatF_length (L : List Fl) : (flatF L).length = L.length * 8 := by
  induction L with
  | nil => rfl
  | cons x r ih =>
    have e : flatF (x :: r) = (encF x).toList ++ flatF r := rfl
    rw [e, List.length_append, ih]; simp; omega
theorem flatF_at : ∀ {L : List Fl} {j : Nat} {x : Fl}, L[j]? = some x → ∀ (c : Nat) (u : Value), (encF x)[c]? = some u → (flatF L)[j * 8 + c]? = some u
  | [], j, x, h, c, u, hu => by simp at h
  | y :: r, 0, x, h, c, u, hu => by
    simp at h; subst h
    have e : flatF (y :: r) = (encF y).toList ++ flatF r := rfl
    have hc : c < 8 := by have := (Array.getElem?_eq_some_iff.1 hu).1; simpa using this
    rw [e, Nat.zero_mul, Nat.zero_add, List.getElem?_append_left (by simpa using hc), Array.getElem?_toList]; exact hu
  | y :: r, j + 1, x, h, c, u, hu => by
    have e : flatF (y :: r) = (encF y).toList ++ flatF r := rfl
    have ih := flatF_at (L := r) (j := j) (by simpa using h) c u hu
    rw [e, List.getElem?_append_right (by simp; omega)]
    rw [show (j + 1) * 8 + c - (encF y).toList.length = j * 8 + c by simp; omega]
    exact ih
/-- The cells of a flow, where it lies. -/
def FlAt (w : World) (b o : Nat) (x : Fl) : Prop := w.cell? ⟨b, o, none⟩ = some (.int .u32 x.t.src) ∧ w.cell? ⟨b, o + 1, none⟩ = some (.int .u32 x.t.dst) ∧ w.cell? ⟨b, o + 2, none⟩ = some (.int .i64 x.t.proto) ∧ w.cell? ⟨b, o + 3, none⟩ = some (.int .i64 x.t.sport) ∧ w.cell? ⟨b, o + 4, none⟩ = some (.int .i64 x.t.dport) ∧ w.cell? ⟨b, o + 5, none⟩ = some (.int .i64 x.bk) ∧ w.cell? ⟨b, o + 6, none⟩ = some (.int .i64 x.gen) ∧ w.cell? ⟨b, o + 7, none⟩ = some (.int .i64 x.seen)
theorem view_flow {a : Option Addr} {n cap : Nat} {L : List Fl} {w : World} {F : List Nat} (h : ViewA 8 (.slice a n cap) L.length (flatF L) w F) (h0 : 0 < L.length) : ∃ g o, a = some ⟨g, o, none⟩ ∧ ∀ (j : Nat) (x : Fl), L[j]? = some x → FlAt w g (o + j * 8) x := by
  obtain ⟨g, o, rfl, hc⟩ := h.at h0 (by omega)
  refine ⟨g, o, rfl, fun j x hx => ?_⟩
  have key : ∀ c u, (encF x)[c]? = some u → w.cell? ⟨g, o + j * 8 + c, none⟩ = some u := fun c u hu => by rw [Nat.add_assoc]; exact hc _ u (flatF_at hx c u hu)
  exact ⟨key 0 _ rfl, key 1 _ rfl, key 2 _ rfl, key 3 _ rfl, key 4 _ rfl, key 5 _ rfl, key 6 _ rfl, key 7 _ rfl⟩
def SameRel (w : World) (A B : List Fl) (k : Value) (wr : World) : Prop := ∃ (j m : Nat), k = .int .i64 j ∧ j ≤ A.length ∧ A.take j = B.take j ∧ wr = w.drewN m
def SamePost (b : Bool) (w : World) (e : Ending) (w' : World) : Prop := e = .returned (.bool b) ∧ ∃ m, w' = w.drewN m
theorem take_next {A B : List Fl} {j : Nat} {x y : Fl} (h : A.take j = B.take j) (hx : A[j]? = some x) (hy : B[j]? = some y) : (x = y → A.take (j + 1) = B.take (j + 1)) ∧ (x ≠ y → A ≠ B) := by
  constructor
  · rintro rfl; rw [List.take_add_one, List.take_add_one, h, hx, hy]
  · rintro hne rfl; rw [hx] at hy; exact hne (Option.some.inj hy)
set_option maxHeartbeats 8000000 in
theorem sameflows {w : World} {v v' : Value} {A B : List Fl} {F F' : List Nat} (h : ViewA 8 v A.length (flatF A) w F) (h' : ViewA 8 v' B.length (flatF B) w F') :
    Calls Try.prog 31 #[v, v'] w (SamePost (decide (A = B)) w) := by
  obtain ⟨a, cap, rfl, l1, l2⟩ := h.shape
  obtain ⟨a', cap', rfl, l3, l4⟩ := h'.shape
  unfold maxLen at l2 l4
  by_cases hlen : A.length = B.length
  · have HV : Hid (0 < A.length → ∃ g o g' o', a = some ⟨g, o, none⟩ ∧ a' = some ⟨g', o', none⟩ ∧ ∀ (j : Nat) (x y : Fl), A[j]? = some x → B[j]? = some y → FlAt w g (o + j * 8) x ∧ FlAt w g' (o' + j * 8) y) := Lib.hid fun h0 => by
      obtain ⟨g, o, e1, c1⟩ := view_flow h h0
      obtain ⟨g', o', e2, c2⟩ := view_flow h' (by omega)
      exact ⟨g, o, g', o', e1, e2, fun j x y hx hy => ⟨c1 j x hx, c2 j y hy⟩⟩
    have HS : Hid (SameRel w A B (.int .i64 0) w) := Lib.hid ⟨0, 0, rfl, Nat.zero_le _, rfl, rfl⟩
    have HLEN := Lib.hid hlen
    have hl2 : ((A.length : Int) != (B.length : Int)) = false := by simp [hlen]
    clear h h' hlen
    have hm : Try.prog.eqGuardType Try.prog.depth 59 = false := by kernel_rfl
    go_enter Try.func31, Try.ntmps31
    go_wp2_with fail
    go_loopw [5, 13] (fun _ k wr => SameRel w A B k wr) (fun _ k _ => A.length - (intOf k).toNat)
    case atStart => exact HS.out
    case round =>
      obtain ⟨j, m, rfl, hj, htk, rfl⟩ := hrel
      clear HS hl2
      by_cases hlt : j < A.length
      · obtain ⟨x, hx⟩ : ∃ x, A[j]? = some x := ⟨A[j], List.getElem?_eq_getElem hlt⟩
        obtain ⟨y, hy⟩ : ∃ y, B[j]? = some y := ⟨B[j]'(by have := HLEN.out; omega), List.getElem?_eq_getElem _⟩
        obtain ⟨g, o, g', o', e1, e2, hc⟩ := HV.out (by omega)
        subst e1; subst e2
        obtain ⟨⟨a0, a1, a2, a3, a4, a5, a6, a7⟩, b0, b1, b2, b3, b4, b5, b6, b7⟩ := hc j x y hx hy
        have i1 : (j : Int) < (A.length : Int) := by omega
        have i2 : (j : Int) < (B.length : Int) := by have := HLEN.out; omega
        have HT := Lib.hid (take_next htk hx hy)
        have HN := Lib.hid (fl_neq x y)
        have HR : Hid (x = y → ∀ q, SameRel w A B (.int .i64 (j + 1)) (w.drewN q)) := Lib.hid fun e q => ⟨j + 1, q, by congr 1, by omega, HT.out.1 e, rfl⟩
        clear hx hy htk hc hlt
        by_cases he : x = y
        · have hn : ∀ w, (binOp .neq 59 (.agg (encF x)) (.agg (encF y))).run Try.prog w = .ok (.bool false) w := fun w => by rw [HN.out]; simp [he]
          have HE := Lib.hid he
          clear he
          go_wp2_with fail
          go_quiet (fail)
          go_wp2_with fail
          go_roundw
          case rel => exact HR.out HE.out _
          case measure => simp [intOf]; omega
        · have hn : ∀ w, (binOp .neq 59 (.agg (encF x)) (.agg (encF y))).run Try.prog w = .ok (.bool true) w := fun w => by rw [HN.out]; simp [he]
          have HE : Hid (A ≠ B) := Lib.hid (HT.out.2 he)
          clear he
          go_wp2_with fail
          go_quiet (fail)
          go_wp2_with fail
          go_ret
          exact ⟨by rw [decide_eq_false HE.out]; rfl, _, World.drewN_drewN _ _ _⟩
      · have hge : (A.length : Int) ≤ (j : Int) := by omega
        have HE : Hid (A = B) := Lib.hid (by
          have : j = A.length := by omega
          subst this
          rw [List.take_length] at htk
          rw [htk, HLEN.out, List.take_length])
        clear hlt htk
        go_wp2_with fail
        go_ret
        exact ⟨by rw [decide_eq_true HE.out]; rfl, _, rfl⟩
  · have HE : Hid (A ≠ B) := Lib.hid (fun e => hlen (by rw [e]))
    have hl2 : ((A.length : Int) != (B.length : Int)) = true := by rw [bne_iff_ne]; omega
    clear h h' hlen
    go_enter Try.func31, Try.ntmps31
    go_wp2_with fail
    go_ret
    exact ⟨by rw [decide_eq_false HE.out]; rfl, 0, rfl⟩
end Go.Proofs.Ytcakgponofbhkaa
