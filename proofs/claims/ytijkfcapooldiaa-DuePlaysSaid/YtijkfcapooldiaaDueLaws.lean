/- What the statements of this layer share: two rows of texts held against each other; keys that every program must know. -/
import Derived.Test.YtijkfcapooldiaaDueDue
namespace Go.Proofs.Ytijkfcapooldiaa
open Go.RowKit
set_option linter.unusedVariables false
set_option maxRecDepth 100000

theorem Strs.shape {w : World} {v : Value} {l : List ByteArray} (h : Strs w v l) : ∃ a cap, v = .slice a l.length cap ∧ l.length ≤ cap ∧ cap ≤ maxLen ∧ ∀ i (hi : i < l.length), ∃ b, a = some ⟨b, 0, none⟩ ∧ w.cell? ⟨b, i, none⟩ = some (.string l[i]) := by
  obtain ⟨h1, h2⟩ := h
  rcases h2 with ⟨rfl, h2⟩ | ⟨g, cap, cur, rfl, _, h3, h4, h5, h6, h7⟩
  · exact ⟨none, 0, by rw [h2], by omega, Nat.zero_le _, fun i hi => by omega⟩
  · refine ⟨_, cap, rfl, h4, h5, fun i hi => ⟨g, rfl, cell_of h3 ?_⟩⟩
    have : (cur.toList.take (l.length * 1))[i]? = (l.map Value.string)[i]? := by rw [h7]
    rw [List.getElem?_take, if_pos (by omega), Array.getElem?_toList] at this
    rw [this]; simp [hi]

def SamePost (l l' : List ByteArray) (w : World) (e : Ending) (w' : World) : Prop := e = .returned (.bool (decide (l = l'))) ∧ Drawn w w'
def SameRel (l l' : List ByteArray) (w : World) (v : Value) (wr : World) : Prop := ∃ k : Nat, v = .int .i64 k ∧ k ≤ l.length ∧ l.take k = l'.take k ∧ Drawn w wr

theorem take_succ_eq {l l' : List ByteArray} {k : Nat} (h1 : k < l.length) (h2 : k < l'.length) (ht : l.take k = l'.take k) (he : l[k] = l'[k]) : l.take (k + 1) = l'.take (k + 1) := by
  rw [List.take_succ_eq_append_getElem h1, List.take_succ_eq_append_getElem h2, ht, he]

set_option maxHeartbeats 1000000 in
theorem same_any {w : World} {v v' : Value} {l l' : List ByteArray} (h : Strs w v l) (h' : Strs w v' l') : Calls Try.prog 15 #[v, v'] w (SamePost l l' w) := by
  obtain ⟨a, cap, rfl, hc1, hc2, hcell⟩ := h.shape
  obtain ⟨a', cap', rfl, hd1, hd2, hcell'⟩ := h'.shape
  clear h h'
  unfold maxLen at hc2 hd2
  by_cases hl : l.length = l'.length
  · have HS : Hid (SameRel l l' w (.int .i64 0) w) := Lib.hid ⟨0, rfl, Nat.zero_le _, rfl, 0, rfl⟩
    have hb : ((l.length : Int) != (l'.length : Int)) = false := by simp; omega
    have Hl := Lib.hid hl
    have HC := Lib.hid hcell
    have HC' := Lib.hid hcell'
    have hle : l.length ≤ 9223372036854775807 := by omega
    clear hl hcell hcell'
    go_enter Try.func15, Try.ntmps15
    go_wp2_with fail
    go_loopw [13] (SameRel l l' w) (fun v _ => l.length - (intOf v).toNat)
    case atStart => exact HS.out
    case round =>
      obtain ⟨k, rfl, hk, ht, m, rfl⟩ := hrel
      by_cases hlt : k < l.length
      · obtain ⟨b, rfl, cb⟩ := HC.out k hlt
        obtain ⟨b', rfl, cb'⟩ := HC'.out k (by have := Hl.out; omega)
        have hlt' : k < l'.length := by have := Hl.out; omega
        have hi1 : (k : Int) < (l'.length : Int) := by omega
        have hi2 : (k : Int) < (l.length : Int) := by omega
        by_cases he : l[k] = l'[k]
        · have HR : Hid (∀ m, SameRel l l' w (.int .i64 (k + 1)) (w.drewN m)) := Lib.hid fun m => ⟨k + 1, by congr 1, by omega, take_succ_eq hlt hlt' ht he, m, rfl⟩
          rw [← he] at cb'
          generalize l[k] = s at *
          clear he ht
          go_wp2_with fail
          go_quiet (fail)
          go_wp2_with fail
          go_roundw
          case rel => exact HR.out _
          case measure => simp [intOf]; omega
        · have HR : Hid (∀ m, SamePost l l' w (.returned (.bool false)) (w.drewN m)) := Lib.hid fun m => ⟨by
            have : ¬ l = l' := by rintro rfl; exact he rfl
            simp [this], m, rfl⟩
          generalize l[k] = s at *
          generalize l'[k] = s' at *
          have hn : (s.toList == s'.toList) = false := by
            simp; intro e; rw [toList_data, toList_data] at e; exact he (ba_ext e)
          clear he ht
          go_wp2_with fail
          go_quiet (fail)
          go_wp2_with fail
          go_ret
          have hr := HR.out (m + nq)
          rw [← World.drewN_drewN] at hr
          exact hr
      · have HR : Hid (∀ m, SamePost l l' w (.returned (.bool true)) (w.drewN m)) := Lib.hid fun m => ⟨by
          have e1 := List.take_of_length_le (l := l) (i := k) (by omega)
          have e2 := List.take_of_length_le (l := l') (i := k) (by have := Hl.out; omega)
          have : l = l' := by rw [← e1, ← e2]; exact ht
          simp [this], m, rfl⟩
        have hge : (l.length : Int) ≤ (k : Int) := by omega
        clear ht hlt
        go_wp2_with fail
        go_ret
        exact HR.out _
  · have HR : Hid (∀ m, SamePost l l' w (.returned (.bool false)) (w.drewN m)) := Lib.hid fun m => ⟨by
      have : ¬ l = l' := by rintro rfl; exact hl rfl
      simp [this], m, rfl⟩
    have hb : ((l.length : Int) != (l'.length : Int)) = true := by simp; omega
    clear hl hcell hcell'
    go_enter Try.func15, Try.ntmps15
    go_wp2_with fail
    go_ret
    exact HR.out 0

def kA : ByteArray := ⟨#[97]⟩
def kB : ByteArray := ⟨#[98]⟩
def kC : ByteArray := ⟨#[99]⟩
theorem setS_ok {S : List KT} {k : ByteArray} {t : Int} (h0 : 0 ≤ t) (h1 : t ≤ 1099511627776) (hl : S.length < 1024) : setS S k t = (ins (k, t) (delS k S), 0) := by
  rw [setS, if_neg (by omega), if_neg (by omega)]
theorem awake1 : setS [] kB 5 = ([(kB, 5)], 0) := by decide +kernel
theorem awake2 : setS [(kB, 5)] kA 5 = ([(kA, 5), (kB, 5)], 0) := by decide +kernel
theorem awake3 : setS [(kA, 5), (kB, 5)] kC 9 = ([(kA, 5), (kB, 5), (kC, 9)], 0) := by decide +kernel
theorem awake4 : dueK [(kA, 5), (kB, 5), (kC, 9)] 5 = [kA, kB] ∧ dueR [(kA, 5), (kB, 5), (kC, 9)] 5 = [(kC, 9)] := by decide +kernel

def TruePost (w : World) (e : Ending) (w' : World) : Prop := e = .returned (.bool true) ∧ Mod [] w w'

/-- A queue of the call's own: its blocks are new. -/
def OwnQ (w0 : World) (w : World) (bq : Nat) (S : List KT) : Prop := ∃ F, IsQ w bq S F ∧ (∀ b ∈ F, w0.heap.size ≤ b) ∧ Mod [] w0 w
theorem ownQ_new {w0 w w' : World} (hm : Mod [] w0 w) {e : Ending} (h : NewPost w e w') : ∃ bq, e = .returned (.pointer (some ⟨bq, 0, none⟩)) ∧ OwnQ w0 w' bq [] := by
  obtain ⟨bq, F, he, hq, hF, hmm⟩ := h
  have := hm.size
  exact ⟨bq, he, F, hq, fun b hb => by have := hF b hb; omega, hm.trans' hmm⟩
theorem own_post {w0 w w' : World} {bq : Nat} {S' : List KT} {F : List Nat} {r : Value} {e : Ending} (hF : ∀ b ∈ F, w0.heap.size ≤ b) (hm : Mod [] w0 w) (hp : QPost bq S' F r w e w') : e = .returned r ∧ OwnQ w0 w' bq S' := by
  obtain ⟨he, ⟨F', hq', hg⟩, hmod⟩ := hp
  have := hm.size
  exact ⟨he, F', hq', fun b hb => by rcases hg b hb with h1 | h1; exact hF b h1; omega, hm.trans hmod (fun b hb => Or.inr (hF b hb))⟩
theorem OwnQ.mod {w0 w : World} {bq : Nat} {S : List KT} (h : OwnQ w0 w bq S) : Mod [] w0 w := h.choose_spec.2.2
theorem own_set {w0 w : World} {bq : Nat} {S : List KT} (h : OwnQ w0 w bq S) {k : ByteArray} (hk : k.size ≤ maxLen) (t : Int) :
    Calls Try.prog 10 #[.pointer (some ⟨bq, 0, none⟩), .string k, .int .i64 t] w fun e w' => e = .returned (.int .i64 (setS S k t).2) ∧ OwnQ w0 w' bq (setS S k t).1 := by
  obtain ⟨F, hq, hF, hm⟩ := h
  exact (qset hq hk t).mono fun e w' hp => own_post hF hm hp
theorem own_drop {w0 w : World} {bq : Nat} {S : List KT} (h : OwnQ w0 w bq S) {k : ByteArray} (hk : k.size ≤ maxLen) :
    Calls Try.prog 17 #[.pointer (some ⟨bq, 0, none⟩), .string k] w fun e w' => e = .returned (.bool (atS S k).isSome) ∧ OwnQ w0 w' bq (delS k S) := by
  obtain ⟨F, hq, hF, hm⟩ := h
  exact (qdrop hq hk).mono fun e w' hp => own_post hF hm hp
theorem own_new {w0 w : World} (hm : Mod [] w0 w) : Calls Try.prog 9 #[] w fun e w' => ∃ bq, e = .returned (.pointer (some ⟨bq, 0, none⟩)) ∧ OwnQ w0 w' bq [] :=
  (qnew w).mono fun e w' h => ownQ_new hm h
theorem OwnQ.drewN {w0 w : World} {bq : Nat} {S : List KT} (h : OwnQ w0 w bq S) (m : Nat) : OwnQ w0 (w.drewN m) bq S := by
  obtain ⟨F, hq, hF, hm⟩ := h
  exact ⟨F, hq.keep (fun _ _ => rfl), hF, hm.drewN m⟩
theorem own_len {w0 w : World} {bq : Nat} {S : List KT} (h : OwnQ w0 w bq S) : Calls Try.prog 11 #[.pointer (some ⟨bq, 0, none⟩)] w fun e w' => e = .returned (.int .i64 S.length) ∧ w = w' := by
  obtain ⟨F, hq, hF, hm⟩ := h
  exact qlen hq
theorem own_at {w0 w : World} {bq : Nat} {S : List KT} (h : OwnQ w0 w bq S) {k : ByteArray} (hk : k.size ≤ maxLen) :
    Calls Try.prog 16 #[.pointer (some ⟨bq, 0, none⟩), .string k] w (AtPost (atS S k) w) := by
  obtain ⟨F, hq, hF, hm⟩ := h
  exact qat hq hk
/-- .. of 'Due': the keys lie apart from the queue. -/
theorem own_due {w0 w : World} {bq : Nat} {S : List KT} (h : OwnQ w0 w bq S) (now : Int) :
    Calls Try.prog 12 #[.pointer (some ⟨bq, 0, none⟩), .int .i64 now] w fun e w' => ∃ v, e = .returned v ∧ Strs w' v (dueK S now) ∧ OwnQ w0 w' bq (dueR S now) := by
  obtain ⟨F, hq, hF, hm⟩ := h
  refine (qdue hq now).mono fun e w' hp => ?_
  obtain ⟨v, he, hs, hn, F', hq', hg, _⟩ := hp.ret
  have := hm.size
  exact ⟨v, he, hs, F', hq', fun b hb => by rcases hg b hb with h1 | h1; exact hF b h1; omega, hm.trans hp.mod (fun b hb => Or.inr (hF b hb))⟩

set_option maxRecDepth 100000 in
set_option maxHeartbeats 1000000 in
theorem awake_any (w : World) : Calls Try.prog 13 #[] w (TruePost w) := by
  have hS : ∀ k, k = kA ∨ k = kB ∨ k = kC → k.size ≤ maxLen := by rintro k (rfl | rfl | rfl) <;> decide +kernel
  have e1 : ∀ w1 bq, OwnQ w w1 bq [] → Calls Try.prog 10 #[.pointer (some ⟨bq, 0, none⟩), .string ⟨#[98]⟩, .int .i64 5] w1 fun e w' => e = .returned (.int .i64 0) ∧ OwnQ w w' bq [(kB, 5)] := by
    intro w1 bq h; have := own_set h (hS kB (by simp)) 5; rwa [awake1] at this
  have e2 : ∀ w1 bq, OwnQ w w1 bq [(kB, 5)] → Calls Try.prog 10 #[.pointer (some ⟨bq, 0, none⟩), .string ⟨#[97]⟩, .int .i64 5] w1 fun e w' => e = .returned (.int .i64 0) ∧ OwnQ w w' bq [(kA, 5), (kB, 5)] := by
    intro w1 bq h; have := own_set h (hS kA (by simp)) 5; rwa [awake2] at this
  have e3 : ∀ w1 bq, OwnQ w w1 bq [(kA, 5), (kB, 5)] → Calls Try.prog 10 #[.pointer (some ⟨bq, 0, none⟩), .string ⟨#[99]⟩, .int .i64 9] w1 fun e w' => e = .returned (.int .i64 0) ∧ OwnQ w w' bq [(kA, 5), (kB, 5), (kC, 9)] := by
    intro w1 bq h; have := own_set h (hS kC (by simp)) 9; rwa [awake3] at this
  have e4 : ∀ w1 bq, OwnQ w w1 bq [(kA, 5), (kB, 5), (kC, 9)] → Calls Try.prog 12 #[.pointer (some ⟨bq, 0, none⟩), .int .i64 5] w1 fun e w' =>
      ∃ b cap, e = .returned (.slice (some ⟨b, 0, none⟩) 2 cap) ∧ 2 ≤ cap ∧ w'.cell? ⟨b, 0, none⟩ = some (.string ⟨#[97]⟩) ∧ w'.cell? ⟨b, 1, none⟩ = some (.string ⟨#[98]⟩) ∧ OwnQ w w' bq [(kC, 9)] := by
    intro w1 bq h
    refine (own_due h 5).mono fun e w' ⟨v, he, hs, ho⟩ => ?_
    rw [awake4.1] at hs
    rw [awake4.2] at ho
    obtain ⟨a, cap, rfl, hc, _, hcell⟩ := hs.shape
    obtain ⟨b, rfl, c0⟩ := hcell 0 (by simp)
    obtain ⟨b', hb', c1⟩ := hcell 1 (by simp)
    cases hb'
    exact ⟨b, cap, he, hc, c0, c1, ho⟩
  have H1 := Lib.hid e1
  have H2 := Lib.hid e2
  have H3 := Lib.hid e3
  have H4 := Lib.hid e4
  clear e1 e2 e3 e4 hS
  go_enter Try.func13, Try.ntmps13
  go_wp2_with fail
  refine (own_new (Mod.refl [] w)).mono ?_
  rintro e w1 ⟨bq, rfl, ho⟩
  have ho := Lib.hid ho
  go_wp2_with fail
  refine (H1.out _ _ ho.out).mono ?_
  rintro e w2 ⟨rfl, ho2⟩
  have ho2 := Lib.hid ho2
  go_wp2_with fail
  refine (H2.out _ _ ho2.out).mono ?_
  rintro e w3 ⟨rfl, ho3⟩
  have ho3 := Lib.hid ho3
  go_wp2_with fail
  refine (H3.out _ _ ho3.out).mono ?_
  rintro e w4 ⟨rfl, ho4⟩
  have ho4 := Lib.hid ho4
  go_wp2_with fail
  refine (H4.out _ _ ho4.out).mono ?_
  rintro e w5 ⟨b, cap, rfl, hc, c0, c1, ho5⟩
  have hl := Lib.hid (own_len ho5)
  have ho5 := Lib.hid ho5
  go_wp2_with fail
  refine hl.out.mono ?_
  rintro e w6 ⟨rfl, rfl⟩
  go_wp2_with fail
  go_ret
  exact ⟨rfl, ho5.out.mod⟩
end Go.Proofs.Ytijkfcapooldiaa
