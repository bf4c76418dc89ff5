/- Are two frames the same. Are two rows of frames the same. -/
import Derived.Test.YtogclkhpbjfadaaGreatLgO
import Derived.Deep.RegionHeld3
import Derived.LoopTactic
import Derived.StillTailTactics
namespace Go.Proofs.YtogclkhpbjfadaaGreat
open Go.RowKit
set_option linter.unusedVariables false
set_option maxRecDepth 100000

section
variable {F0 : List Nat} {w0 w : World} {R : List Asrt}
set_option maxHeartbeats 8000000 in
theorem o_samefr {f g : FrD} {A B : Option Addr} {c c' : Nat} (h : In F0 w0 w R) (ha : Src w A f.body.length 1 (u8s f.body)) (hb : Src w B g.body.length 1 (u8s g.body)) (ha0 : A = none → f.body.length = 0) (hb0 : B = none → g.body.length = 0) :
    Calls Tryz.prog 85 #[.agg #[.int .i64 f.kind, .int .i64 f.ver, .slice A f.body.length c], .agg #[.int .i64 g.kind, .int .i64 g.ver, .slice B g.body.length c']] w fun e w' => e = .returned (.bool (decide (f.kind = g.kind ∧ f.ver = g.ver ∧ f.body = g.body))) ∧ In F0 w0 w' R := by
  have h2 := (h.cells #[.int .i64 f.kind, .int .i64 f.ver, .slice A f.body.length c] 40).cells #[.int .i64 g.kind, .int .i64 g.ver, .slice B g.body.length c'] 40
  simp only [World.size_alloc] at h2
  have k1 := conv_str (l := f.body) (cap := c) (src_alloc (src_alloc ha (.cells #[.int .i64 f.kind, .int .i64 f.ver, .slice A f.body.length c] 40)) (.cells #[.int .i64 g.kind, .int .i64 g.ver, .slice B g.body.length c'] 40)) ha0
  have k2 := conv_str (l := g.body) (cap := c') (src_alloc (src_alloc hb (.cells #[.int .i64 f.kind, .int .i64 f.ver, .slice A f.body.length c] 40)) (.cells #[.int .i64 g.kind, .int .i64 g.ver, .slice B g.body.length c'] 40)) hb0
  have c0 : ((w.alloc (.cells #[.int .i64 f.kind, .int .i64 f.ver, .slice A f.body.length c] 40)).alloc (.cells #[.int .i64 g.kind, .int .i64 g.ver, .slice B g.body.length c'] 40)).cell? ⟨w.heap.size, 0, none⟩ = some (.int .i64 f.kind) := cell_of (h2.block 1 rfl) rfl
  have c1 : ((w.alloc (.cells #[.int .i64 f.kind, .int .i64 f.ver, .slice A f.body.length c] 40)).alloc (.cells #[.int .i64 g.kind, .int .i64 g.ver, .slice B g.body.length c'] 40)).cell? ⟨w.heap.size, 1, none⟩ = some (.int .i64 f.ver) := cell_of (h2.block 1 rfl) rfl
  have c2 : ((w.alloc (.cells #[.int .i64 f.kind, .int .i64 f.ver, .slice A f.body.length c] 40)).alloc (.cells #[.int .i64 g.kind, .int .i64 g.ver, .slice B g.body.length c'] 40)).cell? ⟨w.heap.size, 2, none⟩ = some (.slice A f.body.length c) := cell_of (h2.block 1 rfl) rfl
  have G := Lib.hid h2.drop.drop
  by_cases e1 : f.kind = g.kind
  · have q1 : ((f.kind : Int) == (g.kind : Int)) = true := by simp [e1]
    by_cases e2 : f.ver = g.ver
    · have q2 : ((f.ver : Int) == (g.ver : Int)) = true := by simp [e2]
      have HD : Hid (decide (f.kind = g.kind ∧ f.ver = g.ver ∧ f.body = g.body) = (f.body == g.body)) := Lib.hid (by by_cases hb : f.body = g.body <;> simp [e1, e2, hb])
      have HB : Hid (((⟨f.body.toArray⟩ : ByteArray).toList == (⟨g.body.toArray⟩ : ByteArray).toList) = (f.body == g.body)) := Lib.hid (by rw [ByteArray.toList_mk, ByteArray.toList_mk])
      clear h h2 ha hb ha0 hb0 e1 e2
      rw [HD.out]
      go_enter Tryz.func85, Tryz.ntmps85
      go_wp2_with fail
      go_ret
      exact ⟨rfl, G.out⟩
    · have q2 : ((f.ver : Int) == (g.ver : Int)) = false := by simp; omega
      have HD : Hid (decide (f.kind = g.kind ∧ f.ver = g.ver ∧ f.body = g.body) = false) := Lib.hid (by simp [e2])
      clear h h2 ha hb ha0 hb0 e1 e2 k1 k2
      rw [HD.out]
      go_enter Tryz.func85, Tryz.ntmps85
      go_wp2_with fail
      go_ret
      exact ⟨rfl, G.out⟩
  · have q1 : ((f.kind : Int) == (g.kind : Int)) = false := by simp; omega
    have HD : Hid (decide (f.kind = g.kind ∧ f.ver = g.ver ∧ f.body = g.body) = false) := Lib.hid (by simp [e1])
    clear h h2 ha hb ha0 hb0 e1 k1 k2
    rw [HD.out]
    go_enter Tryz.func85, Tryz.ntmps85
    go_wp2_with fail
    go_ret
    exact ⟨rfl, G.out⟩
end
end Go.Proofs.YtogclkhpbjfadaaGreat
namespace Go.Proofs.YtogclkhpbjfadaaGreat
open Go.RowKit
set_option linter.unusedVariables false
set_option maxRecDepth 100000

/-- A frame lies at these cells. -/
structure FrCell (w : World) (g o : Nat) (f : FrD) (A : Option Addr) (c : Nat) : Prop where
  kind : w.cell? ⟨g, o, none⟩ = some (.int .i64 f.kind)
  ver : w.cell? ⟨g, o + 1, none⟩ = some (.int .i64 f.ver)
  val : w.cell? ⟨g, o + 2, none⟩ = some (.slice A f.body.length c)
  body : Src w A f.body.length 1 (u8s f.body)
  nil : A = none → f.body.length = 0
/-- Frames are to be read at a. -/
def FrAt (w : World) (a : Option Addr) (fs : List FrD) : Prop := ∀ k f, fs[k]? = some f → ∃ g o A c, a = some ⟨g, o, none⟩ ∧ FrCell w g (o + k * 3) f A c
theorem FrAt.take {w : World} {a : Option Addr} {fs : List FrD} (h : FrAt w a fs) (n : Nat) : FrAt w a (fs.take n) := fun k f hf => by
  rw [List.getElem?_take] at hf
  split at hf
  · exact h k f hf
  · cases hf
theorem bodiesR_at {vs : List Value} {fs : List FrD} {k : Nat} {f : FrD} {v : Value} (h1 : vs[k]? = some v) (h2 : fs[k]? = some f) : (bodiesR vs fs)[k]? = some (bodyA v f) := by
  induction k generalizing vs fs with
  | zero =>
    cases vs with
    | nil => simp at h1
    | cons u vs =>
      cases fs with
      | nil => simp at h2
      | cons g fs => simp at h1 h2; subst h1 h2; rfl
  | succ k ih =>
    cases vs with
    | nil => simp at h1
    | cons u vs =>
      cases fs with
      | nil => simp at h2
      | cons g fs => simp at h1 h2; exact ih h1 h2
theorem frsA_at {w : World} {a : Option Addr} {n c : Nat} {fs : List FrD} {F : List Nat} (h : FrsA (.slice a n c) fs w F) : n = fs.length ∧ FrAt w a fs := by
  obtain ⟨vs, hl, F1, F2, h1, h2, h3, rfl⟩ := h
  refine ⟨h1.at.1, fun k f hf => ?_⟩
  obtain ⟨v, hv⟩ : ∃ v, vs[k]? = some v := ⟨vs[k]'(by have := (List.getElem?_eq_some_iff.1 hf).1; omega), List.getElem?_eq_getElem _⟩
  obtain ⟨e0, e1, e2⟩ := flatFr_at hl hf hv
  obtain ⟨g, rfl, c0⟩ := h1.at.2 _ _ e0
  obtain ⟨g', hg', c1⟩ := h1.at.2 _ _ e1
  cases hg'
  obtain ⟨g', hg', c2⟩ := h1.at.2 _ _ e2
  cases hg'
  obtain ⟨G, hG, _⟩ := star_apart.star_one h2 (bodiesR_at hv hf)
  obtain ⟨A, cv, rfl, -, -, -⟩ := RowA.shape hG
  have hb := RowA.all hG
  refine ⟨g, 0, A, cv, rfl, ?_, ?_, ?_, hb, fun e => ?_⟩
  · simpa using c0
  · simpa using c1
  · simpa using c2
  · subst e
    rcases Nat.eq_zero_or_pos f.body.length with h0 | h0
    · exact h0
    · obtain ⟨ad, e, _⟩ := hb.at' h0
      cases e
theorem Src.drew {w : World} {A : Option Addr} {n k : Nat} {xs : List Value} (h : Src w A n k xs) : Src (w.drewN 1) A n k xs := ⟨h.len, fun h0 => by
  obtain ⟨ad, e, hc⟩ := h.at' h0
  exact ⟨ad, e, fun j u hu => hc j u hu⟩⟩
section
variable {F0 : List Nat} {w0 w : World} {R : List Asrt}
def SameRel (fs gs : List FrD) (F0 : List Nat) (w0 : World) (R : List Asrt) (i : Value) (wr : World) : Prop :=
  ∃ k : Nat, k ≤ fs.length ∧ i = .int .i64 k ∧ fs.take k = gs.take k ∧ In F0 w0 wr R
theorem frd_same {f g : FrD} : decide (f.kind = g.kind ∧ f.ver = g.ver ∧ f.body = g.body) = decide (f = g) := by
  cases f; cases g; simp
set_option maxHeartbeats 8000000 in
theorem o_samefs {fs gs : List FrD} {a b : Option Addr} {ca cb : Nat} (h : In F0 w0 w R) (ha : ∀ w', In F0 w0 w' R → FrAt w' a fs) (hb : ∀ w', In F0 w0 w' R → FrAt w' b gs) (hl : fs.length ≤ 1000000000) (hl2 : gs.length ≤ 1000000000) :
    Calls Tryz.prog 21 #[.slice a fs.length ca, .slice b gs.length cb] w fun e w' => e = .returned (.bool (decide (fs = gs))) ∧ In F0 w0 w' R := by
  by_cases hlen : fs.length = gs.length
  case neg =>
    have q : ((fs.length : Int) != (gs.length : Int)) = true := by rw [bne_iff_ne]; omega
    have HD : Hid (decide (fs = gs) = false) := Lib.hid (by rw [decide_eq_false_iff_not]; exact fun e => hlen (by rw [e]))
    have G := Lib.hid h
    clear h ha hb hlen
    rw [HD.out]
    go_enter Tryz.func21, Tryz.ntmps21
    go_wp2_with fail
    go_ret
    exact ⟨rfl, G.out⟩
  have HA := Lib.hid ha
  have HB := Lib.hid hb
  have HR : Hid (SameRel fs gs F0 w0 R (.int .i64 0) w) := Lib.hid ⟨0, Nat.zero_le _, rfl, rfl, h⟩
  have HLN := Lib.hid hlen
  have q : ((fs.length : Int) != (gs.length : Int)) = false := by simp [hlen]
  clear h ha hb hlen
  go_enter Tryz.func21, Tryz.ntmps21
  go_wp2_with fail
  go_loopw [13] (SameRel fs gs F0 w0 R) (fun k _ => fs.length - (intOf k).toNat)
  case atStart => exact HR.out
  case round =>
    obtain ⟨k, hk, rfl, ht, ho⟩ := hrel
    clear HR
    by_cases hlt : k < fs.length
    · obtain ⟨f, hf⟩ : ∃ f, fs[k]? = some f := ⟨fs[k], List.getElem?_eq_getElem hlt⟩
      obtain ⟨g, hg⟩ : ∃ g, gs[k]? = some g := ⟨gs[k]'(by rw [← HLN.out]; exact hlt), List.getElem?_eq_getElem _⟩
      obtain ⟨ga, oa, Ab, cb1, rfl, x⟩ := HA.out wr ho k f hf
      obtain ⟨gb, ob, Bb, cb2, rfl, y⟩ := HB.out wr ho k g hg
      have KS := Lib.hid (o_samefr (c := cb1) (c' := cb2) (ho.drewN 1) (x.body.drew) (y.body.drew) x.nil y.nil)
      rw [frd_same] at KS
      have c0 := x.kind
      have c1 := x.ver
      have c2 := x.val
      have d0 := y.kind
      have d1 := y.ver
      have d2 := y.val
      have hlt' : (k : Int) < (fs.length : Int) := by omega
      have hltb : (k : Int) < (gs.length : Int) := by have := HLN.out; omega
      have hw2 : wrap64 ((k : Int) + 1) = (k : Int) + 1 := by unfold wrap64; omega
      have HT := Lib.hid (And.intro ht (And.intro hf hg))
      clear ho x y ht hf hg
      by_cases hfg : f = g
      · have HE : Hid (decide (f = g) = true) := Lib.hid (by simp [hfg])
        have HS : Hid (∀ w', In F0 w0 w' R → SameRel fs gs F0 w0 R (.int .i64 ((k : Int) + 1)) w') := Lib.hid fun w' h' => ⟨k + 1, by omega, by go_num, by
          obtain ⟨t1, t2, t3⟩ := HT.out
          rw [List.take_add_one, List.take_add_one, t2, t3, t1, hfg], h'⟩
        rw [HE.out] at KS
        clear hfg HT
        go_wp2_with fail
        go_still_tail 8, (by kernel_rfl)
        change wpList _ _ _ _ _ wr.drew
        go_wp2_with fail
        refine KS.out.mono ?_
        rintro e w1 ⟨rfl, h1⟩
        have HS2 := Lib.hid (HS.out w1 h1)
        clear h1 HS KS
        go_wp2_with fail
        go_roundw
        case rel => (try rw [hw2]); exact HS2.out
        case measure => (try rw [hw2]); simp [intOf]; omega
      · have HE : Hid (decide (f = g) = false) := Lib.hid (by simp [hfg])
        have HD : Hid (decide (fs = gs) = false) := Lib.hid (by
          rw [decide_eq_false_iff_not]
          obtain ⟨t1, t2, t3⟩ := HT.out
          intro e; rw [e, t3] at t2; exact hfg (Option.some.inj t2).symm)
        rw [HE.out] at KS
        clear hfg HT
        go_wp2_with fail
        go_still_tail 8, (by kernel_rfl)
        change wpList _ _ _ _ _ wr.drew
        go_wp2_with fail
        refine KS.out.mono ?_
        rintro e w1 ⟨rfl, h1⟩
        have G := Lib.hid h1
        clear h1 KS
        go_wp2_with fail
        go_ret
        exact ⟨by rw [HD.out]; rfl, G.out⟩
    · have hge : (fs.length : Int) ≤ (k : Int) := by omega
      obtain rfl : k = fs.length := by omega
      have HD : Hid (decide (fs = gs) = true) := Lib.hid (by
        rw [decide_eq_true_iff]
        rw [List.take_length, HLN.out, List.take_length] at ht
        exact ht)
      have G := Lib.hid ho
      clear ho ht hlt
      go_wp2_with fail
      go_ret
      exact ⟨by rw [HD.out]; rfl, G.out⟩
end
end Go.Proofs.YtogclkhpbjfadaaGreat
