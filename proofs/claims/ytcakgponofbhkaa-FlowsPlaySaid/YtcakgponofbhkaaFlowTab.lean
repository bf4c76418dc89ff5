/- A table of flows in memory: the row that it stands for. -/
import Derived.Test.YtcakgponofbhkaaFlowRep
import Derived.Deep.RegionHeld3
import Derived.StillTailTactics
import Derived.BigQuiet
import Derived.Deep.QuietTactic
namespace Go.Proofs.Ytcakgponofbhkaa
open Go.RowKit
open Go.Maps (Keyed)
set_option linter.unusedVariables false
set_option maxRecDepth 100000

theorem strLawT : Keyed Try.prog 9 := Keyed.of_law (Go.WideMaps.string_law Try.underlying9)
abbrev vT (x : Fl) : Value := .agg (encT x.t)
abbrev vF (x : Fl) : Value := .agg (encF x)
abbrev vK (x : Fl) : Value := .string (keyT x.t)
abbrev FM (bm : Nat) (L : List Fl) : Asrt := TabA Try.prog 57 vT vF bm L
abbrev KM (bk : Nat) (L : List Fl) : Asrt := TabA Try.prog 9 vK vT bk L
def encQ (x : Fl) : KT := (keyT x.t, x.seen)
/-- Such flows may stand in a table. -/
structure OkF (most : Int) (L : List Fl) : Prop where
  wf : ∀ x ∈ L, WfT x.t
  may : ∀ x ∈ L, MayF x
  keys : (L.map (·.t)).Nodup
  room : (L.length : Int) ≤ most
  most : most ≤ 256
def FRQ (bt : Nat) (most idle : Int) (bm bk bq : Nat) (L : List Fl) (Q : List KT) : List Asrt :=
  [Cells bt #[.int .i64 most, .int .i64 idle, .map (some bm), .map (some bk), .pointer (some ⟨bq, 0, none⟩)] 105, FM bm L, KM bk L, QA bq Q]
theorem FRQ.framed {bt : Nat} {most idle : Int} {bm bk bq : Nat} {L : List Fl} {Q : List KT} : ∀ A ∈ FRQ bt most idle bm bk bq L Q, Framed A := by
  intro A hA
  simp only [FRQ, List.mem_cons, List.not_mem_nil, or_false] at hA
  rcases hA with rfl | rfl | rfl | rfl
  · exact Cells.framed _ _ _
  · exact TabA.framed _ _
  · exact TabA.framed _ _
  · exact QA.framed _ _
/-- The table at bt, its maps as L says, its queue as Q. -/
def FAQ (bt : Nat) (most idle : Int) (L : List Fl) (Q : List KT) : Asrt := fun w F => ∃ bm bk bq, OkF most L ∧ Star (FRQ bt most idle bm bk bq L Q) w F
theorem FAQ.framed (bt : Nat) (most idle : Int) (L : List Fl) (Q : List KT) : Framed (FAQ bt most idle L Q) := by
  refine ⟨?_, ?_⟩
  · rintro w w' F ⟨bm, bk, bq, h1, h2⟩ hk; exact ⟨bm, bk, bq, h1, (Framed.star FRQ.framed).keep h2 hk⟩
  · rintro w F ⟨bm, bk, bq, h1, h2⟩; exact (Framed.star FRQ.framed).lt h2
abbrev FR (bt : Nat) (most idle : Int) (bm bk bq : Nat) (L : List Fl) : List Asrt := FRQ bt most idle bm bk bq L (L.map encQ)
theorem FR.framed {bt : Nat} {most idle : Int} {bm bk bq : Nat} {L : List Fl} : ∀ A ∈ FR bt most idle bm bk bq L, Framed A := FRQ.framed
/-- The table at bt stands for L, by when each was seen, then by its key. -/
abbrev FA (bt : Nat) (most idle : Int) (L : List Fl) : Asrt := FAQ bt most idle L (L.map encQ)
theorem FA.framed (bt : Nat) (most idle : Int) (L : List Fl) : Framed (FA bt most idle L) := FAQ.framed _ _ _ _ _

/-! ### plain -/
def notT (t : Tup) (x : Fl) : Bool := decide (x.t ≠ t)
def delF (t : Tup) (L : List Fl) : List Fl := L.filter (notT t)
def atF (L : List Fl) (t : Tup) : Option Fl := L.find? (fun x => decide (x.t = t))
def insF (x : Fl) : List Fl → List Fl
  | [] => [x]
  | y :: r => if klt (encQ y) (encQ x) = true then y :: insF x r else x :: y :: r
theorem insF_enc (x : Fl) : ∀ L, (insF x L).map encQ = ins (encQ x) (L.map encQ)
  | [] => rfl
  | y :: r => by
    unfold insF
    rw [List.map_cons, ins]
    split
    · rw [List.map_cons, insF_enc x r]
    · rfl
theorem insF_perm (x : Fl) : ∀ L, (insF x L).Perm (x :: L)
  | [] => List.Perm.refl _
  | y :: r => by
    unfold insF
    split
    · exact ((insF_perm x r).cons y).trans (List.Perm.swap x y r)
    · exact List.Perm.refl _
theorem delF_mem {t : Tup} {L : List Fl} {x : Fl} : x ∈ delF t L ↔ x ∈ L ∧ x.t ≠ t := by simp [delF, notT]
theorem delF_enc {t : Tup} (wt : WfT t) (mt : MayT t) : ∀ {L : List Fl}, (∀ x ∈ L, WfT x.t) → (∀ x ∈ L, MayF x) → (delF t L).map encQ = delS (keyT t) (L.map encQ)
  | [], _, _ => rfl
  | y :: r, hw, hm => by
    have ih := delF_enc wt mt (L := r) (fun x hx => hw x (List.mem_cons_of_mem _ hx)) (fun x hx => hm x (List.mem_cons_of_mem _ hx))
    have hy := hw y (by simp)
    have my := (hm y (by simp)).t
    unfold delF delS at *
    rw [List.map_cons, List.filter_cons, List.filter_cons]
    by_cases e : y.t = t
    · have h1 : notT t y = false := by simp [notT, e]
      have h2 : (encQ y).1 = keyT t := by show keyT y.t = _; rw [e]
      simp only [h1, h2, ne_eq, not_true_eq_false, decide_false, Bool.false_eq_true, if_false]
      exact ih
    · have h1 : notT t y = true := by simp [notT, e]
      have h2 : (encQ y).1 ≠ keyT t := fun h => e (keyT_inj hy wt my mt h)
      simp only [h1, h2, ne_eq, not_false_eq_true, decide_true, if_true, List.map_cons, ih]
theorem atF_none {L : List Fl} {t : Tup} : atF L t = none ↔ ∀ x ∈ L, x.t ≠ t := by simp [atF]
theorem atF_some {L : List Fl} {t : Tup} {f : Fl} (hk : (L.map (·.t)).Nodup) : atF L t = some f ↔ f ∈ L ∧ f.t = t := by
  constructor
  · intro h
    refine ⟨List.mem_of_find?_eq_some h, ?_⟩
    have := List.find?_some h
    simpa using this
  · rintro ⟨h1, h2⟩
    induction L with
    | nil => simp at h1
    | cons y r ih =>
      obtain ⟨n1, n2⟩ := List.nodup_cons.1 hk
      unfold atF at *
      rw [List.find?_cons]
      rcases List.mem_cons.1 h1 with rfl | h1
      · simp [h2]
      · have : y.t ≠ t := fun e => n1 (by show y.t ∈ _; rw [e, ← h2]; exact List.mem_map_of_mem (f := fun x : Fl => x.t) h1)
        simp only [this, decide_false]
        exact ih n2 h1
theorem nodup_vT {L : List Fl} (h : (L.map (·.t)).Nodup) : (L.map vT).Nodup := by
  unfold List.Nodup at *
  rw [List.pairwise_map] at *
  refine h.imp (fun {x y} hne e => hne ?_)
  obtain ⟨⟨a1, a2, a3, a4, a5⟩, _, _, _⟩ := x
  obtain ⟨⟨b1, b2, b3, b4, b5⟩, _, _, _⟩ := y
  simp [vT, encT] at e
  simp [e]
theorem vT_inj {x y : Fl} (h : vT x = vT y) : x.t = y.t := by
  obtain ⟨⟨a1, a2, a3, a4, a5⟩, _, _, _⟩ := x
  obtain ⟨⟨b1, b2, b3, b4, b5⟩, _, _, _⟩ := y
  simp [vT, encT] at h
  simp [h]
theorem nodup_vK {most : Int} {L : List Fl} (h : OkF most L) : (L.map vK).Nodup := by
  have hk := h.keys
  unfold List.Nodup at *
  rw [List.pairwise_map] at *
  refine hk.imp_of_mem (fun {x y} hx hy hne e => hne ?_)
  simp only [vK, Value.string.injEq] at e
  exact keyT_inj (h.wf x hx) (h.wf y hy) (h.may x hx).t (h.may y hy).t e
theorem notT_vT {t : Tup} {L : List Fl} : ∀ x ∈ L, notT t x = true ↔ vT x ≠ .agg (encT t) := by
  intro x _
  unfold notT
  rw [decide_eq_true_eq]
  constructor
  · intro h e; exact h (vT_inj (y := ⟨t, 0, 0, 0⟩) e)
  · intro h e; exact h (by rw [← e])
theorem notT_vK {most : Int} {t : Tup} {L : List Fl} (h : OkF most L) (wt : WfT t) (mt : MayT t) : ∀ x ∈ L, notT t x = true ↔ vK x ≠ .string (keyT t) := by
  intro x hx
  unfold notT
  rw [decide_eq_true_eq]
  constructor
  · intro hn e
    simp only [vK, Value.string.injEq] at e
    exact hn (keyT_inj (h.wf x hx) wt (h.may x hx).t mt e)
  · intro hn e; exact hn (by rw [← e])
end Go.Proofs.Ytcakgponofbhkaa
