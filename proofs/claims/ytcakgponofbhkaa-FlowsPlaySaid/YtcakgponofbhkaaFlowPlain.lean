/- Rows of flows that came in; what tables of flows become, as plain lists. -/
import Derived.Test.YtcakgponofbhkaaFlowArgs
import Derived.Test.YtcakgponofbhkaaFlowRows
import Derived.Test.YtcakgponofbhkaaFlowAll
namespace Go.Proofs.Ytcakgponofbhkaa
open Go.RowKit Go.ChangeShapes Go.WideShapes
set_option linter.unusedVariables false
set_option maxRecDepth 100000

/-- A slice of flows that came in. -/
structure ArgFl (w : World) (a : Option Addr) (len cap : Nat) (L : List Fl) : Prop where
  length : L.length = len
  room : len ≤ cap
  most : cap ≤ maxLen
  wf : ∀ x ∈ L, WfF x
  at' : len = 0 ∨ ∃ b o, a = some ⟨b, o, none⟩ ∧ b < w.heap.size ∧ ∀ (i : Nat) (x : Fl), L[i]? = some x → FlAt w b (o + i * 8) x
theorem ArgFl.of {w : World} {a : Option Addr} {len cap : Nat} {ps : List (List Int)} (h : ArgRows [.u32, .u32, .i64, .i64, .i64, .i64, .i64, .i64] w a len cap ps) : ∃ L, ArgFl w a len cap L := by
  have one : ∀ i, i < ps.length → ∃ f : Fl, encK [.u32, .u32, .i64, .i64, .i64, .i64, .i64, .i64] (ps.getD i []) = (encF f).toList ∧ WfF f := fun i hi => by
    obtain ⟨h1, h2⟩ := h.shape ps[i] (List.getElem_mem hi)
    obtain ⟨f, _, e, wf⟩ := fl_of h1 h2
    exact ⟨f, by simpa [List.getD, hi] using e, wf⟩
  obtain ⟨L, hl, hL⟩ := exists_list ps.length one
  refine ⟨L, by rw [hl, h.length], h.room, h.most, fun x hx => ?_, ?_⟩
  · obtain ⟨i, hi, rfl⟩ := List.mem_iff_getElem.1 hx
    exact (hL i hi).2
  · rcases h.at' with h0 | ⟨b, o, rfl, hb, hc⟩
    · exact Or.inl h0
    · refine Or.inr ⟨b, o, rfl, hb, fun i x hx => ?_⟩
      obtain ⟨hi, rfl⟩ := List.getElem?_eq_some_iff.1 hx
      have e := (hL i hi).1
      have hi' : i < ps.length := by omega
      have hp : ps[i]? = some ps[i] := List.getElem?_eq_getElem hi'
      have e' : encK [.u32, .u32, .i64, .i64, .i64, .i64, .i64, .i64] ps[i] = (encF L[i]).toList := by simpa [List.getD, hi'] using e
      have key : ∀ c u, (encF L[i])[c]? = some u → w.cell? ⟨b, o + i * 8 + c, none⟩ = some u := fun c u hu => by
        rw [Nat.add_assoc]; exact hc i _ hp c u (by rw [e', Array.getElem?_toList]; exact hu)
      exact ⟨key 0 _ rfl, key 1 _ rfl, key 2 _ rfl, key 3 _ rfl, key 4 _ rfl, key 5 _ rfl, key 6 _ rfl, key 7 _ rfl⟩
theorem openFlows' {H : Type} {enc : TypeId × Value → H} {w : World} {base : Nat} {spare : Nat → Bool} {held : Bool} {a : Option Addr} {len cap : Nat} {d : DataW H} {p : List MemPlace}
    (h : DataW.Trod enc Try.prog w base spare held 51 (.slice a len cap) d p) : ∃ L, ArgFl w a len cap L := by
  obtain ⟨ps, hp⟩ := openFlows h
  exact ArgFl.of hp
theorem ArgFl.read {w : World} {a : Option Addr} {len cap : Nat} {L : List Fl} (h : ArgFl w a len cap L) {i : Nat} (hi : i < len) : ∃ b o x, a = some ⟨b, o, none⟩ ∧ b < w.heap.size ∧ L[i]? = some x ∧ WfF x ∧ FlAt w b (o + i * 8) x := by
  have hl := h.length
  rcases h.at' with h0 | ⟨b, o, rfl, hb, hc⟩
  · omega
  · have hx : L[i]? = some L[i] := List.getElem?_eq_getElem (by omega)
    exact ⟨b, o, _, rfl, hb, hx, h.wf _ (List.getElem_mem _), hc i _ hx⟩
theorem FlAt.old {w0 w : World} {R : List Asrt} (h : Own w0 w R) {b o : Nat} {x : Fl} (hb : b < w0.heap.size) (hx : FlAt w0 b o x) : FlAt w b o x := by
  obtain ⟨a0, a1, a2, a3, a4, a5, a6, a7⟩ := hx
  exact ⟨(h.old hb _).trans a0, (h.old hb _).trans a1, (h.old hb _).trans a2, (h.old hb _).trans a3, (h.old hb _).trans a4, (h.old hb _).trans a5, (h.old hb _).trans a6, (h.old hb _).trans a7⟩

/-! ### plain -/
theorem putF_err (most : Int) (L : List Fl) (f : Fl) : ((putF most L f).2.2 = 1 ∧ (putF most L f).2.1 = false ∧ (putF most L f).1 = L) ∨ ((putF most L f).2.2 = 9 ∧ (putF most L f).2.1 = false ∧ (putF most L f).1 = L) ∨ ((putF most L f).2.2 = 0 ∧ (putF most L f).2.1 = (atF L f.t).isNone ∧ (putF most L f).1 = insF f (delF f.t L) ∧ MayF f ∧ (atF L f.t ≠ none ∨ (L.length : Int) < most)) := by
  unfold putF
  split
  · exact Or.inl ⟨rfl, rfl, rfl⟩
  · rename_i h1
    split
    · exact Or.inr (Or.inl ⟨rfl, rfl, rfl⟩)
    · rename_i h2
      refine Or.inr (Or.inr ⟨rfl, rfl, rfl, Decidable.not_not.1 h1, ?_⟩)
      by_cases h : atF L f.t = none
      · right; simp only [h, true_and, Int.not_le] at h2; exact h2
      · exact Or.inl h
theorem putF_mem {most : Int} {L : List Fl} {f x : Fl} (h : x ∈ (putF most L f).1) : x = f ∨ (x ∈ L ∧ ((putF most L f).2.2 = 0 → x.t ≠ f.t)) := by
  rcases putF_err most L f with ⟨e, _, e1⟩ | ⟨e, _, e1⟩ | ⟨e, _, e1, _⟩
  · rw [e1] at h; right; exact ⟨h, fun e0 => by rw [e] at e0; cases e0⟩
  · rw [e1] at h; right; exact ⟨h, fun e0 => by rw [e] at e0; cases e0⟩
  · rw [e1] at h
    rcases List.mem_cons.1 ((insF_perm f _).mem_iff.1 h) with rfl | h
    · exact Or.inl rfl
    · exact Or.inr ⟨(delF_mem.1 h).1, fun _ => (delF_mem.1 h).2⟩
theorem atF_ins {L : List Fl} {f : Fl} : atF (insF f (delF f.t L)) f.t = some f := by
  have hn : ∀ y ∈ delF f.t L, y.t ≠ f.t := fun y hy => (delF_mem.1 hy).2
  generalize delF f.t L = M at *
  induction M with
  | nil => simp [insF, atF]
  | cons y r ih =>
    unfold insF
    split
    · unfold atF
      rw [List.find?_cons]
      simp only [hn y (by simp), decide_false]
      exact ih (fun z hz => hn z (List.mem_cons_of_mem _ hz))
    · simp [atF]
theorem delF_none {L : List Fl} {t : Tup} (h : atF L t = none) : delF t L = L := List.filter_eq_self.2 (fun x hx => by simp [notT, atF_none.1 h x hx])
theorem delF_ins {L : List Fl} {f : Fl} : (delF f.t (insF f (delF f.t L))).Perm (delF f.t L) := by
  unfold delF
  refine ((insF_perm f _).filter _).trans ?_
  rw [List.filter_cons, if_neg (by simp [notT]), List.filter_filter]
  simp
theorem sortF_of {L M : List Fl} (hp : M.Perm L) (hk : (L.map (·.t)).Nodup) : sortF M = sortF L := sort_eq ((sortF_perm M).trans hp) hk (sortF_row M)
theorem touchF_cases (L : List Fl) (t : Tup) (now : Int) : (atF L t = none ∧ touchF L t now = (L, false)) ∨ (∃ f, atF L t = some f ∧ f.t = t ∧ (touchF L t now = (L, true) ∨ touchF L t now = (insF { f with seen := now } (delF t L), true))) := by
  unfold touchF
  cases h : atF L t with
  | none => left; exact ⟨rfl, rfl⟩
  | some f =>
    right
    refine ⟨f, rfl, by have := List.find?_some h; simpa using this, ?_⟩
    simp only
    split
    · exact Or.inr rfl
    · exact Or.inl rfl
/-- What is touched, dropped. -/
theorem touch_del (L : List Fl) (t : Tup) (now : Int) : (atF (touchF L t now).1 t).isSome = (atF L t).isSome ∧ (delF t (touchF L t now).1).Perm (delF t L) := by
  rcases touchF_cases L t now with ⟨e, e1⟩ | ⟨f, e, rfl, e1 | e1⟩
  · rw [e1]; exact ⟨rfl, List.Perm.refl _⟩
  · rw [e1]; exact ⟨rfl, List.Perm.refl _⟩
  · rw [e1, e]
    have h1 := atF_ins (L := L) (f := { f with seen := now })
    have h2 := delF_ins (L := L) (f := { f with seen := now })
    exact ⟨by simp only [h1]; rfl, h2⟩
theorem ok_put {most : Int} {L : List Fl} (h : OkF most L) {f : Fl} (wf : WfT f.t) : OkF most (putF most L f).1 := by
  rcases putF_err most L f with ⟨_, _, e1⟩ | ⟨_, _, e1⟩ | ⟨_, _, e1, mf, hr⟩
  · rw [e1]; exact h
  · rw [e1]; exact h
  · rw [e1]; exact ok_set h wf mf hr
theorem o_fl0 {F0 : List Nat} {w0 w : World} {R : List Asrt} {fb : Nat} {f : Fl} (h : In F0 w0 w R) (i : Nat) (hA : R[i]? = some (Cells fb (encF f) 59)) : w.cell? ⟨fb, 0, none⟩ = some (.int .u32 f.t.src) ∧ w.cell? ⟨fb, 1, none⟩ = some (.int .u32 f.t.dst) ∧ w.cell? ⟨fb, 2, none⟩ = some (.int .i64 f.t.proto) ∧ w.cell? ⟨fb, 3, none⟩ = some (.int .i64 f.t.sport) ∧ w.cell? ⟨fb, 4, none⟩ = some (.int .i64 f.t.dport) ∧ w.cell? ⟨fb, 5, none⟩ = some (.int .i64 f.bk) ∧ w.cell? ⟨fb, 6, none⟩ = some (.int .i64 f.gen) ∧ w.cell? ⟨fb, 7, none⟩ = some (.int .i64 f.seen) :=
  ⟨cell_of (h.block i hA) rfl, cell_of (h.block i hA) rfl, cell_of (h.block i hA) rfl, cell_of (h.block i hA) rfl, cell_of (h.block i hA) rfl, cell_of (h.block i hA) rfl, cell_of (h.block i hA) rfl, cell_of (h.block i hA) rfl⟩
/-- A number, cut down. -/
def cutU (n m : Int) : Int := wrap64 ((IntKind.u64.wrap n).tmod m)
theorem cutU_bd (n : Int) {m : Int} (h0 : 0 < m) (h1 : m ≤ 1000000) : 0 ≤ cutU n m ∧ cutU n m < m := by
  unfold cutU
  have hw : 0 ≤ IntKind.u64.wrap n := by rw [u64_eq]; omega
  rw [Int.tmod_eq_emod_of_nonneg hw]
  have e1 := Int.emod_nonneg (IntKind.u64.wrap n) (show m ≠ 0 by omega)
  have e2 := Int.emod_lt_of_pos (IntKind.u64.wrap n) h0
  have : wrap64 (IntKind.u64.wrap n % m) = IntKind.u64.wrap n % m := by
    generalize IntKind.u64.wrap n % m = z at *
    unfold wrap64; omega
  rw [this]; exact ⟨e1, e2⟩
end Go.Proofs.Ytcakgponofbhkaa
