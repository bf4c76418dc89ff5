/- Rows.PathPlaysSaid -/
import Derived.Test.YtgapbecddgfkmaaGreatPY7
import Derived.Test.YtgapbecddgfkmaaGreatPY8
import Derived.Shelf.Abstract
import Derived.Deep.MidRow
import Derived.Laws.ResultCell
import Derived.Test.YtgapbecddgfkmaaGreatPY4
import Derived.Deep.DeepCutAuto
import Derived.StillTailTactics
import Derived.Test.YtgapbecddgfkmaaGreatPY3
namespace Go.Proofs.YtgapbecddgfkmaaGreat
open Go.RowKit
set_option linter.unusedVariables false
set_option maxHeartbeats 64000000
set_option maxRecDepth 100000
def recN (l : List Rec) : List Value := (l.map (fun r => encRL r (.slice none 0 0))).flatten
abbrev RecR (v : Value) (l : List Rec) : Asrt := RowA 54 14 v l.length (recN l)
section
variable {F0 : List Nat} {w0 w : World} {R : List Asrt} {bt : Nat} {most idle : Int} {L : List Fl}
def KeepPost (r : List Rec × List Fl) (bt : Nat) (most idle : Int) (i : Nat) (F0 : List Nat) (w0 : World) (R : List Asrt) (e : Ending) (w' : World) : Prop := ∃ v, e = .returned v ∧ In F0 w0 w' (RecR v r.1 :: R.set i (FA bt most idle r.2))
theorem rec_one (h : In F0 w0 w R) (r : Rec) : In F0 w0 (w.alloc (.cells (encRL r (.slice none 0 0)).toArray 54)) (RecR (.slice (some ⟨w.heap.size, 0, none⟩) 1 1) [r] :: R) := by
  have h1 := (h.cells (encRL r (.slice none 0 0)).toArray 54).rowFull 0 (n := 1) (k := 14) rfl (by rfl) (by unfold maxLen; omega)
  have e : (encRL r (.slice none 0 0)).toArray.toList = recN [r] := by simp [recN]
  rw [e] at h1
  exact h1
theorem o_pakeep (h : In F0 w0 w R) (i : Nat) (hA : R[i]? = some (FA bt most idle L)) {f : Fl} (wf : WfT f.t) (known : Bool) (was : Int) (ends : Bool) :
    Calls Tryz.prog 43 #[.pointer (some ⟨bt, 0, none⟩), .agg (encF f), .bool known, .int .i64 was, .bool ends] w (KeepPost (keepD most L f known was ends) bt most idle i F0 w0 R) := by
  have hR : R.set i (FA bt most idle L) = R := set_same hA
  have hi := (List.getElem?_eq_some_iff.1 hA).1
  have h1 := h.cells (encF f) 49
  have hA1 : (Cells w.heap.size (encF f) 49 :: R)[i + 1]? = some (FA bt most idle L) := by simpa using hA
  cases ends with
  | true =>
    cases known with
    | false =>
      have e : keepD most L f false was true = ([], L) := rfl
      have G : Hid (KeepPost ([], L) bt most idle i F0 w0 R (.returned (.slice none 0 0)) (w.alloc (.cells (encF f) 49))) := Lib.hid ⟨_, rfl, by
        rw [hR]; exact (h1.drop).rownil _ _⟩
      rw [e]
      obtain ⟨⟨k0, k1, k2, k3, k4⟩, bk, gen, seen⟩ := f
      clear e h h1 hA hA1 hR wf
      go_enter Tryz.func43, Tryz.ntmps43
      go_wp2_with fail
      go_ret
      exact G.out
    | true =>
      have e : keepD most L f true was true = ([delRec f.t], delF f.t L) := rfl
      have K := Lib.hid (o_fdrop h1 (i + 1) hA1 wf)
      rw [e]
      have hb1 := h1.block 0 rfl
      obtain ⟨⟨k0, k1, k2, k3, k4⟩, bk, gen, seen⟩ := f
      have c0 : (w.alloc (.cells #[.int .u32 k0, .int .u32 k1, .int .i64 k2, .int .i64 k3, .int .i64 k4, .int .i64 bk, .int .i64 gen, .int .i64 seen] 49)).cell? ⟨w.heap.size, 0, none⟩ = some (.int .u32 k0) := cell_of hb1 rfl
      have c1 : (w.alloc (.cells #[.int .u32 k0, .int .u32 k1, .int .i64 k2, .int .i64 k3, .int .i64 k4, .int .i64 bk, .int .i64 gen, .int .i64 seen] 49)).cell? ⟨w.heap.size, 1, none⟩ = some (.int .u32 k1) := cell_of hb1 rfl
      have c2 : (w.alloc (.cells #[.int .u32 k0, .int .u32 k1, .int .i64 k2, .int .i64 k3, .int .i64 k4, .int .i64 bk, .int .i64 gen, .int .i64 seen] 49)).cell? ⟨w.heap.size, 2, none⟩ = some (.int .i64 k2) := cell_of hb1 rfl
      have c3 : (w.alloc (.cells #[.int .u32 k0, .int .u32 k1, .int .i64 k2, .int .i64 k3, .int .i64 k4, .int .i64 bk, .int .i64 gen, .int .i64 seen] 49)).cell? ⟨w.heap.size, 3, none⟩ = some (.int .i64 k3) := cell_of hb1 rfl
      have c4 : (w.alloc (.cells #[.int .u32 k0, .int .u32 k1, .int .i64 k2, .int .i64 k3, .int .i64 k4, .int .i64 bk, .int .i64 gen, .int .i64 seen] 49)).cell? ⟨w.heap.size, 4, none⟩ = some (.int .i64 k4) := cell_of hb1 rfl
      have eg : ∀ args w, (callFunc 84 args).run Tryz.prog w = .ok (.enter 84 args) w := enters_of Tryz.func84 (by kernel_rfl) rfl
      clear e h h1 hA hA1 hR wf hb1
      go_enter Tryz.func43, Tryz.ntmps43
      go_wp2_with fail
      generalize w.heap.size = g at *
      refine K.out.mono ?_
      rintro e w1 ⟨rfl, ho⟩
      have hb1 := ho.block 0 rfl
      have d0 : w1.cell? ⟨g, 0, none⟩ = some (.int .u32 k0) := cell_of hb1 rfl
      have d1 : w1.cell? ⟨g, 1, none⟩ = some (.int .u32 k1) := cell_of hb1 rfl
      have d2 : w1.cell? ⟨g, 2, none⟩ = some (.int .i64 k2) := cell_of hb1 rfl
      have d3 : w1.cell? ⟨g, 3, none⟩ = some (.int .i64 k3) := cell_of hb1 rfl
      have d4 : w1.cell? ⟨g, 4, none⟩ = some (.int .i64 k4) := cell_of hb1 rfl
      have G := Lib.hid (rec_one ho.drop (delRec ⟨k0, k1, k2, k3, k4⟩))
      clear ho K hb1 c0 c1 c2 c3 c4
      go_wp2_with fail
      go_ret
      exact ⟨_, rfl, G.out⟩
  | false =>
    by_cases hk : known = true ∧ was = f.bk
    · have e : keepD most L f known was false = ([], (touchF L f.t f.seen).1) := by unfold keepD; rw [if_neg (by simp), if_pos hk]
      have K := Lib.hid (o_ftouch h1 (i + 1) hA1 wf f.seen)
      rw [e]
      obtain ⟨rfl, rfl⟩ := hk
      have hb1 := h1.block 0 rfl
      obtain ⟨⟨k0, k1, k2, k3, k4⟩, bk, gen, seen⟩ := f
      have c0 : (w.alloc (.cells #[.int .u32 k0, .int .u32 k1, .int .i64 k2, .int .i64 k3, .int .i64 k4, .int .i64 bk, .int .i64 gen, .int .i64 seen] 49)).cell? ⟨w.heap.size, 0, none⟩ = some (.int .u32 k0) := cell_of hb1 rfl
      have c1 : (w.alloc (.cells #[.int .u32 k0, .int .u32 k1, .int .i64 k2, .int .i64 k3, .int .i64 k4, .int .i64 bk, .int .i64 gen, .int .i64 seen] 49)).cell? ⟨w.heap.size, 1, none⟩ = some (.int .u32 k1) := cell_of hb1 rfl
      have c2 : (w.alloc (.cells #[.int .u32 k0, .int .u32 k1, .int .i64 k2, .int .i64 k3, .int .i64 k4, .int .i64 bk, .int .i64 gen, .int .i64 seen] 49)).cell? ⟨w.heap.size, 2, none⟩ = some (.int .i64 k2) := cell_of hb1 rfl
      have c3 : (w.alloc (.cells #[.int .u32 k0, .int .u32 k1, .int .i64 k2, .int .i64 k3, .int .i64 k4, .int .i64 bk, .int .i64 gen, .int .i64 seen] 49)).cell? ⟨w.heap.size, 3, none⟩ = some (.int .i64 k3) := cell_of hb1 rfl
      have c4 : (w.alloc (.cells #[.int .u32 k0, .int .u32 k1, .int .i64 k2, .int .i64 k3, .int .i64 k4, .int .i64 bk, .int .i64 gen, .int .i64 seen] 49)).cell? ⟨w.heap.size, 4, none⟩ = some (.int .i64 k4) := cell_of hb1 rfl
      have c5 : (w.alloc (.cells #[.int .u32 k0, .int .u32 k1, .int .i64 k2, .int .i64 k3, .int .i64 k4, .int .i64 bk, .int .i64 gen, .int .i64 seen] 49)).cell? ⟨w.heap.size, 5, none⟩ = some (.int .i64 bk) := cell_of hb1 rfl
      have c7 : (w.alloc (.cells #[.int .u32 k0, .int .u32 k1, .int .i64 k2, .int .i64 k3, .int .i64 k4, .int .i64 bk, .int .i64 gen, .int .i64 seen] 49)).cell? ⟨w.heap.size, 7, none⟩ = some (.int .i64 seen) := cell_of hb1 rfl
      have eg : ∀ args w, (callFunc 83 args).run Tryz.prog w = .ok (.enter 83 args) w := enters_of Tryz.func83 (by kernel_rfl) rfl
      clear e h h1 hA hA1 hR wf hb1
      go_enter Tryz.func43, Tryz.ntmps43
      go_wp2_with fail
      generalize w.heap.size = g at *
      refine K.out.mono ?_
      rintro e w1 ⟨rfl, ho⟩
      have G := Lib.hid (ho.drop.rownil 54 14)
      clear ho K c0 c1 c2 c3 c4 c5 c7
      go_wp2_with fail
      go_ret
      exact ⟨_, rfl, G.out⟩
    · have e : keepD most L f known was false = (if (putF most L f).2.2 = 0 then ([putRec f], (putF most L f).1) else ([], (putF most L f).1)) := by unfold keepD; rw [if_neg (by simp), if_neg hk]
      have K0 := o_fput h1 (i + 1) hA1 wf
      generalize putF most L f = r at *
      obtain ⟨L2, ok, er⟩ := r
      simp only at K0 e
      have K := Lib.hid K0
      rw [e]
      obtain ⟨X, hX⟩ : ∃ X, X = (if er = 0 then ([putRec f], L2) else (([] : List Rec), L2)) := ⟨_, rfl⟩
      rw [← hX]
      have HX0 : er = 0 → X = ([putRec f], L2) := fun h0 => by rw [hX, if_pos h0]
      have HX1 : er ≠ 0 → X = ([], L2) := fun h0 => by rw [hX, if_neg h0]
      clear hX
      have hb1 := h1.block 0 rfl
      obtain ⟨⟨k0, k1, k2, k3, k4⟩, bk, gen, seen⟩ := f
      have c0 : (w.alloc (.cells #[.int .u32 k0, .int .u32 k1, .int .i64 k2, .int .i64 k3, .int .i64 k4, .int .i64 bk, .int .i64 gen, .int .i64 seen] 49)).cell? ⟨w.heap.size, 0, none⟩ = some (.int .u32 k0) := cell_of hb1 rfl
      have c1 : (w.alloc (.cells #[.int .u32 k0, .int .u32 k1, .int .i64 k2, .int .i64 k3, .int .i64 k4, .int .i64 bk, .int .i64 gen, .int .i64 seen] 49)).cell? ⟨w.heap.size, 1, none⟩ = some (.int .u32 k1) := cell_of hb1 rfl
      have c2 : (w.alloc (.cells #[.int .u32 k0, .int .u32 k1, .int .i64 k2, .int .i64 k3, .int .i64 k4, .int .i64 bk, .int .i64 gen, .int .i64 seen] 49)).cell? ⟨w.heap.size, 2, none⟩ = some (.int .i64 k2) := cell_of hb1 rfl
      have c3 : (w.alloc (.cells #[.int .u32 k0, .int .u32 k1, .int .i64 k2, .int .i64 k3, .int .i64 k4, .int .i64 bk, .int .i64 gen, .int .i64 seen] 49)).cell? ⟨w.heap.size, 3, none⟩ = some (.int .i64 k3) := cell_of hb1 rfl
      have c4 : (w.alloc (.cells #[.int .u32 k0, .int .u32 k1, .int .i64 k2, .int .i64 k3, .int .i64 k4, .int .i64 bk, .int .i64 gen, .int .i64 seen] 49)).cell? ⟨w.heap.size, 4, none⟩ = some (.int .i64 k4) := cell_of hb1 rfl
      have c5 : (w.alloc (.cells #[.int .u32 k0, .int .u32 k1, .int .i64 k2, .int .i64 k3, .int .i64 k4, .int .i64 bk, .int .i64 gen, .int .i64 seen] 49)).cell? ⟨w.heap.size, 5, none⟩ = some (.int .i64 bk) := cell_of hb1 rfl
      have c6 : (w.alloc (.cells #[.int .u32 k0, .int .u32 k1, .int .i64 k2, .int .i64 k3, .int .i64 k4, .int .i64 bk, .int .i64 gen, .int .i64 seen] 49)).cell? ⟨w.heap.size, 6, none⟩ = some (.int .i64 gen) := cell_of hb1 rfl
      have c7 : (w.alloc (.cells #[.int .u32 k0, .int .u32 k1, .int .i64 k2, .int .i64 k3, .int .i64 k4, .int .i64 bk, .int .i64 gen, .int .i64 seen] 49)).cell? ⟨w.heap.size, 7, none⟩ = some (.int .i64 seen) := cell_of hb1 rfl
      have eg : ∀ args w, (callFunc 82 args).run Tryz.prog w = .ok (.enter 82 args) w := enters_of Tryz.func82 (by kernel_rfl) rfl
      have hkb : (known && (was == bk)) = false := by
        cases hkn : known with
        | false => rfl
        | true => rw [Bool.true_and, beq_eq_false_iff_ne]; exact fun e => hk ⟨hkn, e⟩
      have HKB : Hid (known = false ∨ (known = true ∧ (was == bk) = false)) := Lib.hid (by cases known with
        | false => exact Or.inl rfl
        | true => exact Or.inr ⟨rfl, by simpa using hkb⟩)
      clear e h h1 hA hA1 hR wf hb1 hk hkb K0
      have HFin : Hid (∀ w1, In F0 w0 w1 ((Cells w.heap.size (encF ⟨⟨k0, k1, k2, k3, k4⟩, bk, gen, seen⟩) 49 :: R).set (i + 1) (FA bt most idle L2)) → (er = 0 → KeepPost X bt most idle i F0 w0 R (.returned (.slice (some ⟨w1.heap.size, 0, none⟩) 1 1)) (w1.alloc (.cells (encRL (putRec ⟨⟨k0, k1, k2, k3, k4⟩, bk, gen, seen⟩) (.slice none 0 0)).toArray 54))) ∧ (er ≠ 0 → KeepPost X bt most idle i F0 w0 R (.returned (.slice none 0 0)) w1)) := Lib.hid fun w1 hw1 => by
        refine ⟨fun h0 => ?_, fun h0 => ?_⟩
        · rw [HX0 h0]; exact ⟨_, rfl, rec_one hw1.drop _⟩
        · rw [HX1 h0]; exact ⟨_, rfl, hw1.drop.rownil 54 14⟩
      clear HX0 HX1
      have HB : Hid (∀ w1, In F0 w0 w1 ((Cells w.heap.size (encF ⟨⟨k0, k1, k2, k3, k4⟩, bk, gen, seen⟩) 49 :: R).set (i + 1) (FA bt most idle L2)) → w1.heap[w.heap.size]? = some (.cells #[.int .u32 k0, .int .u32 k1, .int .i64 k2, .int .i64 k3, .int .i64 k4, .int .i64 bk, .int .i64 gen, .int .i64 seen] 49 (0, 0))) := Lib.hid fun w1 hw1 => hw1.block 0 rfl
      generalize (Cells w.heap.size (encF ⟨⟨k0, k1, k2, k3, k4⟩, bk, gen, seen⟩) 49 :: R).set (i + 1) (FA bt most idle L2) = RR at *
      go_enter Tryz.func43, Tryz.ntmps43
      rcases HKB.out with hq | ⟨hq, hq2⟩
      all_goals
        clear HKB
        go_wp2_with fail
        generalize w.heap.size = g at *
        refine K.out.mono ?_
        rintro e w1 ⟨rfl, ho⟩
        have HH := Lib.hid (HFin.out w1 ho)
        have hb1 := HB.out w1 ho
        have d0 : w1.cell? ⟨g, 0, none⟩ = some (.int .u32 k0) := cell_of hb1 rfl
        have d1 : w1.cell? ⟨g, 1, none⟩ = some (.int .u32 k1) := cell_of hb1 rfl
        have d2 : w1.cell? ⟨g, 2, none⟩ = some (.int .i64 k2) := cell_of hb1 rfl
        have d3 : w1.cell? ⟨g, 3, none⟩ = some (.int .i64 k3) := cell_of hb1 rfl
        have d4 : w1.cell? ⟨g, 4, none⟩ = some (.int .i64 k4) := cell_of hb1 rfl
        have d5 : w1.cell? ⟨g, 5, none⟩ = some (.int .i64 bk) := cell_of hb1 rfl
        have d6 : w1.cell? ⟨g, 6, none⟩ = some (.int .i64 gen) := cell_of hb1 rfl
        have d7 : w1.cell? ⟨g, 7, none⟩ = some (.int .i64 seen) := cell_of hb1 rfl
        clear ho K hb1 c0 c1 c2 c3 c4 c5 c6 c7 HFin HB
        by_cases he : er = 0
        · have G := Lib.hid (HH.out.1 he)
          clear HH
          subst he
          go_wp2_with fail
          go_ret
          exact G.out
        · have G := Lib.hid (HH.out.2 he)
          have he' : (er != 0) = true := by rw [bne_iff_ne]; exact he
          clear HH
          go_wp2_with fail
          go_ret
          exact G.out
end
def inB (x m : Int) : Bool := decide (0 ≤ x ∧ x ≤ m)
theorem mayBk_eq (b : Bk) : mayBk b = (inB b.id 65535 && decide (1 ≤ b.weight ∧ b.weight ≤ 10)) := rfl
section
variable {F0 : List Nat} {w0 w : World} {R : List Asrt}
def BksAt (F0 : List Nat) (w0 : World) (R : List Asrt) (A : Option Addr) (l : List Bk) : Prop := ∀ w', In F0 w0 w' R → Src w' A l.length 3 (bkV l)
theorem BksAt.cell {A : Option Addr} {l : List Bk} (hs : BksAt F0 w0 R A l) (h : In F0 w0 w R) {k : Nat} {b : Bk} (hb : l[k]? = some b) : ∃ g o, A = some ⟨g, o, none⟩ ∧ w.cell? ⟨g, o + k * 3, none⟩ = some (.int .i64 b.id) ∧ w.cell? ⟨g, o + k * 3 + 1, none⟩ = some (.int .u32 b.addr) ∧ w.cell? ⟨g, o + k * 3 + 2, none⟩ = some (.int .i64 b.weight) := by
  have hk := (List.getElem?_eq_some_iff.1 hb).1
  obtain ⟨g, o, e, hc⟩ := (hs w h).plain (by omega) (by decide)
  obtain ⟨b0, b1, b2⟩ := bkV_at hb
  exact ⟨g, o, e, hc _ _ b0, hc _ _ b1, hc _ _ b2⟩
end
abbrev encBa (b : Bk) : Array Value := #[.int .i64 b.id, .int .u32 b.addr, .int .i64 b.weight]
theorem encBa_all (a b c : Int) : (#[.int .i64 a, .int .u32 b, .int .i64 c] : Array Value).all (·.oneCell') = true := by simp [Value.oneCell']
section
variable {F0 : List Nat} {w0 w : World} {R : List Asrt}
theorem BksAt.more {A : Option Addr} {l : List Bk} (hs : BksAt F0 w0 R A l) (X : Asrt) : BksAt F0 w0 (X :: R) A l := fun W hW => hs W hW.drop
def IxpRel (l : List Bk) (p : Bk → Bool) (F0 : List Nat) (w0 : World) (R : List Asrt) (i : Value) (wr : World) : Prop := ∃ k : Nat, k ≤ l.length ∧ i = .int .i64 k ∧ (∀ b ∈ l.take k, p b = false) ∧ In F0 w0 wr R
def IxpPost (l : List Bk) (p : Bk → Bool) (F0 : List Nat) (w0 : World) (R : List Asrt) (e : Ending) (w' : World) : Prop := In F0 w0 w' R ∧ ((e = .returned (.int .i64 (-1)) ∧ ∀ b ∈ l, p b = false) ∨ ∃ (i : Nat) (b : Bk), e = .returned (.int .i64 i) ∧ l[i]? = some b ∧ p b = true ∧ ∀ y ∈ l.take i, p y = false)
theorem o_idxp {l : List Bk} {A : Option Addr} {c : Nat} (hs : BksAt F0 w0 R A l) (hl : l.length ≤ 1000000000) (p : Bk → Bool) {f : FuncId} {g : Nat} (eg : ∀ args w, (callFunc f args).run Tryz.prog w = .ok (.enter f args) w)
    (hp : ∀ W b, In F0 w0 W R → Calls Tryz.prog f #[.agg (encBa b), .pointer (some ⟨g, 0, none⟩)] W fun e w' => e = .returned (.bool (p b)) ∧ In F0 w0 w' R) (h : In F0 w0 w R) :
    Calls Tryz.prog 99 #[.slice A l.length c, .func (.func f) #[] #[.pointer (some ⟨g, 0, none⟩)]] w (IxpPost l p F0 w0 R) := by
  have HR : Hid (IxpRel l p F0 w0 R (.int .i64 0) w) := Lib.hid ⟨0, Nat.zero_le _, rfl, by simp, h⟩
  have HS := Lib.hid hs
  have HP := Lib.hid hp
  have hln : l.length ≤ 1000000000 := hl
  clear h hs hl hp
  go_enter Tryz.func99, Tryz.ntmps99
  go_wp2_with fail
  go_loopw [8] (IxpRel l p F0 w0 R) (fun k _ => l.length - (intOf k).toNat)
  case atStart => exact HR.out
  case round =>
    obtain ⟨k, hk, rfl, hall, hio⟩ := hrel
    clear HR
    by_cases hlt : k < l.length
    · obtain ⟨b, hb⟩ : ∃ b, l[k]? = some b := ⟨l[k], List.getElem?_eq_getElem hlt⟩
      obtain ⟨gg, o, rfl, c0, c1, c2⟩ := HS.out.cell hio hb
      have hlt' : (k : Int) < (l.length : Int) := Int.ofNat_lt.2 hlt
      have hw2 : wrap64 ((k : Int) + 1) = (k : Int) + 1 := by unfold wrap64; omega
      have K := Lib.hid (HP.out wr b hio)
      have HN : Hid (p b = false → ∀ w', In F0 w0 w' R → IxpRel l p F0 w0 R (.int .i64 ((k : Int) + 1)) w') := Lib.hid fun h1 w' h' => ⟨k + 1, hlt, by rw [Int.natCast_add]; rfl, fun x hx => by
        rw [List.take_add_one, hb] at hx
        rcases List.mem_append.1 hx with hx | hx
        · exact hall x hx
        · simp at hx; subst hx; exact h1, h'⟩
      have HX : Hid (p b = true → ∀ w', In F0 w0 w' R → IxpPost l p F0 w0 R (.returned (.int .i64 k)) w') := Lib.hid fun h1 w' h' => ⟨h', Or.inr ⟨k, b, rfl, hb, h1, hall⟩⟩
      clear hio hall hb hlt hk
      cases hm : p b with
      | false =>
        rw [hm] at K
        have HN1 := Lib.hid (HN.out hm)
        clear HN HX hm
        go_wp2_with fail
        refine K.out.mono ?_
        rintro e w1 ⟨rfl, g1⟩
        have HN2 := Lib.hid (HN1.out w1 g1)
        clear g1 K HN1
        go_wp2_with fail
        go_roundw
        case rel => (try rw [hw2]); exact HN2.out
        case measure => (try rw [hw2]); exact meas_lt hlt'
      | true =>
        rw [hm] at K
        have HX1 := Lib.hid (HX.out hm)
        clear HN HX hm
        go_wp2_with fail
        refine K.out.mono ?_
        rintro e w1 ⟨rfl, g1⟩
        have HN2 := Lib.hid (HX1.out w1 g1)
        clear g1 K HX1
        go_wp2_with fail
        go_ret
        exact HN2.out
    · have hge : (l.length : Int) ≤ (k : Int) := Int.ofNat_le.2 (Nat.le_of_not_lt hlt)
      have hkl : l.take k = l := List.take_of_length_le (Nat.le_of_not_lt hlt)
      rw [hkl] at hall
      have G : Hid (IxpPost l p F0 w0 R (.returned (.int .i64 (-1))) wr) := Lib.hid ⟨hio, Or.inl ⟨rfl, hall⟩⟩
      clear hio hkl hlt hk hall
      go_wp2_with fail
      go_ret
      exact G.out
theorem gnfind1 (b : Bk) {id : Int} {g : Nat} (i : Nat) (hA : R[i]? = some (Cells g #[.int .i64 id] 3)) (h : In F0 w0 w R) : Calls Tryz.prog 100 #[.agg (encBa b), .pointer (some ⟨g, 0, none⟩)] w fun e w' => e = .returned (.bool (b.id == id)) ∧ In F0 w0 w' R := by
  have G := Lib.hid (h.alloc (.cells (encBa b) 33))
  have c0 : (w.alloc (.cells (encBa b) 33)).cell? ⟨g, 0, none⟩ = some (.int .i64 id) := cell_of ((h.alloc (.cells (encBa b) 33)).block i hA) rfl
  obtain ⟨b0, b1, b2⟩ := b
  clear h hA
  go_enter Tryz.func100, Tryz.ntmps100
  go_wp2_with fail
  go_ret
  exact ⟨rfl, G.out⟩
def zBk : Bk := ⟨0, 0, 0⟩
theorem find_take {l : List Bk} {p : Bk → Bool} {i : Nat} {b : Bk} (hb : l[i]? = some b) (hp : p b = true) (hn : ∀ y ∈ l.take i, p y = false) : l.find? p = some b := by
  have hi := (List.getElem?_eq_some_iff.1 hb).1
  have e : l = l.take i ++ b :: l.drop (i + 1) := by
    have := List.take_append_drop i l
    rw [List.drop_eq_getElem_cons hi, (List.getElem?_eq_some_iff.1 hb).2] at this
    exact this.symm
  rw [e, List.find?_append, List.find?_eq_none.2 (fun y hy => by rw [hn y hy]; simp), Option.none_or, List.find?_cons_of_pos hp]
theorem o_gnfind {l : List Bk} {A : Option Addr} {c : Nat} (hs : BksAt F0 w0 R A l) (hl : l.length ≤ 1000000) (id : Int) (h : In F0 w0 w R) :
    Calls Tryz.prog 64 #[.slice A l.length c, .int .i64 id] w fun e w' => e = .returned (.tuple #[.agg (encBa ((findBk l id).getD zBk)), .bool (findBk l id).isSome]) ∧ In F0 w0 w' R := by
  have h1 := (h.cells #[.int .i64 id] 3).cells (encBa zBk) 33
  simp only [World.size_alloc] at h1
  have eg : ∀ args w, (callFunc 100 args).run Tryz.prog w = .ok (.enter 100 args) w := enters_of Tryz.func100 (by kernel_rfl) rfl
  have K := Lib.hid (o_idxp (c := c) ((hs.more _).more _) (by omega) (fun b => b.id == id) eg (fun W b hW => gnfind1 b 1 rfl hW) h1)
  have HS := Lib.hid hs
  clear h hs h1 eg
  go_enter Tryz.func64, Tryz.ntmps64
  go_wp2_with fail
  generalize w.heap.size = g at *
  refine K.out.mono ?_
  rintro e w1 ⟨ho, ⟨rfl, hall⟩ | ⟨i, b, rfl, hb, hpb, hn⟩⟩
  · have HF : Hid (findBk l id = none) := Lib.hid (List.find?_eq_none.2 (fun y hy => by have e := hall y hy; simp only at e; rw [e]; simp))
    have ht := there_of (ho.block 0 rfl)
    have G := Lib.hid (ho.setFull 0 rfl (xs := [.int .i64 0, .int .u32 0, .int .i64 0]) (b := g + 1) (C := encBa zBk) (T := 33) rfl)
    clear ho hall K
    go_wp2_with (refine wpList_store_mid (op := ⟨none, Op.store 33 (.tmp 4) (.tmp 12), _, _, _, _⟩) (by rfl) 33 (.tmp 4) (.tmp 12) rfl (g + 1) 0 (encBa zBk) (by rfl) (by rfl) ht (by kernel_rfl) (encBa_all _ _ _) ?_)
    exact bodyPost_ret (results_cell_tmp_row Tryz.results64 _ _ (g + 1) 33 _ (0, 0) _ rfl (G.out.block 0 rfl) Tryz.underlying33 rfl (by kernel_rfl)) rfl ⟨by rw [HF.out]; rfl, G.out.drop.drop⟩
  · have HF : Hid (findBk l id = some b) := Lib.hid (find_take hb hpb hn)
    have hi := (List.getElem?_eq_some_iff.1 hb).1
    obtain ⟨gg, o, rfl, c0, c1, c2⟩ := HS.out.cell ho.drop.drop hb
    have i0 : (i : Int) < (l.length : Int) := by omega
    have hneg : ¬ ((i : Int) < 0) := by omega
    have ht := there_of (ho.block 0 rfl)
    have G := Lib.hid (ho.setFull 0 rfl (xs := [.int .i64 b.id, .int .u32 b.addr, .int .i64 b.weight]) (b := g + 1) (C := encBa zBk) (T := 33) rfl)
    obtain ⟨b0, b1, b2⟩ := b
    simp only at c0 c1 c2 G
    clear ho hn hb hpb K HS hi
    go_wp2_with (refine wpList_store_mid (op := ⟨none, Op.store 33 (.tmp 4) (.tmp 16), _, _, _, _⟩) (by rfl) 33 (.tmp 4) (.tmp 16) rfl (g + 1) 0 (encBa ⟨b0, b1, b2⟩) (by rfl) (by rfl) ht (by kernel_rfl) (encBa_all _ _ _) ?_)
    exact bodyPost_ret (results_cell_tmp_row Tryz.results64 _ _ (g + 1) 33 _ (0, 0) _ rfl (G.out.block 0 rfl) Tryz.underlying33 rfl (by kernel_rfl)) rfl ⟨by rw [HF.out]; rfl, G.out.drop.drop⟩
end
theorem infoBk : (Tryz.prog.info? 33).map (fun i => (i.zero.map (fun z => z.cells.size), i.size, i.bytes)) = some (some 3, 3, 24) := by kernel_rfl
abbrev BkR (v : Value) (l : List Bk) : Asrt := RowA 33 3 v l.length (bkV l)
section
variable {F0 : List Nat} {w0 w : World} {R : List Asrt}
theorem bkclone_some (h : In F0 w0 w R) {ad : Addr} {l : List Bk} {c : Nat} (hs : Src w (some ad) l.length 3 (bkV l)) (hn : l.length ≤ 1000000) :
    Calls Tryz.prog 37 #[.slice (some ad) l.length c] w fun e w' => ∃ v, e = .returned v ∧ In F0 w0 w' (BkR v l :: R) := by
  have HH := Lib.hid h
  have HS := Lib.hid hs
  clear h hs
  have hq : ∀ (w : World) (a : Option Addr) (n c n' c' : Nat), (binOp .eql 34 (.slice a n c) (.slice none n' c')).run Tryz.prog w = .ok (.bool a.isNone) w := fun w a n c n' c' => Lib.run_eql_slice_nil w _ _ a n c n' c' Tryz.underlying34
  go_enter Tryz.func37, Tryz.ntmps37
  go_wp2_with (at_builtin; refine app_list rfl ((HH.out.cells #[] 33).row0 (k := 3) 0 rfl) 0 rfl (.tmp 5) (.tmp 6) 34 (by rfl) Tryz.underlying34 infoBk (by decide) (by decide) (by rfl) (by rfl) (src_alloc HS.out _) (bkV_one _) (by omega) ?_)
  intro v' w3 ho hg
  have HO : Hid (In F0 w0 w3 (BkR v' l :: R)) := Lib.hid (by simpa using ho)
  clear ho hg
  go_wp2_with fail
  go_ret
  exact ⟨_, rfl, HO.out⟩
theorem bkclone_none (h : In F0 w0 w R) : Calls Tryz.prog 37 #[.slice none 0 0] w fun e w' => ∃ v, e = .returned v ∧ In F0 w0 w' (BkR v [] :: R) := by
  have HH := Lib.hid (h.rownil 33 3)
  clear h
  have hq : ∀ (w : World) (a : Option Addr) (n c n' c' : Nat), (binOp .eql 34 (.slice a n c) (.slice none n' c')).run Tryz.prog w = .ok (.bool a.isNone) w := fun w a n c n' c' => Lib.run_eql_slice_nil w _ _ a n c n' c' Tryz.underlying34
  go_enter Tryz.func37, Tryz.ntmps37
  go_wp2_with fail
  go_ret
  exact ⟨_, rfl, HH.out⟩
theorem o_bkclone (h : In F0 w0 w R) {A : Option Addr} {c : Nat} {l : List Bk} (hn : A = none → c = 0) (hs : Src w A l.length 3 (bkV l)) (hl : l.length ≤ 1000000) :
    Calls Tryz.prog 37 #[.slice A l.length c] w fun e w' => ∃ v, e = .returned v ∧ In F0 w0 w' (BkR v l :: R) := by
  cases A with
  | none =>
    obtain rfl := hn rfl
    have : l = [] := by
      cases l with
      | nil => rfl
      | cons b l => obtain ⟨ad, e, _⟩ := hs.at' (by simp); cases e
    subst this
    exact bkclone_none h
  | some ad => exact bkclone_some h hs hl
theorem bks_row {v : Value} {l : List Bk} {a : Option Addr} {n c : Nat} (hv : v = .slice a n c) (i : Nat) (hA : R[i]? = some (BkR v l)) : BksAt F0 w0 R a l := by
  intro w' h'
  obtain ⟨F, r⟩ := h'.get i hA
  subst hv
  exact r.all
end
section
variable {F0 : List Nat} {w0 w : World} {R : List Asrt}
theorem neG_nil (w : World) : (binOp BinOp.neq 66 Value.nilFunc Value.nilFunc).run Tryz.prog w = .ok (.bool false) w := by kernel_rfl
theorem gnw1 (b : Bk) {g : Nat} (i : Nat) (hA : R[i]? = some (Cells g #[.nilFunc] 66)) (h : In F0 w0 w R) : Calls Tryz.prog 75 #[.agg (encBa b), .pointer (some ⟨g, 0, none⟩)] w fun e w' => e = .returned (.bool false) ∧ In F0 w0 w' R := by
  have G := Lib.hid (h.alloc (.cells (encBa b) 33))
  have c0 : (w.alloc (.cells (encBa b) 33)).cell? ⟨g, 0, none⟩ = some .nilFunc := cell_of ((h.alloc (.cells (encBa b) 33)).block i hA) rfl
  obtain ⟨b0, b1, b2⟩ := b
  have hq := neG_nil
  clear h hA
  go_enter Tryz.func75, Tryz.ntmps75
  go_wp2_with fail
  go_ret
  exact ⟨rfl, G.out⟩
theorem delbk_none {l : List Bk} {v : Value} {g : Nat} (hl : l.length ≤ 1000000) (h : In F0 w0 w (BkR v l :: Cells g #[.nilFunc] 66 :: R)) : Calls Tryz.prog 74 #[v, .func (.func 75) #[] #[.pointer (some ⟨g, 0, none⟩)]] w fun e w' => e = .returned v ∧ In F0 w0 w' (BkR v l :: Cells g #[.nilFunc] 66 :: R) := by
  obtain ⟨Fv, rv⟩ := h.get 0 rfl
  obtain ⟨pa, pc, rfl, -, -, -⟩ := RowA.shape rv
  have eg : ∀ args w, (callFunc 75 args).run Tryz.prog w = .ok (.enter 75 args) w := enters_of Tryz.func75 (by kernel_rfl) rfl
  have K := Lib.hid (o_idxp (c := pc) (bks_row (n := l.length) (c := pc) rfl 0 rfl) (by omega) (fun _ => false) eg (fun W b hW => gnw1 b 1 rfl hW) h)
  clear h rv eg
  go_enter Tryz.func74, Tryz.ntmps74
  go_wp2_with fail
  refine K.out.mono ?_
  rintro e w1 ⟨ho, ⟨rfl, hall⟩ | ⟨i, b, rfl, hb, hpb, hn⟩⟩
  · have G := Lib.hid ho
    clear ho hall K
    go_wp2_with fail
    go_ret
    exact ⟨rfl, G.out⟩
  · exact absurd hpb (by simp)
theorem o_gnwithout {l : List Bk} {A : Option Addr} {c : Nat} (hs : BksAt F0 w0 R A l) (hn : A = none → c = 0) (hl : l.length ≤ 1000000) (h : In F0 w0 w R) :
    Calls Tryz.prog 38 #[.slice A l.length c, .nilFunc] w fun e w' => ∃ v, e = .returned v ∧ In F0 w0 w' (BkR v l :: R) := by
  have h1 := h.cells #[.nilFunc] 66
  have K := Lib.hid (o_bkclone (c := c) h1 hn (hs.more _ _ h1) hl)
  clear h h1 hs hn
  go_enter Tryz.func38, Tryz.ntmps38
  go_wp2_with fail
  generalize w.heap.size = g at *
  refine K.out.mono ?_
  rintro e w1 ⟨v, rfl, ho⟩
  have K2 := Lib.hid (delbk_none hl ho)
  clear ho K
  go_wp2_with fail
  refine K2.out.mono ?_
  rintro e w2 ⟨rfl, ho⟩
  have G := Lib.hid ho
  clear ho K2
  go_wp2_with fail
  go_ret
  exact ⟨_, rfl, G.out.sel2 (R1 := [_, _]) [0] (by decide) rfl⟩
end
theorem u32_small {n : Int} (h0 : 0 ≤ n) (h1 : n < 4294967296) : IntKind.u32.wrap n = n := by
  rw [show ∀ n, IntKind.u32.wrap n = n % 4294967296 from fun n => by simp [IntKind.wrap, IntKind.bits, IntKind.signed]]; omega
def FoldRel (s : Nat) (v : Value) : Prop := ∃ r : Nat, v = .int .u32 r ∧ r < 4294967296 ∧ foldN r = foldN s
theorem and_low {s : Nat} (h : s < 4294967296) : bits .and .u32 (s : Int) 65535 = ((s % 65536 : Nat) : Int) := by
  have := bits_and_u32 s 65535 h (by omega)
  rw [show (65535 : Nat) = 2 ^ 16 - 1 from rfl, Nat.and_two_pow_sub_one_eq_mod] at this
  exact this
theorem su_folded {s : Nat} (hs : s < 4294967296) (w : World) : Calls Tryz.prog 158 #[.int .u32 s] w fun e w' => e = .returned (.int .u32 (foldN s)) ∧ w' = w := by
  have HS := Lib.hid hs
  clear hs
  go_enter Tryz.func158, Tryz.ntmps158
  go_wp2_with fail
  go_loop [0] (FoldRel s) (fun v => (intOf v).toNat)
  case atStart => exact ⟨s, rfl, HS.out, rfl⟩
  case round =>
    obtain ⟨r, rfl, hr, he⟩ := hrel
    by_cases hlt : 65535 < r
    · have q1 : (65535 : Int) < (r : Int) := by omega
      have q2 := and_low hr
      have HE := Lib.hid he
      have HR := Lib.hid (And.intro hr hlt)
      clear he hr hlt
      go_wp2_with fail
      go_round
      case rel => exact ⟨r / 65536 + r % 65536, by have := HR.out; go_num, by have := HR.out; omega, by rw [foldN_step]; exact HE.out⟩
      case measure =>
        obtain ⟨h1, h2⟩ := HR.out
        show (((r : Int) / 65536 + (r : Int) % 65536) % 4294967296).toNat < (r : Int).toNat
        rw [Int.emod_eq_of_lt (by omega) (by omega)]; omega
    · have q1 : (r : Int) ≤ 65535 := by omega
      have HE : Hid (foldN s = r) := Lib.hid (by rw [← he]; exact foldN_id (by omega))
      clear he hr hlt
      go_wp2_with fail
      go_ret
      exact ⟨by rw [HE.out]; rfl, rfl⟩
theorem or_pair {x y : Nat} (hx : x < 256) (hy : y < 256) : bits .or .u32 ((x : Int) * 256) (y : Int) = ((x * 256 + y : Nat) : Int) := by
  rw [show ((x : Int) * 256) = ((x * 256 : Nat) : Int) by omega]
  rw [bits_or_u32 _ _ (by omega) (by omega)]
  congr 1
  have e : x * 256 = x <<< 8 := by rw [Nat.shiftLeft_eq]
  rw [e, ← Nat.shiftLeft_add_eq_or_of_lt (by omega), ← e]
def PartRel (s : Nat) (bs : List UInt8) (v k : Value) : Prop := ∃ i : Nat, i % 2 = 0 ∧ i ≤ bs.length + 1 ∧ k = .int .i64 i ∧ v = .int .u32 (foldN (s + words (bs.take i)))
theorem take_all2 {bs : List UInt8} {i : Nat} (h : ¬ i < bs.length) : bs.take i = bs := List.take_of_length_le (by omega)
theorem su_part {w : World} {A : Option Addr} {bs : List UInt8} {c s : Nat} (h : Src w A bs.length 1 (u8s bs)) (hl : bs.length ≤ 100000000) (hs : s < 4294967296) :
    Calls Tryz.prog 142 #[.int .u32 s, .slice A bs.length c] w fun e w' => e = .returned (.int .u32 (foldN (s + words bs))) ∧ w' = w := by
  have H := Lib.hid h
  have K := Lib.hid (fun n (hn : n < 4294967296) => su_folded hn w)
  have HS := Lib.hid (su_folded hs w)
  clear h hs
  go_enter Tryz.func142, Tryz.ntmps142
  go_wp2_with fail
  refine HS.out.mono ?_
  rintro e w1 ⟨rfl, rfl⟩
  clear HS
  go_wp2_with fail
  go_loop [0, 5] (PartRel s bs) (fun _ k => bs.length + 1 - (intOf k).toNat)
  case atStart => exact ⟨0, rfl, by omega, rfl, by simp [words]⟩
  case round =>
    obtain ⟨i, hi2, hi, rfl, rfl⟩ := hrel
    have hb := foldN_le (s + words (bs.take i))
    have HA : Hid (∀ n, foldN (foldN (s + words (bs.take i)) + n) = foldN (s + (words (bs.take i) + n))) := Lib.hid fun n => by rw [foldN_add, Nat.add_assoc]
    by_cases hlt : i < bs.length
    · obtain ⟨x, hx, hxe⟩ := get_of_lt hlt
      obtain ⟨g, o, rfl, hc⟩ := H.out.plain (by omega) (by decide)
      have c0 := hc i _ (u8s_get hlt)
      have hlt' : (i : Int) < (bs.length : Int) := by omega
      have hxl := byN_lt bs i
      have w1 : wrap64 ((i : Int) + 1) = (i : Int) + 1 := by unfold wrap64; omega
      have w2 : wrap64 ((i : Int) + 2) = (i : Int) + 2 := by unfold wrap64; omega
      by_cases hl2 : i + 1 < bs.length
      · obtain ⟨y, hy, hye⟩ := get_of_lt hl2
        have c1 := hc (i + 1) _ (u8s_get hl2)
        have hyl := byN_lt bs (i + 1)
        have HX : Hid (words (bs.take (i + 2)) = words (bs.take i) + (byN bs i * 256 + byN bs (i + 1))) := Lib.hid (by rw [words_take2 hi2 hx hy, hxe, hye])
        have hl2' : (i : Int) + 1 < (bs.length : Int) := by omega
        clear hx hxe hy hye hc
        generalize byN bs i = x at *
        generalize byN bs (i + 1) = y at *
        have q1 : IntKind.u32.wrap ((x : Int) * 256) = (x : Int) * 256 := u32_small (by omega) (by omega)
        have q2 := or_pair hxl hyl
        have HB := Lib.hid (HA.out (x * 256 + y))
        generalize foldN (s + words (bs.take i)) = f at *
        have q3 : IntKind.u32.wrap ((f : Int) + ((x * 256 + y : Nat) : Int)) = ((f + (x * 256 + y) : Nat) : Int) := by rw [u32_small (by omega) (by omega)]; omega
        have K2 := Lib.hid (K.out (f + (x * 256 + y)) (by omega))
        clear HA K
        go_wp2_with fail
        refine K2.out.mono ?_
        rintro e w1 ⟨rfl, rfl⟩
        clear K2
        go_wp2_with fail
        go_round
        case rel => exact ⟨i + 2, by omega, by omega, by go_num, by rw [HB.out, HX.out]⟩
        case measure => simp [intOf]; omega
      · have HX : Hid (words (bs.take (i + 2)) = words (bs.take i) + byN bs i * 256) := Lib.hid (by rw [words_take1 hi2 hx (by omega), hxe])
        have hl2' : (bs.length : Int) ≤ (i : Int) + 1 := by omega
        clear hx hxe hc hl2
        generalize byN bs i = x at *
        have q1 : IntKind.u32.wrap ((x : Int) * 256) = (x : Int) * 256 := u32_small (by omega) (by omega)
        have HB := Lib.hid (HA.out (x * 256))
        generalize foldN (s + words (bs.take i)) = f at *
        have q3 : IntKind.u32.wrap ((f : Int) + (x : Int) * 256) = ((f + x * 256 : Nat) : Int) := by rw [u32_small (by omega) (by omega)]; omega
        have K2 := Lib.hid (K.out (f + x * 256) (by omega))
        clear HA K
        go_wp2_with fail
        refine K2.out.mono ?_
        rintro e w1 ⟨rfl, rfl⟩
        clear K2
        go_wp2_with fail
        go_round
        case rel => exact ⟨i + 2, by omega, by omega, by go_num, by rw [HB.out, HX.out]⟩
        case measure => simp [intOf]; omega
    · have HE : Hid (foldN (s + words bs) = foldN (s + words (bs.take i))) := Lib.hid (by rw [take_all2 hlt])
      have hge : (bs.length : Int) ≤ (i : Int) := by omega
      clear HA hlt
      generalize foldN (s + words (bs.take i)) = f at *
      go_wp2_with fail
      go_ret
      exact ⟨by rw [HE.out]; rfl, rfl⟩
theorem u16_small {n : Nat} (h : n ≤ 65535) : IntKind.u16.wrap (n : Int) = (n : Int) := by
  rw [show ∀ n, IntKind.u16.wrap n = n % 65536 from fun n => by simp [IntKind.wrap, IntKind.bits, IntKind.signed]]; omega
theorem not16 {n : Nat} (h : n ≤ 65535) : bits .xor .u16 IntKind.u16.max (n : Int) = ((65535 - n : Nat) : Int) := by
  have h2 : (BitVec.ofInt 16 (n : Int)).toNat = n := by
    rw [BitVec.ofInt_natCast, BitVec.toNat_ofNat]; exact Nat.mod_eq_of_lt (by omega)
  have h1 : BitVec.ofInt 16 IntKind.u16.max = BitVec.allOnes 16 := by decide
  show IntKind.u16.wrap ((BitVec.ofInt 16 IntKind.u16.max ^^^ BitVec.ofInt 16 (n : Int)).toNat : Int) = _
  rw [h1, BitVec.allOnes_xor, BitVec.toNat_not, h2]
  rw [show ∀ n, IntKind.u16.wrap n = n % 65536 from fun n => by simp [IntKind.wrap, IntKind.bits, IntKind.signed]]
  omega
theorem su_fold {s : Nat} (hs : s < 4294967296) (w : World) : Calls Tryz.prog 141 #[.int .u32 s] w fun e w' => e = .returned (.int .u16 ((65535 - foldN s : Nat) : Int)) ∧ w' = w := by
  have HS := Lib.hid (su_folded hs w)
  have hb := not16 (foldN_le s)
  have hw16 : IntKind.u16.wrap ((foldN s : Nat) : Int) = ((foldN s : Nat) : Int) := u16_small (foldN_le s)
  have HE : Hid (∀ v : Int, v = ((65535 - foldN s : Nat) : Int) → Ending.returned (.int .u16 v) = .returned (.int .u16 ((65535 - foldN s : Nat) : Int))) := Lib.hid fun v h => by rw [h]
  clear hs
  go_enter Tryz.func141, Tryz.ntmps141
  go_wp2_with fail
  refine HS.out.mono ?_
  rintro e w1 ⟨rfl, rfl⟩
  clear HS
  go_wp2_with fail
  go_ret
  exact ⟨rfl, rfl⟩
theorem su_net {w : World} {A : Option Addr} {bs : List UInt8} {c : Nat} (h : Src w A bs.length 1 (u8s bs)) (hl : bs.length ≤ 100000000) :
    Calls Tryz.prog 114 #[.slice A bs.length c] w fun e w' => e = .returned (.int .u16 (netN bs)) ∧ w' = w := by
  have K := Lib.hid (su_part (c := c) (s := 0) h hl (by omega))
  rw [Nat.zero_add] at K
  have K2 := Lib.hid (fun w => su_fold (s := foldN (words bs)) (by have := foldN_le (words bs); omega) w)
  have HE : Hid (netN bs = 65535 - foldN (foldN (words bs))) := Lib.hid (by rw [foldN_id (foldN_le _)]; rfl)
  clear h hl
  go_enter Tryz.func114, Tryz.ntmps114
  go_wp2_with fail
  refine K.out.mono ?_
  rintro e w1 ⟨rfl, rfl⟩
  go_wp2_with fail
  refine (K2.out _).mono ?_
  rintro e w1 ⟨rfl, rfl⟩
  clear K K2
  go_wp2_with fail
  go_ret
  exact ⟨by rw [HE.out]; rfl, rfl⟩
theorem su_fix {a b c : Nat} (ha : a < 65536) (hb : b < 65536) (hc : c < 65536) (w : World) : Calls Tryz.prog 120 #[.int .u16 a, .int .u16 b, .int .u16 c] w fun e w' => e = .returned (.int .u16 (fixN a b c)) ∧ w' = w := by
  have K := Lib.hid (su_fold (s := (65535 - a) + (65535 - b) + c) (by omega) w)
  have HE : Hid (fixN a b c = 65535 - foldN ((65535 - a) + (65535 - b) + c)) := Lib.hid rfl
  have q1 := not16 (n := a) (by omega)
  have q2 := not16 (n := b) (by omega)
  have l1 : 65535 - a < 65536 := by omega
  have l2 : 65535 - b < 65536 := by omega
  generalize 65535 - a = na at *
  generalize 65535 - b = nb at *
  have HQ : Hid (((na : Int) + (nb : Int) + (c : Int)) % 4294967296 = ((na + nb + c : Nat) : Int)) := Lib.hid (by omega)
  go_enter Tryz.func120, Tryz.ntmps120
  go_wp2_with fail
  rw [HQ.out]
  refine K.out.mono ?_
  rintro e w1 ⟨rfl, rfl⟩
  clear K
  go_wp2_with fail
  go_ret
  exact ⟨by rw [HE.out]; rfl, rfl⟩
theorem mul_u32 (a b : Nat) : IntKind.u32.wrap ((a : Int) * (b : Int)) = ((a * b % 4294967296 : Nat) : Int) := by
  rw [show ∀ n, IntKind.u32.wrap n = n % 4294967296 from fun n => by simp [IntKind.wrap, IntKind.bits, IntKind.signed]]
  rw [← Int.natCast_mul, Int.natCast_emod]; rfl
def MixRel (s : Nat) (bs : List UInt8) (c k : Value) : Prop := ∃ i : Nat, i ≤ bs.length ∧ k = .int .i64 i ∧ c = .int .u32 (mixFrom (s ^^^ 2166136261) (bs.take i))
theorem su_mix {w : World} {A : Option Addr} {bs : List UInt8} {c s : Nat} (h : Src w A bs.length 1 (u8s bs)) (hl : bs.length ≤ 100000000) (hs : s < 4294967296) :
    Calls Tryz.prog 103 #[.int .u32 s, .slice A bs.length c] w fun e w' => e = .returned (.int .u32 (mixN s bs)) ∧ w' = w := by
  have H := Lib.hid h
  have q0 : bits .xor .u32 (s : Int) 2166136261 = ((s ^^^ 2166136261 : Nat) : Int) := bits_xor_u32 s 2166136261 hs (by omega)
  have hs2 := xor_lt32 hs (show 2166136261 < 4294967296 by omega)
  have HS : Hid (MixRel s bs (.int .u32 ((s ^^^ 2166136261 : Nat) : Int)) (.int .i64 0)) := Lib.hid ⟨0, Nat.zero_le _, rfl, rfl⟩
  have HF := Lib.hid (fun i => mixFrom_lt (bs.take i) hs2)
  clear h hs hs2
  go_enter Tryz.func103, Tryz.ntmps103
  go_wp2_with fail
  go_loop [5, 12] (MixRel s bs) (fun _ k => bs.length - (intOf k).toNat)
  case atStart => exact HS.out
  case round =>
    obtain ⟨i, hi, rfl, rfl⟩ := hrel
    have hc := HF.out i
    by_cases hlt : i < bs.length
    · obtain ⟨x, hx⟩ : ∃ x, bs[i]? = some x := ⟨bs[i], List.getElem?_eq_getElem hlt⟩
      obtain ⟨g, o, rfl, hcell⟩ := H.out.plain (by omega) (by decide)
      have c0 := hcell i (.int .u8 x.toNat) (by simp [u8s, hx])
      have hlt' : (i : Int) < (bs.length : Int) := by omega
      have HX : Hid (mixFrom (s ^^^ 2166136261) (bs.take (i + 1)) = (mixFrom (s ^^^ 2166136261) (bs.take i) ^^^ x.toNat) * 16777619 % 4294967296) := Lib.hid (by
        rw [List.take_add_one, hx]; exact mixFrom_snoc _ _ _)
      have hq := bits_xor_u32 _ x.toNat hc (by have := x.toNat_lt; omega)
      have hxl := x.toNat_lt
      clear hx hcell
      generalize mixFrom (s ^^^ 2166136261) (bs.take i) = f at *
      generalize (x.toNat) = xn at *
      have hm := mul_u32 (f ^^^ xn) 16777619
      have HM := Lib.hid hm
      clear hm
      go_wp2_with fail
      go_round
      case rel => exact ⟨i + 1, by omega, by go_num, by rw [HX.out, ← HM.out]; rfl⟩
      case measure => simp [intOf]; omega
    · have hil : i = bs.length := by omega
      subst hil
      rw [List.take_length] at hc ⊢
      have HE : Hid (mixN s bs = mixEnd (mixFrom (s ^^^ 2166136261) bs) ^^^ mixEnd (mixFrom (s ^^^ 2166136261) bs) / 8192) := Lib.hid rfl
      generalize mixFrom (s ^^^ 2166136261) bs = f at *
      have q1 : bits .xor .u32 (f : Int) ((f : Int) / 32768) = ((f ^^^ f / 32768 : Nat) : Int) := by
        have := bits_xor_u32 f (f / 32768) hc (by omega)
        rwa [show (((f / 32768 : Nat) : Nat) : Int) = (f : Int) / 32768 by omega] at this
      have HM : Hid (((f ^^^ f / 32768 : Nat) : Int) * 2246822507 % 4294967296 = ((mixEnd f : Nat) : Int)) := Lib.hid (by
        have := mul_u32 (f ^^^ f / 32768) 2246822507
        rw [show ∀ n, IntKind.u32.wrap n = n % 4294967296 from fun n => by simp [IntKind.wrap, IntKind.bits, IntKind.signed]] at this
        exact this)
      have he := mixEnd_lt f
      have HE2 := Lib.hid he
      clear he
      go_upto_region 8 with fail
      rw [HM.out]
      have he := HE2.out
      generalize mixEnd f = m at *
      have q2 : bits .xor .u32 (m : Int) ((m : Int) / 8192) = ((m ^^^ m / 8192 : Nat) : Int) := by
        have := bits_xor_u32 m (m / 8192) he (by omega)
        rwa [show (((m / 8192 : Nat) : Nat) : Int) = (m : Int) / 8192 by omega] at this
      clear HM HE2 q1
      go_wp2_with fail
      go_ret
      exact ⟨by rw [HE.out]; rfl, rfl⟩
end Go.Proofs.YtgapbecddgfkmaaGreat
