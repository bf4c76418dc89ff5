/- Rows.PathPlaysSaid -/
import Derived.Test.YtgapbecddgfkmaaGreatPY2
import Derived.Test.YtgapbecddgfkmaaGreatPY5
import Derived.IntWalk
import Derived.Test.YtgapbecddgfkmaaGreatPY4
import Derived.Deep.RegionHeld3
import Derived.StillTailTactics
import Derived.BigQuiet
import Derived.Deep.QuietTactic
namespace Go.Proofs.YtgapbecddgfkmaaGreat
open Go.RowKit
open Go.Maps (Keyed)
set_option linter.unusedVariables false
set_option maxHeartbeats 64000000
set_option maxRecDepth 100000
def QA (bq : Nat) (S : List KT) : Asrt := fun w F => IsQ w bq S F
theorem QA.framed (bq : Nat) (S : List KT) : Framed (QA bq S) := ⟨fun h hk => IsQ.keep h hk, fun h => IsQ.lt h⟩
def StrsA (v : Value) (l : List ByteArray) : Asrt := fun w F => F = v.ownBlock.toList ∧ Strs w v l
theorem gives_q {w w' : World} {bq : Nat} {S' : List KT} {F : List Nat} {r : Value} {e : Ending} (h : QPost bq S' F r w e w') : Gives w F (fun v => Val r v (QA bq S')) e w' :=
  ⟨r, h.ret, h.now.choose, ⟨rfl, h.now.choose_spec.1⟩, h.now.choose_spec.2, h.mod⟩
section
variable {F0 : List Nat} {w0 w : World} {R : List Asrt} {bq : Nat} {S : List KT}
theorem o_set (h : In F0 w0 w R) (i : Nat) (hA : R[i]? = some (QA bq S)) {k : ByteArray} (hk : k.size ≤ maxLen) (t : Int) :
    Calls Tryz.prog 143 #[.pointer (some ⟨bq, 0, none⟩), .string k, .int .i64 t] w fun e w' => e = .returned (.int .i64 (setS S k t).2) ∧ In F0 w0 w' (R.set i (QA bq (setS S k t).1)) :=
  own_val h i hA (QA.framed _ _) fun F hq => (qset hq hk t).mono fun _ _ => gives_q
theorem o_drop (h : In F0 w0 w R) (i : Nat) (hA : R[i]? = some (QA bq S)) {k : ByteArray} (hk : k.size ≤ maxLen) :
    Calls Tryz.prog 125 #[.pointer (some ⟨bq, 0, none⟩), .string k] w fun e w' => e = .returned (.bool (atS S k).isSome) ∧ In F0 w0 w' (R.set i (QA bq (delS k S))) :=
  own_val h i hA (QA.framed _ _) fun F hq => (qdrop hq hk).mono fun _ _ => gives_q
theorem o_new (h : In F0 w0 w R) : Calls Tryz.prog 31 #[] w fun e w' => ∃ bq, e = .returned (.pointer (some ⟨bq, 0, none⟩)) ∧ In F0 w0 w' (QA bq [] :: R) := by
  have c : Calls Tryz.prog 31 #[] w (Gives w [] (fun v => fun w' F => ∃ bq, v = .pointer (some ⟨bq, 0, none⟩) ∧ QA bq [] w' F)) := by
    refine (qnew w).mono fun e w' ⟨bq, F, he, hq, hF, hm⟩ => ⟨_, he, F, ⟨bq, rfl, hq⟩, fun b hb => Or.inr (hF b hb), hm⟩
  refine (h.make (fun v => ⟨?_, ?_⟩) c).mono fun e w' ⟨v, he, ho⟩ => ?_
  · rintro w w' F ⟨bq, e, hq⟩ hk; exact ⟨bq, e, IsQ.keep hq hk⟩
  · rintro w F ⟨bq, e, hq⟩; exact IsQ.lt hq
  · obtain ⟨F, bq, rfl, hq⟩ := ho.get 0 rfl
    refine ⟨bq, he, ?_⟩
    have := ho.imp (A' := QA bq []) 0 rfl (QA.framed _ _) (fun F ⟨b, e, hF⟩ => by
      simp only [Value.pointer.injEq, Option.some.injEq, Addr.mk.injEq, and_true] at e
      subst e; exact hF)
    exact this
end
section
variable {F0 : List Nat} {w0 w : World} {R : List Asrt}
theorem In.writer (h : In F0 w0 w R) : In F0 w0 (w.alloc (.cells #[.slice none 0 0] 167)) (WA w.heap.size [] :: R) := by
  obtain ⟨F, hs, hF⟩ := (h.cells #[.slice none 0 0] 167).star
  obtain ⟨F1, F2, h1, h2, h3, rfl⟩ := hs
  have hw : WA w.heap.size [] (w.alloc (.cells #[.slice none 0 0] 167)) F1 := ⟨.slice none 0 0, F1, [], h1, ⟨[], [], RowA.nil _ _ _, rfl, fun b _ => by simp, rfl⟩, fun b _ => by simp, by simp⟩
  exact ⟨fun B hB => by
    rcases List.mem_cons.1 hB with rfl | hB
    · exact WA.framed _ _
    · exact h.framed B hB, ⟨F1 ++ F2, ⟨F1, F2, hw, h2, h3, rfl⟩, hF⟩, h.mod.alloc _⟩
theorem o_fkey (h : In F0 w0 w R) {t : Tup} (ht : WfT t) : Calls Tryz.prog 124 #[.agg (encT t)] w fun e w' => e = .returned (.string (keyT t)) ∧ In F0 w0 w' R := by
  have h0 := (h.cells (encT t) 24).writer
  rw [World.size_alloc] at h0
  have H0 := Lib.hid h0
  clear h0
  have C1 : Hid (∀ w1 bw g, In F0 w0 w1 (WA bw [] :: Cells g (encT t) 24 :: R) → Calls Tryz.prog 112 #[.pointer (some ⟨bw, 0, none⟩), .agg (encT t)] w1 fun e w' => e = .returned (.tuple #[]) ∧ In F0 w0 w' (WA bw (keyL t) :: Cells g (encT t) 24 :: R)) :=
    Lib.hid fun w1 bw g h1 => by simpa using o_twrite h1 0 rfl (by simp) ht
  have C2 : Hid (∀ w1 bw g, In F0 w0 w1 (WA bw (keyL t) :: Cells g (encT t) 24 :: R) → Calls Tryz.prog 104 #[.pointer (some ⟨bw, 0, none⟩)] w1 fun e w' => ∃ v, e = .returned v ∧ In F0 w0 w' (RowA 5 1 v (keyL t).length (u8s (keyL t)) :: WA bw (keyL t) :: Cells g (encT t) 24 :: R)) :=
    Lib.hid fun w1 bw g h1 => o_wbytes h1 0 rfl (by rw [keyL_length]; omega)
  clear h ht
  go_enter Tryz.func124, Tryz.ntmps124
  go_wp2_with fail
  refine (C1.out _ _ _ H0.out).mono ?_
  rintro e w1 ⟨rfl, ho⟩
  have H1 := Lib.hid ho
  clear ho C1 H0
  go_wp2_with fail
  refine (C2.out _ _ _ H1.out).mono ?_
  rintro e w2 ⟨v, rfl, ho⟩
  obtain ⟨Fv, hv⟩ := ho.get 0 rfl
  obtain ⟨a, cap, rfl, -, -, -⟩ := hv.shape
  have hcv : (convert 35 9 (.slice a (keyL t).length cap)).run Tryz.prog w2 = .ok (.string (keyT t)) w2 := conv_str hv.all (fun e => by
    subst e
    obtain ⟨_, _, h4 | ⟨g, c, cur, e, _⟩⟩ := hv
    · exact h4.2
    · cases e)
  have H2 := Lib.hid ho.drop.drop.drop
  clear ho hv C2 H1
  generalize (keyL t).length = n at *
  go_wp2_with fail
  go_ret
  exact ⟨rfl, H2.out⟩
end
/-! ### which may be -/
theorem ftime_true {t : Int} (h0 : 0 ≤ t) (h1 : t ≤ 1099511627776) (w : World) : Calls Tryz.prog 123 #[.int .i64 t] w fun e w' => e = .returned (.bool true) ∧ w = w' := by
  go_enter Tryz.func123, Tryz.ntmps123
  go_wp2_with fail
  go_ret
  exact ⟨rfl, rfl⟩
theorem ftime_false {t : Int} (ht : ¬ (0 ≤ t ∧ t ≤ 1099511627776)) (w : World) : Calls Tryz.prog 123 #[.int .i64 t] w fun e w' => e = .returned (.bool false) ∧ w = w' := by
  by_cases h0 : 0 ≤ t
  · have h1 : decide (t ≤ 1099511627776) = false := by simp; omega
    clear ht
    go_enter Tryz.func123, Tryz.ntmps123
    go_wp2_with fail
    go_ret
    exact ⟨rfl, rfl⟩
  · have h1 : decide (0 ≤ t) = false := by simp; omega
    clear ht h0
    go_enter Tryz.func123, Tryz.ntmps123
    go_wp2_with fail
    go_ret
    exact ⟨rfl, rfl⟩
def MayPost (F0 : List Nat) (w0 : World) (R : List Asrt) (b : Bool) (e : Ending) (w' : World) : Prop := e = .returned (.bool b) ∧ In F0 w0 w' R
section
variable {F0 : List Nat} {w0 w : World} {R : List Asrt}
theorem o_fmay_true (h : In F0 w0 w R) {f : Fl} (hf : MayF f) : Calls Tryz.prog 121 #[.agg (encF f)] w (MayPost F0 w0 R true) := by
  obtain ⟨ht, b0, b1, g0, g1, t0, t1⟩ := hf
  have HH := Lib.hid h
  have C1 := fun w => tmay_true ht w
  have H1 := Lib.hid C1
  have C2 := Lib.hid (fun w => ftime_true t0 t1 w)
  clear h ht C1
  go_enter Tryz.func121, Tryz.ntmps121
  go_wp2_with fail
  refine (H1.out _).mono ?_
  rintro e w1 ⟨rfl, rfl⟩
  go_wp2_with fail
  refine (C2.out _).mono ?_
  rintro e w1 ⟨rfl, rfl⟩
  go_wp2_with fail
  go_ret
  exact ⟨rfl, (HH.out.alloc _).alloc _⟩
theorem o_fmay_false (h : In F0 w0 w R) {f : Fl} (hf : ¬ MayF f) : Calls Tryz.prog 121 #[.agg (encF f)] w (MayPost F0 w0 R false) := by
  have HH := Lib.hid h
  clear h
  rw [mayF_iff] at hf
  by_cases ht : MayT f.t
  · have H1 := Lib.hid (fun w => tmay_true ht w)
    have hb : decide (0 ≤ f.bk) = false ∨ (0 ≤ f.bk ∧ (decide (f.bk ≤ 65535) = false ∨ (f.bk ≤ 65535 ∧ (decide (0 ≤ f.gen) = false ∨ (0 ≤ f.gen ∧ (decide (f.gen ≤ 1000000) = false ∨ (f.gen ≤ 1000000 ∧ ¬ (0 ≤ f.seen ∧ f.seen ≤ 1099511627776)))))))) := by
      simp only [decide_eq_false_iff_not]
      have : ¬ (0 ≤ f.bk ∧ f.bk ≤ 65535 ∧ 0 ≤ f.gen ∧ f.gen ≤ 1000000 ∧ 0 ≤ f.seen ∧ f.seen ≤ 1099511627776) := fun h => hf ⟨ht, h⟩
      omega
    clear hf ht
    rcases hb with b | ⟨b, b | ⟨b1, b | ⟨b2, b | ⟨b3, b⟩⟩⟩⟩
    case' inr.inr.inr.inr =>
      have C2 := Lib.hid (fun w => ftime_false b w)
      clear b
    all_goals
      go_enter Tryz.func121, Tryz.ntmps121
      go_wp2_with fail
      refine (H1.out _).mono ?_
      rintro e w1 ⟨rfl, rfl⟩
      go_wp2_with fail
    all_goals
      first
        | (go_ret
           exact ⟨rfl, (HH.out.alloc _).alloc _⟩)
        | (refine (C2.out _).mono ?_
           rintro e w1 ⟨rfl, rfl⟩
           go_wp2_with fail
           go_ret
           exact ⟨rfl, (HH.out.alloc _).alloc _⟩)
  · have H1 := Lib.hid (fun w => tmay_false ht w)
    clear hf ht
    go_enter Tryz.func121, Tryz.ntmps121
    go_wp2_with fail
    refine (H1.out _).mono ?_
    rintro e w1 ⟨rfl, rfl⟩
    go_wp2_with fail
    go_ret
    exact ⟨rfl, (HH.out.alloc _).alloc _⟩
end
theorem strLawT : Keyed Tryz.prog 9 := Keyed.of_law (Go.WideMaps.string_law Tryz.underlying9)
abbrev vT (x : Fl) : Value := .agg (encT x.t)
abbrev vF (x : Fl) : Value := .agg (encF x)
abbrev vK (x : Fl) : Value := .string (keyT x.t)
abbrev FM (bm : Nat) (L : List Fl) : Asrt := TabA Tryz.prog 24 vT vF bm L
abbrev KM (bk : Nat) (L : List Fl) : Asrt := TabA Tryz.prog 9 vK vT bk L
def encQ (x : Fl) : KT := (keyT x.t, x.seen)
structure OkF (most : Int) (L : List Fl) : Prop where
  wf : ∀ x ∈ L, WfT x.t
  may : ∀ x ∈ L, MayF x
  keys : (L.map (·.t)).Nodup
  room : (L.length : Int) ≤ most
  most : most ≤ 256
def FRQ (bt : Nat) (most idle : Int) (bm bk bq : Nat) (L : List Fl) (Q : List KT) : List Asrt :=
  [Cells bt #[.int .i64 most, .int .i64 idle, .map (some bm), .map (some bk), .pointer (some ⟨bq, 0, none⟩)] 93, FM bm L, KM bk L, QA bq Q]
theorem FRQ.framed {bt : Nat} {most idle : Int} {bm bk bq : Nat} {L : List Fl} {Q : List KT} : ∀ A ∈ FRQ bt most idle bm bk bq L Q, Framed A := by
  intro A hA
  simp only [FRQ, List.mem_cons, List.not_mem_nil, or_false] at hA
  rcases hA with rfl | rfl | rfl | rfl
  · exact Cells.framed _ _ _
  · exact TabA.framed _ _
  · exact TabA.framed _ _
  · exact QA.framed _ _
def FAQ (bt : Nat) (most idle : Int) (L : List Fl) (Q : List KT) : Asrt := fun w F => ∃ bm bk bq, OkF most L ∧ Star (FRQ bt most idle bm bk bq L Q) w F
theorem FAQ.framed (bt : Nat) (most idle : Int) (L : List Fl) (Q : List KT) : Framed (FAQ bt most idle L Q) := by
  refine ⟨?_, ?_⟩
  · rintro w w' F ⟨bm, bk, bq, h1, h2⟩ hk; exact ⟨bm, bk, bq, h1, (Framed.star FRQ.framed).keep h2 hk⟩
  · rintro w F ⟨bm, bk, bq, h1, h2⟩; exact (Framed.star FRQ.framed).lt h2
abbrev FR (bt : Nat) (most idle : Int) (bm bk bq : Nat) (L : List Fl) : List Asrt := FRQ bt most idle bm bk bq L (L.map encQ)
theorem FR.framed {bt : Nat} {most idle : Int} {bm bk bq : Nat} {L : List Fl} : ∀ A ∈ FR bt most idle bm bk bq L, Framed A := FRQ.framed
abbrev FA (bt : Nat) (most idle : Int) (L : List Fl) : Asrt := FAQ bt most idle L (L.map encQ)
theorem FA.framed (bt : Nat) (most idle : Int) (L : List Fl) : Framed (FA bt most idle L) := FAQ.framed _ _ _ _ _
/-! ### plain -/
def notT (t : Tup) (x : Fl) : Bool := decide (x.t ≠ t)
def delF (t : Tup) (L : List Fl) : List Fl := L.filter (notT t)
def atF (L : List Fl) (t : Tup) : Option Fl := L.find? (fun x => decide (x.t = t))
def insF (x : Fl) : List Fl → List Fl
  | [] => [x]
  | y :: r => if klt (encQ y) (encQ x) = true then y :: insF x r else x :: y :: r
theorem insF_enc (x : Fl) : ∀ L, (insF x L).map encQ = ins (encQ x) (L.map encQ)
  | [] => rfl
  | y :: r => by
    unfold insF
    rw [List.map_cons, ins]
    split
    · rw [List.map_cons, insF_enc x r]
    · rfl
theorem insF_perm (x : Fl) : ∀ L, (insF x L).Perm (x :: L)
  | [] => List.Perm.refl _
  | y :: r => by
    unfold insF
    split
    · exact ((insF_perm x r).cons y).trans (List.Perm.swap x y r)
    · exact List.Perm.refl _
theorem delF_mem {t : Tup} {L : List Fl} {x : Fl} : x ∈ delF t L ↔ x ∈ L ∧ x.t ≠ t := by simp [delF, notT]
theorem delF_enc {t : Tup} (wt : WfT t) (mt : MayT t) : ∀ {L : List Fl}, (∀ x ∈ L, WfT x.t) → (∀ x ∈ L, MayF x) → (delF t L).map encQ = delS (keyT t) (L.map encQ)
  | [], _, _ => rfl
  | y :: r, hw, hm => by
    have ih := delF_enc wt mt (L := r) (fun x hx => hw x (List.mem_cons_of_mem _ hx)) (fun x hx => hm x (List.mem_cons_of_mem _ hx))
    have hy := hw y (by simp)
    have my := (hm y (by simp)).t
    unfold delF delS at *
    rw [List.map_cons, List.filter_cons, List.filter_cons]
    by_cases e : y.t = t
    · have h1 : notT t y = false := by simp [notT, e]
      have h2 : (encQ y).1 = keyT t := by show keyT y.t = _; rw [e]
      simp only [h1, h2, ne_eq, not_true_eq_false, decide_false, Bool.false_eq_true, if_false]
      exact ih
    · have h1 : notT t y = true := by simp [notT, e]
      have h2 : (encQ y).1 ≠ keyT t := fun h => e (keyT_inj hy wt my mt h)
      simp only [h1, h2, ne_eq, not_false_eq_true, decide_true, if_true, List.map_cons, ih]
theorem atF_none {L : List Fl} {t : Tup} : atF L t = none ↔ ∀ x ∈ L, x.t ≠ t := by simp [atF]
theorem atF_some {L : List Fl} {t : Tup} {f : Fl} (hk : (L.map (·.t)).Nodup) : atF L t = some f ↔ f ∈ L ∧ f.t = t := by
  constructor
  · intro h
    refine ⟨List.mem_of_find?_eq_some h, ?_⟩
    have := List.find?_some h
    simpa using this
  · rintro ⟨h1, h2⟩
    induction L with
    | nil => simp at h1
    | cons y r ih =>
      obtain ⟨n1, n2⟩ := List.nodup_cons.1 hk
      unfold atF at *
      rw [List.find?_cons]
      rcases List.mem_cons.1 h1 with rfl | h1
      · simp [h2]
      · have : y.t ≠ t := fun e => n1 (by show y.t ∈ _; rw [e, ← h2]; exact List.mem_map_of_mem (f := fun x : Fl => x.t) h1)
        simp only [this, decide_false]
        exact ih n2 h1
theorem nodup_vT {L : List Fl} (h : (L.map (·.t)).Nodup) : (L.map vT).Nodup := by
  unfold List.Nodup at *
  rw [List.pairwise_map] at *
  refine h.imp (fun {x y} hne e => hne ?_)
  obtain ⟨⟨a1, a2, a3, a4, a5⟩, _, _, _⟩ := x
  obtain ⟨⟨b1, b2, b3, b4, b5⟩, _, _, _⟩ := y
  simp [vT, encT] at e
  simp [e]
theorem vT_inj {x y : Fl} (h : vT x = vT y) : x.t = y.t := by
  obtain ⟨⟨a1, a2, a3, a4, a5⟩, _, _, _⟩ := x
  obtain ⟨⟨b1, b2, b3, b4, b5⟩, _, _, _⟩ := y
  simp [vT, encT] at h
  simp [h]
theorem nodup_vK {most : Int} {L : List Fl} (h : OkF most L) : (L.map vK).Nodup := by
  have hk := h.keys
  unfold List.Nodup at *
  rw [List.pairwise_map] at *
  refine hk.imp_of_mem (fun {x y} hx hy hne e => hne ?_)
  simp only [vK, Value.string.injEq] at e
  exact keyT_inj (h.wf x hx) (h.wf y hy) (h.may x hx).t (h.may y hy).t e
theorem notT_vT {t : Tup} {L : List Fl} : ∀ x ∈ L, notT t x = true ↔ vT x ≠ .agg (encT t) := by
  intro x _
  unfold notT
  rw [decide_eq_true_eq]
  constructor
  · intro h e; exact h (vT_inj (y := ⟨t, 0, 0, 0⟩) e)
  · intro h e; exact h (by rw [← e])
theorem notT_vK {most : Int} {t : Tup} {L : List Fl} (h : OkF most L) (wt : WfT t) (mt : MayT t) : ∀ x ∈ L, notT t x = true ↔ vK x ≠ .string (keyT t) := by
  intro x hx
  unfold notT
  rw [decide_eq_true_eq]
  constructor
  · intro hn e
    simp only [vK, Value.string.injEq] at e
    exact hn (keyT_inj (h.wf x hx) wt (h.may x hx).t mt e)
  · intro hn e; exact hn (by rw [← e])
theorem atF_enc {t : Tup} (wt : WfT t) (mt : MayT t) : ∀ {L : List Fl}, (∀ x ∈ L, WfT x.t) → (∀ x ∈ L, MayF x) → atS (L.map encQ) (keyT t) = (atF L t).map (·.seen)
  | [], _, _ => rfl
  | y :: r, hw, hm => by
    have ih := atF_enc wt mt (L := r) (fun x hx => hw x (List.mem_cons_of_mem _ hx)) (fun x hx => hm x (List.mem_cons_of_mem _ hx))
    have hy := hw y (by simp)
    have my := (hm y (by simp)).t
    unfold atF atS at *
    rw [List.map_cons, List.find?_cons, List.find?_cons]
    by_cases e : y.t = t
    · have h2 : (encQ y).1 = keyT t := by show keyT y.t = _; rw [e]
      simp [e, h2]; rfl
    · have h2 : (encQ y).1 ≠ keyT t := fun h => e (keyT_inj hy wt my mt h)
      simp only [e, h2, decide_false, ih]
theorem set_enc {most : Int} {L : List Fl} (h : OkF most L) {f : Fl} (wf : WfT f.t) (mf : MayF f) (hroom : atF L f.t ≠ none ∨ (L.length : Int) < most) :
    setS (L.map encQ) (keyT f.t) f.seen = ((insF f (delF f.t L)).map encQ, 0) := by
  unfold setS
  have h1 := mf.t0
  have h2 := mf.t1
  have h3 := h.room
  have h4 := h.most
  rw [if_neg (by omega), if_neg (by
    rw [List.length_map, atF_enc wf mf.t h.wf h.may]
    rintro ⟨e, hl⟩
    omega), insF_enc, delF_enc wf mf.t h.wf h.may]
  rfl
theorem delF_length {L : List Fl} (hk : (L.map (·.t)).Nodup) (t : Tup) : ((delF t L).length : Int) = L.length - (if atF L t = none then 0 else 1) := by
  obtain ⟨s1, s2⟩ := strike_length (ek := vT) (p := notT t) (key := .agg (encT t)) (nodup_vT hk) notT_vT
  split
  · rename_i e
    have : L.filter (notT t) = L := s2 (fun x hx e2 => atF_none.1 e x hx (vT_inj (y := ⟨t, 0, 0, 0⟩) e2))
    unfold delF; rw [this]; omega
  · rename_i e
    cases ha : atF L t with
    | none => exact absurd ha e
    | some f =>
      obtain ⟨q1, q2⟩ := (atF_some hk).1 ha
      have := s1 ⟨f, q1, by rw [← q2]⟩
      unfold delF; omega
theorem ok_set {most : Int} {L : List Fl} (h : OkF most L) {f : Fl} (wf : WfT f.t) (mf : MayF f) (hroom : atF L f.t ≠ none ∨ (L.length : Int) < most) : OkF most (insF f (delF f.t L)) := by
  have hp := insF_perm f (delF f.t L)
  have hm : ∀ x ∈ insF f (delF f.t L), x = f ∨ x ∈ L := fun x hx => by
    rcases List.mem_cons.1 (hp.mem_iff.1 hx) with e | hx
    · exact Or.inl e
    · exact Or.inr (delF_mem.1 hx).1
  refine ⟨fun x hx => ?_, fun x hx => ?_, ?_, ?_, h.most⟩
  · rcases hm x hx with rfl | hx
    · exact wf
    · exact h.wf x hx
  · rcases hm x hx with rfl | hx
    · exact mf
    · exact h.may x hx
  · refine (hp.map (·.t)).nodup_iff.2 (List.nodup_cons.2 ⟨fun hx => ?_, h.keys.sublist (List.filter_sublist.map _)⟩)
    obtain ⟨y, hy, e⟩ := List.mem_map.1 hx
    exact (delF_mem.1 hy).2 e
  · rw [hp.length_eq, List.length_cons]
    have := delF_length h.keys f.t
    have h3 := h.room
    split at this
    · rename_i e
      rcases hroom with h1 | h1
      · exact absurd e h1
      · push_cast; omega
    · push_cast; omega
def FCells (bt g : Nat) (most idle : Int) (bm bk bq : Nat) (f : Fl) (w' : World) : Prop :=
  w'.cell? ⟨bt, 2, none⟩ = some (.map (some bm)) ∧ w'.cell? ⟨bt, 3, none⟩ = some (.map (some bk)) ∧ w'.cell? ⟨bt, 4, none⟩ = some (.pointer (some ⟨bq, 0, none⟩)) ∧
  w'.cell? ⟨g, 0, none⟩ = some (.int .u32 f.t.src) ∧ w'.cell? ⟨g, 1, none⟩ = some (.int .u32 f.t.dst) ∧ w'.cell? ⟨g, 2, none⟩ = some (.int .i64 f.t.proto) ∧ w'.cell? ⟨g, 3, none⟩ = some (.int .i64 f.t.sport) ∧ w'.cell? ⟨g, 4, none⟩ = some (.int .i64 f.t.dport) ∧
  w'.cell? ⟨g, 5, none⟩ = some (.int .i64 f.bk) ∧ w'.cell? ⟨g, 6, none⟩ = some (.int .i64 f.gen) ∧ w'.cell? ⟨g, 7, none⟩ = some (.int .i64 f.seen)
theorem FCells.of {F0 : List Nat} {w0 w' : World} {bt g : Nat} {most idle : Int} {bm bk bq : Nat} {f : Fl} {R : List Asrt}
    (h : In F0 w0 w' (Cells g (encF f) 49 :: Cells bt #[.int .i64 most, .int .i64 idle, .map (some bm), .map (some bk), .pointer (some ⟨bq, 0, none⟩)] 93 :: R)) : FCells bt g most idle bm bk bq f w' :=
  ⟨cell_of (h.block 1 rfl) rfl, cell_of (h.block 1 rfl) rfl, cell_of (h.block 1 rfl) rfl, cell_of (h.block 0 rfl) rfl, cell_of (h.block 0 rfl) rfl, cell_of (h.block 0 rfl) rfl, cell_of (h.block 0 rfl) rfl, cell_of (h.block 0 rfl) rfl, cell_of (h.block 0 rfl) rfl, cell_of (h.block 0 rfl) rfl, cell_of (h.block 0 rfl) rfl⟩
theorem fset {w : World} {bt : Nat} {most idle : Int} {L : List Fl} {F : List Nat} (h : FA bt most idle L w F) {f : Fl} (wf : WfT f.t) (mf : MayF f) (hroom : atF L f.t ≠ none ∨ (L.length : Int) < most) :
    Calls Tryz.prog 122 #[.pointer (some ⟨bt, 0, none⟩), .agg (encF f)] w (GV (.tuple #[]) (FA bt most idle (insF f (delF f.t L))) w F) := by
  obtain ⟨bm, bk, bq, hok, h⟩ := h
  have h0 := (In.start FR.framed h).cells (encF f) 49
  obtain ⟨kt, hkt⟩ := keyOf_tup wf
  obtain ⟨w1, r1, t1, h1⟩ := tab_put (h0.drewN 1) 2 rfl tupLaw Tryz.underlying88 f hkt (nodup_vT hok.keys) (notT f.t) notT_vT
  have r1' : (Instr.mapUpdate 88 (.map (some bm)) (.agg (encT f.t)) (.agg (encF f))).run Tryz.prog (w.alloc (.cells (encF f) 49)).drew = .ok () w1 := r1
  have Hput : Hid (∀ w2, In F w w2 (Cells w.heap.size (encF f) 49 :: FR bt most idle bm bk bq L |>.set 2 (FM bm (f :: delF f.t L))) → ∃ w3, (Instr.mapUpdate 89 (.map (some bk)) (.string (keyT f.t)) (.agg (encT f.t))).run Tryz.prog w2 = .ok () w3 ∧ In F w w3 ((Cells w.heap.size (encF f) 49 :: FR bt most idle bm bk bq L |>.set 2 (FM bm (f :: delF f.t L))).set 3 (KM bk (f :: delF f.t L)))) :=
    Lib.hid fun w2 h2 => by
      obtain ⟨w3, r3, _, h3⟩ := tab_put h2 3 rfl strLawT Tryz.underlying89 f (Go.WideMaps.keyOf_string_mk Tryz.underlying9 (keyT_size f.t)) (nodup_vK hok) (notT f.t) (notT_vK hok wf mf.t)
      exact ⟨w3, r3, h3⟩
  have Hset : Hid (∀ w2, In F w w2 ((Cells w.heap.size (encF f) 49 :: FR bt most idle bm bk bq L |>.set 2 (FM bm (f :: delF f.t L))).set 3 (KM bk (f :: delF f.t L))) → Calls Tryz.prog 143 #[.pointer (some ⟨bq, 0, none⟩), .string (keyT f.t), .int .i64 f.seen] w2 fun e w' => e = .returned (.int .i64 0) ∧ In F w w' [Cells w.heap.size (encF f) 49, Cells bt #[.int .i64 most, .int .i64 idle, .map (some bm), .map (some bk), .pointer (some ⟨bq, 0, none⟩)] 93, FM bm (f :: delF f.t L), KM bk (f :: delF f.t L), QA bq ((insF f (delF f.t L)).map encQ)]) :=
    Lib.hid fun w2 h2 => by
      have := o_set h2 4 rfl (keyT_size f.t) f.seen
      rw [set_enc hok wf mf hroom] at this
      exact this
  have HG : Hid (∀ wz, In F w wz [Cells w.heap.size (encF f) 49, Cells bt #[.int .i64 most, .int .i64 idle, .map (some bm), .map (some bk), .pointer (some ⟨bq, 0, none⟩)] 93, FM bm (f :: delF f.t L), KM bk (f :: delF f.t L), QA bq ((insF f (delF f.t L)).map encQ)] → GV (.tuple #[]) (FA bt most idle (insF f (delF f.t L))) w F (.returned (.tuple #[])) wz) :=
    Lib.hid fun wz hz => by
      have a1 := tab_perm (tab_perm (hz.sel [1, 2, 3, 4] (by decide) rfl) 1 rfl (insF_perm f (delF f.t L))) 2 rfl (insF_perm f (delF f.t L))
      exact GV.mk a1 (fun F' hs => ⟨bm, bk, bq, ok_set hok wf mf hroom, hs⟩)
  have Hk : Hid (∀ {w2 : World} {R}, In F w w2 R → Calls Tryz.prog 124 #[.agg (encT f.t)] w2 fun e w' => e = .returned (.string (keyT f.t)) ∧ In F w w' R) := Lib.hid fun h => o_fkey h wf
  obtain ⟨d1, -, -, d4, d5, d6, d7, d8, d9, d10, d11⟩ := FCells.of h0
  have H1 := Lib.hid h1
  have HE : Hid (∀ w2, FCells bt w.heap.size most idle bm bk bq f w2 → True) := Lib.hid fun _ _ => trivial
  clear h h0 h1 r1 t1 hok hkt wf mf hroom
  go_enter Tryz.func122, Tryz.ntmps122
  go_wp2_with fail
  generalize w.heap.size = g at *
  have hc1 : w1.cell? ⟨bt, 2, none⟩ = some (.map (some bm)) ∧ w1.cell? ⟨g, 0, none⟩ = some (.int .u32 f.t.src) ∧ w1.cell? ⟨g, 1, none⟩ = some (.int .u32 f.t.dst) ∧ w1.cell? ⟨g, 2, none⟩ = some (.int .i64 f.t.proto) ∧ w1.cell? ⟨g, 3, none⟩ = some (.int .i64 f.t.sport) ∧ w1.cell? ⟨g, 4, none⟩ = some (.int .i64 f.t.dport) ∧ w1.cell? ⟨g, 5, none⟩ = some (.int .i64 f.bk) ∧ w1.cell? ⟨g, 6, none⟩ = some (.int .i64 f.gen) ∧ w1.cell? ⟨g, 7, none⟩ = some (.int .i64 f.seen) := by
    obtain ⟨a1, a2, a3, a4, a5, a6, a7, a8, a9, a10, a11⟩ := FCells.of H1.out
    exact ⟨a1, a4, a5, a6, a7, a8, a9, a10, a11⟩
  go_region_held3 (fun w' => w'.cell? ⟨bt, 2, none⟩ = some (.map (some bm)) ∧ w'.cell? ⟨g, 0, none⟩ = some (.int .u32 f.t.src) ∧ w'.cell? ⟨g, 1, none⟩ = some (.int .u32 f.t.dst) ∧ w'.cell? ⟨g, 2, none⟩ = some (.int .i64 f.t.proto) ∧ w'.cell? ⟨g, 3, none⟩ = some (.int .i64 f.t.sport) ∧ w'.cell? ⟨g, 4, none⟩ = some (.int .i64 f.t.dport) ∧ w'.cell? ⟨g, 5, none⟩ = some (.int .i64 f.bk) ∧ w'.cell? ⟨g, 6, none⟩ = some (.int .i64 f.gen) ∧ w'.cell? ⟨g, 7, none⟩ = some (.int .i64 f.seen)) (first | exact hc1 | go_keep) (fail)
  clear d1 d4 d5 d6 d7 d8 d9 d10 d11 r1' hc1
  have hc1 : w1.cell? ⟨bt, 3, none⟩ = some (.map (some bk)) ∧ w1.cell? ⟨g, 0, none⟩ = some (.int .u32 f.t.src) ∧ w1.cell? ⟨g, 1, none⟩ = some (.int .u32 f.t.dst) ∧ w1.cell? ⟨g, 2, none⟩ = some (.int .i64 f.t.proto) ∧ w1.cell? ⟨g, 3, none⟩ = some (.int .i64 f.t.sport) ∧ w1.cell? ⟨g, 4, none⟩ = some (.int .i64 f.t.dport) := by
    obtain ⟨a1, a2, a3, a4, a5, a6, a7, a8, a9, a10, a11⟩ := FCells.of H1.out
    exact ⟨a2, a4, a5, a6, a7, a8⟩
  go_wp2_with fail
  go_region_held3 (fun w' => w'.cell? ⟨bt, 3, none⟩ = some (.map (some bk)) ∧ w'.cell? ⟨g, 0, none⟩ = some (.int .u32 f.t.src) ∧ w'.cell? ⟨g, 1, none⟩ = some (.int .u32 f.t.dst) ∧ w'.cell? ⟨g, 2, none⟩ = some (.int .i64 f.t.proto) ∧ w'.cell? ⟨g, 3, none⟩ = some (.int .i64 f.t.sport) ∧ w'.cell? ⟨g, 4, none⟩ = some (.int .i64 f.t.dport)) (first | exact hc3 | exact hc2 | exact hc1 | go_keep)
    (first
      | (go_at_call 124
         refine (Hk.out (H1.out.drewN 1)).mono ?_
         rintro e w2 ⟨rfl, ho⟩
         have hc2 : w2.cell? ⟨bt, 3, none⟩ = some (.map (some bk)) ∧ w2.cell? ⟨g, 0, none⟩ = some (.int .u32 f.t.src) ∧ w2.cell? ⟨g, 1, none⟩ = some (.int .u32 f.t.dst) ∧ w2.cell? ⟨g, 2, none⟩ = some (.int .i64 f.t.proto) ∧ w2.cell? ⟨g, 3, none⟩ = some (.int .i64 f.t.sport) ∧ w2.cell? ⟨g, 4, none⟩ = some (.int .i64 f.t.dport) := by
           obtain ⟨a1, a2, a3, a4, a5, a6, a7, a8, a9, a10, a11⟩ := FCells.of ho
           exact ⟨a2, a4, a5, a6, a7, a8⟩
         obtain ⟨w3, r3, ho3⟩ := Hput.out w2 ho
         have hc3 : w3.cell? ⟨bt, 3, none⟩ = some (.map (some bk)) ∧ w3.cell? ⟨g, 0, none⟩ = some (.int .u32 f.t.src) ∧ w3.cell? ⟨g, 1, none⟩ = some (.int .u32 f.t.dst) ∧ w3.cell? ⟨g, 2, none⟩ = some (.int .i64 f.t.proto) ∧ w3.cell? ⟨g, 3, none⟩ = some (.int .i64 f.t.sport) ∧ w3.cell? ⟨g, 4, none⟩ = some (.int .i64 f.t.dport) := by
           obtain ⟨a1, a2, a3, a4, a5, a6, a7, a8, a9, a10, a11⟩ := FCells.of ho3
           exact ⟨a2, a4, a5, a6, a7, a8⟩
         have H3 := Lib.hid ho3
         clear ho ho3))
  clear hc1 hc2 hc3 r3
  have hc1 : w3.cell? ⟨bt, 4, none⟩ = some (.pointer (some ⟨bq, 0, none⟩)) ∧ w3.cell? ⟨g, 0, none⟩ = some (.int .u32 f.t.src) ∧ w3.cell? ⟨g, 1, none⟩ = some (.int .u32 f.t.dst) ∧ w3.cell? ⟨g, 2, none⟩ = some (.int .i64 f.t.proto) ∧ w3.cell? ⟨g, 3, none⟩ = some (.int .i64 f.t.sport) ∧ w3.cell? ⟨g, 4, none⟩ = some (.int .i64 f.t.dport) ∧ w3.cell? ⟨g, 7, none⟩ = some (.int .i64 f.seen) := by
    obtain ⟨a1, a2, a3, a4, a5, a6, a7, a8, a9, a10, a11⟩ := FCells.of H3.out
    exact ⟨a3, a4, a5, a6, a7, a8, a11⟩
  go_wp2_with fail
  go_region_held3 (fun w' => w'.cell? ⟨bt, 4, none⟩ = some (.pointer (some ⟨bq, 0, none⟩)) ∧ w'.cell? ⟨g, 0, none⟩ = some (.int .u32 f.t.src) ∧ w'.cell? ⟨g, 1, none⟩ = some (.int .u32 f.t.dst) ∧ w'.cell? ⟨g, 2, none⟩ = some (.int .i64 f.t.proto) ∧ w'.cell? ⟨g, 3, none⟩ = some (.int .i64 f.t.sport) ∧ w'.cell? ⟨g, 4, none⟩ = some (.int .i64 f.t.dport) ∧ w'.cell? ⟨g, 7, none⟩ = some (.int .i64 f.seen)) (first | exact hc3 | exact hc2 | exact hc1 | go_keep)
    (first
      | (go_at_call 124
         refine (Hk.out (H3.out.drewN 1)).mono ?_
         rintro e w4 ⟨rfl, ho⟩
         have hc2 : w4.cell? ⟨bt, 4, none⟩ = some (.pointer (some ⟨bq, 0, none⟩)) ∧ w4.cell? ⟨g, 0, none⟩ = some (.int .u32 f.t.src) ∧ w4.cell? ⟨g, 1, none⟩ = some (.int .u32 f.t.dst) ∧ w4.cell? ⟨g, 2, none⟩ = some (.int .i64 f.t.proto) ∧ w4.cell? ⟨g, 3, none⟩ = some (.int .i64 f.t.sport) ∧ w4.cell? ⟨g, 4, none⟩ = some (.int .i64 f.t.dport) ∧ w4.cell? ⟨g, 7, none⟩ = some (.int .i64 f.seen) := by
           obtain ⟨a1, a2, a3, a4, a5, a6, a7, a8, a9, a10, a11⟩ := FCells.of ho
           exact ⟨a3, a4, a5, a6, a7, a8, a11⟩
         have H4 := Lib.hid ho
         clear ho)
      | (go_at_call 143
         refine (Hset.out _ H4.out).mono ?_
         rintro e w5 ⟨rfl, ho⟩
         have hc3 : w5.cell? ⟨bt, 4, none⟩ = some (.pointer (some ⟨bq, 0, none⟩)) ∧ w5.cell? ⟨g, 0, none⟩ = some (.int .u32 f.t.src) ∧ w5.cell? ⟨g, 1, none⟩ = some (.int .u32 f.t.dst) ∧ w5.cell? ⟨g, 2, none⟩ = some (.int .i64 f.t.proto) ∧ w5.cell? ⟨g, 3, none⟩ = some (.int .i64 f.t.sport) ∧ w5.cell? ⟨g, 4, none⟩ = some (.int .i64 f.t.dport) ∧ w5.cell? ⟨g, 7, none⟩ = some (.int .i64 f.seen) := by
           obtain ⟨a1, a2, a3, a4, a5, a6, a7, a8, a9, a10, a11⟩ := FCells.of ho
           exact ⟨a3, a4, a5, a6, a7, a8, a11⟩
         have H5 := Lib.hid ho
         clear ho))
  have HF := Lib.hid (HG.out _ H5.out)
  go_wp2_with fail
  go_end0
  exact HF.out
def zT : Tup := ⟨0, 0, 0, 0, 0⟩
def zF : Fl := ⟨zT, 0, 0, 0⟩
theorem zero_flow (w : World) : (zeroValue 49).run Tryz.prog w = .ok (.agg #[.int .u32 0, .int .u32 0, .int .i64 0, .int .i64 0, .int .i64 0, .int .i64 0, .int .i64 0, .int .i64 0]) w := by kernel_rfl
theorem flook {F0 : List Nat} {w0 w : World} {R : List Asrt} {bm : Nat} {L : List Fl} (h : In F0 w0 w R) (i : Nat) (hA : R[i]? = some (FM bm L)) (hk : (L.map (·.t)).Nodup) {t : Tup} (wt : WfT t) :
    (Instr.lookup 88 (.map (some bm)) (.agg (encT t)) true).run Tryz.prog w = .ok (.tuple #[.agg (encF ((atF L t).getD zF)), .bool (atF L t).isSome]) w := by
  obtain ⟨kl, hkl⟩ := keyOf_tup wt
  rcases tab_look h i hA tupLaw Tryz.underlying88 (zero_flow w) hkl true with ⟨x, hx, e, hr⟩ | ⟨hn, hr⟩
  · have : atF L t = some x := (atF_some hk).2 ⟨hx, vT_inj (y := ⟨t, 0, 0, 0⟩) e⟩
    rw [this]; exact hr
  · have : atF L t = none := atF_none.2 (fun x hx e => hn x hx (by rw [← e]))
    rw [this]; exact hr
theorem flen {w : World} {bt : Nat} {most idle : Int} {L : List Fl} {F : List Nat} (h : FA bt most idle L w F) : Calls Tryz.prog 16 #[.pointer (some ⟨bt, 0, none⟩)] w fun e w' => e = .returned (.int .i64 L.length) ∧ w = w' := by
  obtain ⟨bm, bk, bq, hok, h⟩ := h
  have HB := In.start FR.framed h
  have c0 : w.cell? ⟨bt, 2, none⟩ = some (.map (some bm)) := cell_of (HB.block 0 rfl) rfl
  have hl : ∀ ty, (Builtin.len_ #[88] ty #[.map (some bm)]).run Tryz.prog w = .ok (.int .i64 L.length) w := fun ty => tab_len HB 1 rfl Tryz.underlying88 ty
  clear HB h hok
  go_enter Tryz.func16, Tryz.ntmps16
  go_wp2_with fail
  go_ret
  exact ⟨rfl, rfl⟩
/-! ### Get -/
def FGetPost (A : Asrt) (L : List Fl) (t : Tup) (w : World) (F : List Nat) (e : Ending) (w' : World) : Prop :=
  GV (.tuple #[.agg (encF ((atF L t).getD zF)), .bool (atF L t).isSome]) A w F e w'
theorem fget {w : World} {bt : Nat} {most idle : Int} {L : List Fl} {Q : List KT} {F : List Nat} (h : FAQ bt most idle L Q w F) {t : Tup} (wt : WfT t) :
    Calls Tryz.prog 14 #[.pointer (some ⟨bt, 0, none⟩), .agg (encT t)] w (FGetPost (FAQ bt most idle L Q) L t w F) := by
  obtain ⟨bm, bk, bq, hok, h⟩ := h
  have h0 := ((In.start FRQ.framed h).cells (encT t) 24).cells #[.int .u32 0, .int .u32 0, .int .i64 0, .int .i64 0, .int .i64 0, .int .i64 0, .int .i64 0, .int .i64 0] 49
  rw [World.size_alloc] at h0
  have l0 := flook (h0.drewN 1) 3 rfl hok.keys wt
  have l1 := flook ((h0.drewN 1).cells #[.int .u32 0, .int .u32 0, .int .i64 0, .int .i64 0, .int .i64 0, .int .i64 0, .int .i64 0, .int .i64 0] 49) 4 rfl hok.keys wt
  have HB := In.start FRQ.framed h
  have HG : Hid (∀ o1 o2 o3, FGetPost (FAQ bt most idle L Q) L t w F (.returned (.tuple #[.agg (encF ((atF L t).getD zF)), .bool (atF L t).isSome])) (((w.alloc o1).alloc o2).alloc o3).drew) := Lib.hid fun o1 o2 o3 => GV.mk ((((HB.alloc o1).alloc o2).alloc o3).drewN 1) (fun F' hs => ⟨bm, bk, bq, hok, hs⟩)
  clear HB
  have d0 : (((w.alloc (.cells (encT t) 24)).alloc (.cells #[.int .u32 0, .int .u32 0, .int .i64 0, .int .i64 0, .int .i64 0, .int .i64 0, .int .i64 0, .int .i64 0] 49))).cell? ⟨bt, 2, none⟩ = some (.map (some bm)) := cell_of (h0.block 2 rfl) rfl
  have H0 := Lib.hid h0
  clear h h0 hok wt
  generalize (atF L t).getD zF = f at *
  generalize (atF L t).isSome = q at *
  obtain ⟨⟨f1, f2, f3, f4, f5⟩, f6, f7, f8⟩ := f
  go_enter Tryz.func14, Tryz.ntmps14
  have l0' : (Instr.lookup 88 (.map (some bm)) (.agg (encT t)) true).run Tryz.prog ((w.alloc (.cells (encT t) 24)).alloc (.cells #[.int .u32 0, .int .u32 0, .int .i64 0, .int .i64 0, .int .i64 0, .int .i64 0, .int .i64 0, .int .i64 0] 49)).drew = .ok (.tuple #[.agg #[.int .u32 f1, .int .u32 f2, .int .i64 f3, .int .i64 f4, .int .i64 f5, .int .i64 f6, .int .i64 f7, .int .i64 f8], .bool q]) ((w.alloc (.cells (encT t) 24)).alloc (.cells #[.int .u32 0, .int .u32 0, .int .i64 0, .int .i64 0, .int .i64 0, .int .i64 0, .int .i64 0, .int .i64 0] 49)).drew := l0
  have l1' : (Instr.lookup 88 (.map (some bm)) (.agg (encT t)) true).run Tryz.prog (((w.alloc (.cells (encT t) 24)).alloc (.cells #[.int .u32 0, .int .u32 0, .int .i64 0, .int .i64 0, .int .i64 0, .int .i64 0, .int .i64 0, .int .i64 0] 49)).alloc (.cells #[.int .u32 0, .int .u32 0, .int .i64 0, .int .i64 0, .int .i64 0, .int .i64 0, .int .i64 0, .int .i64 0] 49)).drew = .ok (.tuple #[.agg #[.int .u32 f1, .int .u32 f2, .int .i64 f3, .int .i64 f4, .int .i64 f5, .int .i64 f6, .int .i64 f7, .int .i64 f8], .bool q]) (((w.alloc (.cells (encT t) 24)).alloc (.cells #[.int .u32 0, .int .u32 0, .int .i64 0, .int .i64 0, .int .i64 0, .int .i64 0, .int .i64 0, .int .i64 0] 49)).alloc (.cells #[.int .u32 0, .int .u32 0, .int .i64 0, .int .i64 0, .int .i64 0, .int .i64 0, .int .i64 0, .int .i64 0] 49)).drew := l1
  clear l0 l1
  go_wp2_with fail
  go_region_held3 (fun w' => w'.cell? ⟨bt, 2, none⟩ = some (.map (some bm)) ∧ w'.cell? ⟨w.heap.size, 0, none⟩ = some (.int .u32 t.src) ∧ w'.cell? ⟨w.heap.size, 1, none⟩ = some (.int .u32 t.dst) ∧ w'.cell? ⟨w.heap.size, 2, none⟩ = some (.int .i64 t.proto) ∧ w'.cell? ⟨w.heap.size, 3, none⟩ = some (.int .i64 t.sport) ∧ w'.cell? ⟨w.heap.size, 4, none⟩ = some (.int .i64 t.dport)) (go_keep) (fail)
  all_goals
    go_wp2_with fail
    exact bodyPost_ret (v := .tuple #[.agg #[.int .u32 f1, .int .u32 f2, .int .i64 f3, .int .i64 f4, .int .i64 f5, .int .i64 f6, .int .i64 f7, .int .i64 f8], .bool q]) (by simp [results, Tryz.results14, go_sem]) rfl (HG.out _ _ _)
/-! ### New -/
def clampM (n : Int) : Int := max 0 (min n 256)
def clampI (n : Int) : Int := max 1 (min n 1099511627776)
theorem clampM_ok (n : Int) : OkF (clampM n) [] := ⟨by simp, by simp, by simp, by unfold clampM; simp; omega, by unfold clampM; omega⟩
theorem o_fnew {F0 : List Nat} {w0 w : World} {R : List Asrt} (h : In F0 w0 w R) (most idle : Int) :
    Calls Tryz.prog 8 #[.int .i64 most, .int .i64 idle] w fun e w' => ∃ bt, e = .returned (.pointer (some ⟨bt, 0, none⟩)) ∧ In F0 w0 w' (FA bt (clampM most) (clampI idle) [] :: R) := by
  have h0 := tab_make (tab_make h Tryz.prog 24 vT vF) Tryz.prog 9 vK vT
  rw [World.size_alloc] at h0
  have H0 := Lib.hid (o_new h0)
  have hmm := @run_makeMap Tryz.prog
  have HG : Hid (∀ (wz : World) (bq : Nat) (m i : Int), m = clampM most → i = clampI idle → In F0 w0 wz (QA bq [] :: KM (w.heap.size + 1) [] :: FM w.heap.size [] :: R) → In F0 w0 (wz.alloc (.cells #[.int .i64 m, .int .i64 i, .map (some w.heap.size), .map (some (w.heap.size + 1)), .pointer (some ⟨bq, 0, none⟩)] 93)) (FA wz.heap.size (clampM most) (clampI idle) [] :: R)) :=
    Lib.hid fun wz bq m i hm hi hz => by
      subst hm; subst hi
      have a1 := hz.cells #[.int .i64 (clampM most), .int .i64 (clampI idle), .map (some w.heap.size), .map (some (w.heap.size + 1)), .pointer (some ⟨bq, 0, none⟩)] 93
      have a2 := a1.perm (R' := Cells wz.heap.size #[.int .i64 (clampM most), .int .i64 (clampI idle), .map (some w.heap.size), .map (some (w.heap.size + 1)), .pointer (some ⟨bq, 0, none⟩)] 93 :: FM w.heap.size [] :: KM (w.heap.size + 1) [] :: QA bq [] :: R) (by
        refine List.Perm.cons _ ?_
        exact ((List.Perm.swap _ _ _).trans ((List.Perm.swap _ _ _).cons _)).trans (List.Perm.swap _ _ _))
      exact (In.join (A1 := [_, _, _, _]) (R := R) a2).imp (A' := FA wz.heap.size (clampM most) (clampI idle) []) 0 rfl (FA.framed _ _ _ _) (fun F hF => ⟨_, _, bq, clampM_ok most, hF⟩)
  clear h h0
  go_enter Tryz.func8, Tryz.ntmps8
  go_wp2_with fail
  all_goals
    refine H0.out.mono ?_
    rintro e w1 ⟨bq, rfl, ho⟩
    have HO := Lib.hid ho
    clear ho
    go_wp2_with fail
    go_ret
    exact ⟨_, rfl, HG.out _ _ _ _ (by unfold clampM; omega) (by unfold clampI; omega) HO.out⟩
end Go.Proofs.YtgapbecddgfkmaaGreat
