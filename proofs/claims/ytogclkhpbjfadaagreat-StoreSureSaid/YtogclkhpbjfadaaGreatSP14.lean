/- What is proved here: contracts of the program's functions, and plain laws, on which the proof of StoreSure rests; without conditions. -/
import Derived.Test.YtogclkhpbjfadaaGreatSP13
import Derived.Deep.RegionHeld3
import Derived.Test.YtogclkhpbjfadaaGreatSP6
import Derived.StillTailTactics
import Derived.Test.YtogclkhpbjfadaaGreatSP2
import Derived.Deep.MidRow
import Derived.Lib.SliceRun
namespace Go.Proofs.YtogclkhpbjfadaaGreat
open Go.RowKit
set_option linter.unusedVariables false
set_option maxRecDepth 100000
theorem tmay_b (t : Tup) (w : World) : Calls Tryz.prog 183 #[.agg (encT t)] w fun e w' => e = .returned (.bool (decide (MayT t))) ∧ w' = w.alloc (.cells (encT t) 65) := by
  by_cases h : MayT t
  · rw [decide_eq_true h]; exact tmay_true h w
  · rw [decide_eq_false h]; exact tmay_false h w
theorem mayF_b (f : Fl) : decide (MayF f) = (decide (MayT f.t) && (inB f.bk 65535 && (inB f.gen 1000000 && inB f.seen 1099511627776))) := by
  unfold inB
  rw [Bool.eq_iff_iff]
  simp only [decide_eq_true_eq, Bool.and_eq_true, mayF_iff]
  constructor
  · rintro ⟨a, b, c, d, e, f, g⟩; exact ⟨a, ⟨b, c⟩, ⟨d, e⟩, f, g⟩
  · rintro ⟨a, ⟨b, c⟩, ⟨d, e⟩, f, g⟩; exact ⟨a, b, c, d, e, f, g⟩
theorem not_any (l : List Bk) : (!l.any (fun b => !mayBk b)) = l.all mayBk := by
  induction l with
  | nil => rfl
  | cons b l ih => simp only [List.any_cons, List.all_cons, Bool.not_or, Bool.not_not, ih]
section
variable {F0 : List Nat} {w0 w : World} {R : List Asrt}
abbrev agR (r : Rec) (A : Option Addr) (c : Nat) : Value := .agg (encRL r (.slice A r.bks.length c)).toArray
set_option maxHeartbeats 16000000 in
theorem o_rcmay {r : Rec} {A : Option Addr} {c : Nat} (hs : BksAt F0 w0 R A r.bks) (hl : r.bks.length ≤ 1000000000) (h : In F0 w0 w R) : Calls Tryz.prog 99 #[agR r A c] w fun e w' => e = .returned (.bool (mayRec r)) ∧ In F0 w0 w' R := by
  have H := Lib.hid h
  have HS := Lib.hid hs
  have HL := Lib.hid hl
  clear h hs hl
  obtain ⟨kind, fl, gen, bks, bk, till, count⟩ := r
  by_cases k1 : kind = 1
  · subst k1
    have e : mayRec ⟨1, fl, gen, bks, bk, till, count⟩ = decide (MayF fl) := rfl
    rw [e, mayF_b]; clear e
    have KT := Lib.hid (tmay_b fl.t)
    obtain ⟨⟨src, dst, proto, sport, dport⟩, fbk, fgen, fseen⟩ := fl
    simp only at KT ⊢
    have K1 := Lib.hid (rc_in fbk 65535)
    have K2 := Lib.hid (rc_in fgen 1000000)
    have K3 := Lib.hid (rc_time fseen)
    generalize decide (MayT ⟨src, dst, proto, sport, dport⟩) = mt at *
    generalize inB fbk 65535 = b1 at *
    generalize inB fgen 1000000 = b2 at *
    generalize inB fseen 1099511627776 = b3 at *
    cases mt with
    | false =>
      go_enter Tryz.func99, Tryz.ntmps99
      go_wp2_with fail
      refine (KT.out _).mono ?_
      rintro e w1 ⟨rfl, rfl⟩
      clear KT
      go_wp2_with fail
      go_ret
      exact ⟨rfl, ((H.out.alloc _).alloc _).alloc _⟩
    | true =>
      cases b1 with
      | false =>
        go_enter Tryz.func99, Tryz.ntmps99
        go_wp2_with fail
        refine (KT.out _).mono ?_
        rintro e w1 ⟨rfl, rfl⟩
        clear KT
        go_wp2_with fail
        refine (K1.out _).mono ?_
        rintro e w1 ⟨rfl, rfl⟩
        clear K1
        go_wp2_with fail
        go_ret
        exact ⟨rfl, ((H.out.alloc _).alloc _).alloc _⟩
      | true =>
        cases b2 with
        | false =>
          go_enter Tryz.func99, Tryz.ntmps99
          go_wp2_with fail
          refine (KT.out _).mono ?_
          rintro e w1 ⟨rfl, rfl⟩
          clear KT
          go_wp2_with fail
          refine (K1.out _).mono ?_
          rintro e w1 ⟨rfl, rfl⟩
          clear K1
          go_wp2_with fail
          refine (K2.out _).mono ?_
          rintro e w1 ⟨rfl, rfl⟩
          clear K2
          go_wp2_with fail
          go_ret
          exact ⟨rfl, ((H.out.alloc _).alloc _).alloc _⟩
        | true =>
          go_enter Tryz.func99, Tryz.ntmps99
          go_wp2_with fail
          refine (KT.out _).mono ?_
          rintro e w1 ⟨rfl, rfl⟩
          clear KT
          go_wp2_with fail
          refine (K1.out _).mono ?_
          rintro e w1 ⟨rfl, rfl⟩
          clear K1
          go_wp2_with fail
          refine (K2.out _).mono ?_
          rintro e w1 ⟨rfl, rfl⟩
          clear K2
          go_wp2_with fail
          refine (K3.out _).mono ?_
          rintro e w1 ⟨rfl, rfl⟩
          clear K3
          go_wp2_with fail
          go_ret
          exact ⟨by simp, ((H.out.alloc _).alloc _).alloc _⟩
  by_cases k2 : kind = 2
  · subst k2
    have e : mayRec ⟨2, fl, gen, bks, bk, till, count⟩ = decide (MayT fl.t) := rfl
    rw [e]; clear e k1
    have KT := Lib.hid (tmay_b fl.t)
    obtain ⟨⟨src, dst, proto, sport, dport⟩, fbk, fgen, fseen⟩ := fl
    simp only at KT ⊢
    go_enter Tryz.func99, Tryz.ntmps99
    go_wp2_with fail
    refine (KT.out _).mono ?_
    rintro e w1 ⟨rfl, rfl⟩
    clear KT
    go_wp2_with fail
    go_ret
    exact ⟨rfl, (H.out.alloc _).alloc _⟩
  by_cases k3 : kind = 3
  · subst k3
    have e : mayRec ⟨3, fl, gen, bks, bk, till, count⟩ = (inB gen 1000000 && (decide (bks.length ≤ 16) && bks.all mayBk)) := rfl
    rw [e, ← not_any]; clear e k1 k2
    have K1 := Lib.hid (rc_in gen 1000000)
    have HG : Hid (∀ o, In F0 w0 (w.alloc o) R) := Lib.hid fun o => H.out.alloc o
    have K2 : Hid (∀ o, Calls Tryz.prog 186 #[.slice A bks.length c, .func (.func 187) #[] #[]] (w.alloc o) fun e w' => e = .returned (.bool (bks.any (fun b => !mayBk b))) ∧ In F0 w0 w' R) := Lib.hid fun o => o_contbk HS.out HL.out (HG.out o)
    generalize inB gen 1000000 = b1 at *
    generalize bks.any (fun b => !mayBk b) = b2 at *
    cases b1 with
    | false =>
      go_enter Tryz.func99, Tryz.ntmps99
      go_wp2_with fail
      refine (K1.out _).mono ?_
      rintro e w1 ⟨rfl, rfl⟩
      clear K1
      go_wp2_with fail
      go_ret
      exact ⟨rfl, H.out.alloc _⟩
    | true =>
      by_cases h16 : bks.length ≤ 16
      · have q : ((bks.length : Nat) : Int) ≤ 16 := by omega
        have e : (true && (decide (bks.length ≤ 16) && !b2)) = !b2 := by simp [h16]
        rw [e]; clear e h16
        go_enter Tryz.func99, Tryz.ntmps99
        go_wp2_with fail
        refine (K1.out _).mono ?_
        rintro e w1 ⟨rfl, rfl⟩
        clear K1
        go_wp2_with fail
        refine (K2.out _).mono ?_
        rintro e w1 ⟨rfl, g⟩
        have G := Lib.hid g
        clear g K2
        go_wp2_with fail
        go_ret
        exact ⟨by simp, G.out⟩
      · have q : decide (((bks.length : Nat) : Int) ≤ 16) = false := decide_eq_false (by omega)
        have q2 : decide (bks.length ≤ 16) = false := decide_eq_false h16
        have e : (true && (decide (bks.length ≤ 16) && !b2)) = false := by simp [h16]
        rw [e]; clear e h16
        go_enter Tryz.func99, Tryz.ntmps99
        go_wp2_with fail
        refine (K1.out _).mono ?_
        rintro e w1 ⟨rfl, rfl⟩
        clear K1
        go_wp2_with fail
        go_ret
        exact ⟨rfl, H.out.alloc _⟩
  by_cases k4 : kind = 4
  · subst k4
    have e : mayRec ⟨4, fl, gen, bks, bk, till, count⟩ = (inB bk 65535 && inB till 1099511627776) := rfl
    rw [e]; clear e k1 k2 k3
    have K1 := Lib.hid (rc_in bk 65535)
    have K2 := Lib.hid (rc_time till)
    generalize inB bk 65535 = b1 at *
    generalize inB till 1099511627776 = b2 at *
    cases b1 with
    | false =>
      go_enter Tryz.func99, Tryz.ntmps99
      go_wp2_with fail
      refine (K1.out _).mono ?_
      rintro e w1 ⟨rfl, rfl⟩
      clear K1
      go_wp2_with fail
      go_ret
      exact ⟨rfl, H.out.alloc _⟩
    | true =>
      go_enter Tryz.func99, Tryz.ntmps99
      go_wp2_with fail
      refine (K1.out _).mono ?_
      rintro e w1 ⟨rfl, rfl⟩
      clear K1
      go_wp2_with fail
      refine (K2.out _).mono ?_
      rintro e w1 ⟨rfl, rfl⟩
      clear K2
      go_wp2_with fail
      go_ret
      exact ⟨by simp, H.out.alloc _⟩
  by_cases k5 : kind = 5
  · subst k5
    have e : mayRec ⟨5, fl, gen, bks, bk, till, count⟩ = inB bk 65535 := rfl
    rw [e]; clear e k1 k2 k3 k4
    have K1 := Lib.hid (rc_in bk 65535)
    go_enter Tryz.func99, Tryz.ntmps99
    go_wp2_with fail
    refine (K1.out _).mono ?_
    rintro e w1 ⟨rfl, rfl⟩
    clear K1
    go_wp2_with fail
    go_ret
    exact ⟨rfl, H.out.alloc _⟩
  by_cases k6 : kind = 6
  · subst k6
    have e : mayRec ⟨6, fl, gen, bks, bk, till, count⟩ = inB count 1000000 := rfl
    rw [e]; clear e k1 k2 k3 k4 k5
    have K1 := Lib.hid (rc_in count 1000000)
    go_enter Tryz.func99, Tryz.ntmps99
    go_wp2_with fail
    refine (K1.out _).mono ?_
    rintro e w1 ⟨rfl, rfl⟩
    clear K1
    go_wp2_with fail
    go_ret
    exact ⟨rfl, H.out.alloc _⟩
  · have e : mayRec ⟨kind, fl, gen, bks, bk, till, count⟩ = false := by unfold mayRec; simp only; rw [if_neg k1, if_neg k2, if_neg k3, if_neg k4, if_neg k5, if_neg k6]
    rw [e]; clear e
    have q1 : (kind == 1) = false := beq_eq_false_iff_ne.2 k1
    have q2 : (kind == 2) = false := beq_eq_false_iff_ne.2 k2
    have q3 : (kind == 3) = false := beq_eq_false_iff_ne.2 k3
    have q4 : (kind == 4) = false := beq_eq_false_iff_ne.2 k4
    have q5 : (kind == 5) = false := beq_eq_false_iff_ne.2 k5
    have q6 : (kind == 6) = false := beq_eq_false_iff_ne.2 k6
    clear k1 k2 k3 k4 k5 k6
    go_enter Tryz.func99, Tryz.ntmps99
    go_wp2_with fail
    go_ret
    exact ⟨rfl, H.out.alloc _⟩
end
end Go.Proofs.YtogclkhpbjfadaaGreat
namespace Go.Proofs.YtogclkhpbjfadaaGreat
open Go.RowKit
set_option linter.unusedVariables false
set_option maxRecDepth 100000
theorem infoBk : (Tryz.prog.info? 160).map (fun i => (i.zero.map (fun z => z.cells.size), i.size, i.bytes)) = some (some 3, 3, 24) := by kernel_rfl
theorem RowA.noc {T : TypeId} {k n n' c : Nat} {a : Option Addr} {xs : List Value} {w : World} {F : List Nat} (h : RowA T k (.slice a n c) n' xs w F) (ha : a = none) : c = 0 := by
  obtain ⟨h0, h1, h2⟩ := h
  rcases h2 with ⟨e, _⟩ | ⟨g, cap, cur, e, _⟩
  · cases e; rfl
  · cases e; cases ha
theorem encRL_all (r : Rec) (a : Option Addr) (n c : Nat) : (encRL r (.slice a n c)).toArray.all (·.oneCell') = true := by simp [Value.oneCell']
theorem encT_all (t : Tup) : (encT t).all (·.oneCell') = true := by simp [Value.oneCell']
theorem encF_all (f : Fl) : (encF f).all (·.oneCell') = true := by simp [Value.oneCell']
abbrev BkR (v : Value) (l : List Bk) : Asrt := RowA 160 3 v l.length (bkV l)
section
variable {F0 : List Nat} {w0 w : World} {R : List Asrt}
theorem bkclone_some (h : In F0 w0 w R) {ad : Addr} {l : List Bk} {c : Nat} (hs : Src w (some ad) l.length 3 (bkV l)) (hn : l.length ≤ 1000000) :
    Calls Tryz.prog 103 #[.slice (some ad) l.length c] w fun e w' => ∃ v, e = .returned v ∧ In F0 w0 w' (BkR v l :: R) := by
  have HH := Lib.hid h
  have HS := Lib.hid hs
  clear h hs
  have hq : ∀ (w : World) (a : Option Addr) (n c n' c' : Nat), (binOp .eql 58 (.slice a n c) (.slice none n' c')).run Tryz.prog w = .ok (.bool a.isNone) w := fun w a n c n' c' => Lib.run_eql_slice_nil w _ _ a n c n' c' Tryz.underlying58
  go_enter Tryz.func103, Tryz.ntmps103
  go_wp2_with (at_builtin; refine app_list rfl ((HH.out.cells #[] 160).row0 (k := 3) 0 rfl) 0 rfl (.tmp 5) (.tmp 6) 58 (by rfl) Tryz.underlying58 infoBk (by decide) (by decide) (by rfl) (by rfl) (src_alloc HS.out _) (bkV_one _) (by omega) ?_)
  intro v' w3 ho hg
  have HO : Hid (In F0 w0 w3 (BkR v' l :: R)) := Lib.hid (by simpa using ho)
  clear ho hg
  go_wp2_with fail
  go_ret
  exact ⟨_, rfl, HO.out⟩
theorem bkclone_none (h : In F0 w0 w R) : Calls Tryz.prog 103 #[.slice none 0 0] w fun e w' => ∃ v, e = .returned v ∧ In F0 w0 w' (BkR v [] :: R) := by
  have HH := Lib.hid (h.rownil 160 3)
  clear h
  have hq : ∀ (w : World) (a : Option Addr) (n c n' c' : Nat), (binOp .eql 58 (.slice a n c) (.slice none n' c')).run Tryz.prog w = .ok (.bool a.isNone) w := fun w a n c n' c' => Lib.run_eql_slice_nil w _ _ a n c n' c' Tryz.underlying58
  go_enter Tryz.func103, Tryz.ntmps103
  go_wp2_with fail
  go_ret
  exact ⟨_, rfl, HH.out⟩
theorem o_bkclone (h : In F0 w0 w R) {A : Option Addr} {c : Nat} {l : List Bk} (hn : A = none → c = 0) (hs : Src w A l.length 3 (bkV l)) (hl : l.length ≤ 1000000) :
    Calls Tryz.prog 103 #[.slice A l.length c] w fun e w' => ∃ v, e = .returned v ∧ In F0 w0 w' (BkR v l :: R) := by
  cases A with
  | none =>
    obtain rfl := hn rfl
    have : l = [] := by
      cases l with
      | nil => rfl
      | cons b l => obtain ⟨ad, e, _⟩ := hs.at' (by simp); cases e
    subst this
    exact bkclone_none h
  | some ad => exact bkclone_some h hs hl
def RecPost (x : Rec) (F0 : List Nat) (w0 : World) (R : List Asrt) (e : Ending) (w' : World) : Prop := ∃ v, e = .returned (.agg (encRL x v).toArray) ∧ In F0 w0 w' (BkR v x.bks :: R)
theorem rec_end {y : Rec} {pv : Value} {l : List Bk} {b1 b2 : Nat} {C1 : Array Value} {Q : List Asrt} (h : In F0 w0 w (BkR pv l :: Cells b2 (encRL y pv).toArray 69 :: Cells b1 C1 69 :: Q)) (hC : C1.size = 14) :
    (w.heap[b2]? = some (.cells (encRL y pv).toArray 69 (0, 0)) ∧ w.there b1 0 14) ∧ ((w.setCells b1 0 (encRL y pv)).heap[b1]? = some (.cells (encRL y pv).toArray 69 (0, 0)) ∧ In F0 w0 (w.setCells b1 0 (encRL y pv)) (BkR pv l :: Q)) := by
  have h2 := h.setFull 2 rfl (xs := encRL y pv) (b := b1) (C := C1) (T := 69) (by rw [hC]; rfl)
  have ht := there_of (h.block 2 rfl)
  rw [hC] at ht
  exact ⟨⟨h.block 1 rfl, ht⟩, h2.block 2 rfl, h2.sel2 (R1 := [_, _, _]) [0] (by decide) rfl⟩
end
end Go.Proofs.YtogclkhpbjfadaaGreat
namespace Go.Proofs.YtogclkhpbjfadaaGreat
open Go.RowKit
set_option linter.unusedVariables false
set_option maxRecDepth 100000
section
variable {F0 : List Nat} {w0 w : World} {R : List Asrt}
set_option maxHeartbeats 16000000 in
theorem o_rcplain3 {src dst proto sport dport fbk fgen fseen gen bk till count : Int} {bks : List Bk} {A : Option Addr} {c : Nat} (hs : BksAt F0 w0 R A bks) (hn : A = none → c = 0) (hl : bks.length ≤ 1000000) (h : In F0 w0 w R) : Calls Tryz.prog 193 #[agR ⟨3, ⟨⟨src, dst, proto, sport, dport⟩, fbk, fgen, fseen⟩, gen, bks, bk, till, count⟩ A c] w (RecPost ⟨3, zeroF, gen, bks, 0, 0, 0⟩ F0 w0 R) := by
  obtain ⟨C0, hC0⟩ : ∃ C, C = (encRL ⟨3, ⟨⟨src, dst, proto, sport, dport⟩, fbk, fgen, fseen⟩, gen, bks, bk, till, count⟩ (.slice A bks.length c)).toArray := ⟨_, rfl⟩
  obtain ⟨C1, hC1⟩ : ∃ C, C = (encRL zeroRec (.slice none 0 0)).toArray := ⟨_, rfl⟩
  obtain ⟨C2, hC2⟩ : ∃ C, C = (encRL ⟨3, zeroF, 0, [], 0, 0, 0⟩ (.slice none 0 0)).toArray := ⟨_, rfl⟩
  have h3 : In F0 w0 (((w.alloc (.cells C0 69)).alloc (.cells C1 69)).alloc (.cells C2 69)) (Cells (w.heap.size + 1 + 1) C2 69 :: Cells (w.heap.size + 1) C1 69 :: Cells w.heap.size C0 69 :: R) := by
    have h3 := ((h.cells C0 69).cells C1 69).cells C2 69
    simp only [World.size_alloc] at h3
    exact h3
  have HH3 := Lib.hid (fun n => h3.drewN n)
  have y0 := cell_of (o := 9) (h3.block 2 rfl) (show C0[9]? = some (.int .i64 gen) by rw [hC0]; rfl)
  have y1 := cell_of (o := 10) (h3.block 2 rfl) (show C0[10]? = some (.slice A bks.length c) by rw [hC0]; rfl)
  have K := Lib.hid (fun w' (h' : In F0 w0 w' (Cells (w.heap.size + 1 + 1) C2 69 :: Cells (w.heap.size + 1) C1 69 :: Cells w.heap.size C0 69 :: R)) => o_bkclone (c := c) h' hn (hs _ h'.drop.drop.drop) hl)
  have HA : Hid (∀ w' v, In F0 w0 w' (BkR v bks :: Cells (w.heap.size + 1 + 1) C2 69 :: Cells (w.heap.size + 1) C1 69 :: Cells w.heap.size C0 69 :: R) →
      (w'.cell? ⟨w.heap.size, 9, none⟩ = some (.int .i64 gen) ∧ w'.cell? ⟨w.heap.size, 10, none⟩ = some (.slice A bks.length c)) ∧ (w'.frozen? ⟨w.heap.size + 1 + 1, 9, none⟩ = false ∧ w'.frozen? ⟨w.heap.size + 1 + 1, 10, none⟩ = false) ∧ (w'.cell? ⟨w.heap.size + 1 + 1, 9, none⟩ = some (.int .i64 0) ∧ w'.cell? ⟨w.heap.size + 1 + 1, 10, none⟩ = some (.slice none 0 0)) ∧
      ∃ a cc, v = .slice a bks.length cc) := Lib.hid fun w' v h' => by
    obtain ⟨F, hr⟩ := h'.get 0 rfl
    obtain ⟨a, cc, e, -, -, -⟩ := RowA.shape hr
    exact ⟨⟨cell_of (h'.block 3 rfl) (by rw [hC0]; rfl), cell_of (h'.block 3 rfl) (by rw [hC0]; rfl)⟩, ⟨free_of (h'.block 1 rfl), free_of (h'.block 1 rfl)⟩, ⟨cell_of (h'.block 1 rfl) (by rw [hC2]; rfl), cell_of (h'.block 1 rfl) (by rw [hC2]; rfl)⟩, a, cc, e⟩
  have HB : Hid (∀ w' v, In F0 w0 w' (BkR v bks :: Cells (w.heap.size + 1 + 1) C2 69 :: Cells (w.heap.size + 1) C1 69 :: Cells w.heap.size C0 69 :: R) →
      In F0 w0 ((w'.setCell ⟨w.heap.size + 1 + 1, 9, none⟩ (.int .i64 gen)).setCell ⟨w.heap.size + 1 + 1, 10, none⟩ v) (BkR v bks :: Cells (w.heap.size + 1 + 1) (encRL ⟨3, zeroF, gen, bks, 0, 0, 0⟩ v).toArray 69 :: Cells (w.heap.size + 1) C1 69 :: Cells w.heap.size C0 69 :: R)) := Lib.hid fun w' v h' => by
    have h2 := In.setCs [.int .i64 gen, v] 9 1 h' (b := w.heap.size + 1 + 1) (C := C2) (T := 69) rfl
    rw [setL_at (ys := (encRL ⟨3, zeroF, gen, bks, 0, 0, 0⟩ v)) (by rw [hC2]; simp) (by rw [hC2]; simp [zeroF, zeroT])] at h2
    exact h2
  have HC : Hid (∀ w' v, In F0 w0 w' (BkR v bks :: Cells (w.heap.size + 1 + 1) (encRL ⟨3, zeroF, gen, bks, 0, 0, 0⟩ v).toArray 69 :: Cells (w.heap.size + 1) C1 69 :: Cells w.heap.size C0 69 :: R) →
      (w'.heap[w.heap.size + 1 + 1]? = some (.cells (encRL ⟨3, zeroF, gen, bks, 0, 0, 0⟩ v).toArray 69 (0, 0)) ∧ w'.there (w.heap.size + 1) 0 14) ∧
      ((w'.setCells (w.heap.size + 1) 0 (encRL ⟨3, zeroF, gen, bks, 0, 0, 0⟩ v)).heap[w.heap.size + 1]? = some (.cells (encRL ⟨3, zeroF, gen, bks, 0, 0, 0⟩ v).toArray 69 (0, 0)) ∧ In F0 w0 (w'.setCells (w.heap.size + 1) 0 (encRL ⟨3, zeroF, gen, bks, 0, 0, 0⟩ v)) (BkR v bks :: R))) := Lib.hid fun w' v h' => by
    have h2 := h'.setFull 2 rfl (xs := (encRL ⟨3, zeroF, gen, bks, 0, 0, 0⟩ v)) (b := w.heap.size + 1) (C := C1) (T := 69) (by rw [hC1]; rfl)
    have ht := there_of (h'.block 2 rfl)
    rw [hC1] at ht
    exact ⟨⟨h'.block 1 rfl, ht⟩, h2.block 2 rfl, h2.sel2 (R1 := [_, _, _, _]) [0] (by decide) rfl⟩
  have hne1 : ¬ w.heap.size + 1 + 1 = w.heap.size := by omega
  have hne2 : ¬ w.heap.size = w.heap.size + 1 + 1 := by omega
  clear h h3 hs hn hl
  subst hC0 hC1 hC2
  go_enter Tryz.func193, Tryz.ntmps193
  go_wp2_with fail
  go_region_held3 (fun w' => w'.cell? ⟨w.heap.size, 9, none⟩ = some (.int .i64 gen) ∧ w'.cell? ⟨w.heap.size, 10, none⟩ = some (.slice A bks.length c)) (first | exact hz | exact ⟨y0, y1⟩ | go_keep)
    (first | (go_at_call 103; refine (K.out _ (HH3.out _)).mono ?_; rintro e w1 ⟨v, rfl, g1⟩; obtain ⟨hz, ⟨f1, f2⟩, ⟨d1, d2⟩, av, cv, rfl⟩ := HA.out w1 v g1; have G2 := Lib.hid (HB.out w1 _ g1); clear g1))
  clear y0 y1 K HA HB hz HH3 f1 f2 d1 d2
  obtain ⟨⟨q1, q2⟩, q3, q4⟩ := HC.out _ _ G2.out
  have Q2 := Lib.hid q2
  have Q3 := Lib.hid (And.intro q3 q4)
  clear HC G2 q2 q3 q4
  go_wp2_with (refine wpList_load_row rfl 69 (.tmp 3) rfl (w.heap.size + 1 + 1) rfl 69 _ (0, 0) _ q1 Tryz.underlying69 rfl (by kernel_rfl) ?_; refine wpList_store_mid (op := ⟨none, Op.store 69 (.tmp 2) (.tmp 48), _, _, _, _⟩) (by rfl) 69 (.tmp 2) (.tmp 48) rfl (w.heap.size + 1) 0 (encRL ⟨3, zeroF, gen, bks, 0, 0, 0⟩ (.slice av bks.length cv)).toArray (by rfl) (by rfl) Q2.out (by kernel_rfl) (encRL_all _ _ _ _) ?_)
  exact bodyPost_ret (results_cell_row Tryz.results193 _ _ (w.heap.size + 1) 69 _ (0, 0) _ rfl Q3.out.1 Tryz.underlying69 rfl (by kernel_rfl)) rfl ⟨_, rfl, Q3.out.2⟩
end
end Go.Proofs.YtogclkhpbjfadaaGreat
namespace Go.Proofs.YtogclkhpbjfadaaGreat
open Go.RowKit
set_option linter.unusedVariables false
set_option maxRecDepth 100000
section
variable {F0 : List Nat} {w0 w : World} {R : List Asrt}
set_option maxHeartbeats 16000000 in
theorem o_rcplain {r : Rec} {A : Option Addr} {c : Nat} (hs : BksAt F0 w0 R A r.bks) (hn : A = none → c = 0) (hl : r.bks.length ≤ 1000000) (h : In F0 w0 w R) : Calls Tryz.prog 193 #[agR r A c] w (RecPost (plainRec r) F0 w0 R) := by
  have H : Hid (∀ w' , In F0 w0 w' R → In F0 w0 w' (BkR (.slice none 0 0) [] :: R)) := Lib.hid fun w' h' => h'.rownil _ _
  have HH := Lib.hid h
  obtain ⟨kind, fl, gen, bks, bk, till, count⟩ := r
  by_cases k1 : kind = 1
  · subst k1
    have e : plainRec ⟨1, fl, gen, bks, bk, till, count⟩ = ⟨1, fl, 0, [], 0, 0, 0⟩ := rfl
    rw [e]; clear e h hs hn hl
    obtain ⟨⟨src, dst, proto, sport, dport⟩, fbk, fgen, fseen⟩ := fl
    go_enter Tryz.func193, Tryz.ntmps193
    go_wp2_with fail
    exact bodyPost_ret (results_cell_row Tryz.results193 _ _ (w.heap.size + 1) 69 _ (0, 0) _ rfl (heap3_mid w _ _ _) Tryz.underlying69 rfl (by kernel_rfl)) rfl ⟨.slice none 0 0, rfl, H.out _ (((HH.out.alloc _).alloc _).alloc _)⟩
  by_cases k2 : kind = 2
  · subst k2
    have e : plainRec ⟨2, fl, gen, bks, bk, till, count⟩ = ⟨2, ⟨fl.t, 0, 0, 0⟩, 0, [], 0, 0, 0⟩ := rfl
    rw [e]; clear e h hs hn hl k1
    obtain ⟨⟨src, dst, proto, sport, dport⟩, fbk, fgen, fseen⟩ := fl
    go_enter Tryz.func193, Tryz.ntmps193
    go_wp2_with fail
    exact bodyPost_ret (results_cell_row Tryz.results193 _ _ (w.heap.size + 1) 69 _ (0, 0) _ rfl (heap3_mid w _ _ _) Tryz.underlying69 rfl (by kernel_rfl)) rfl ⟨.slice none 0 0, rfl, H.out _ (((HH.out.alloc _).alloc _).alloc _)⟩
  by_cases k3 : kind = 3
  · subst k3
    have e : plainRec ⟨3, fl, gen, bks, bk, till, count⟩ = ⟨3, zeroF, gen, bks, 0, 0, 0⟩ := rfl
    rw [e]; clear e k1 k2
    obtain ⟨⟨src, dst, proto, sport, dport⟩, fbk, fgen, fseen⟩ := fl
    exact o_rcplain3 hs hn hl h
  by_cases k4 : kind = 4
  · subst k4
    have e : plainRec ⟨4, fl, gen, bks, bk, till, count⟩ = ⟨4, zeroF, 0, [], bk, till, 0⟩ := rfl
    rw [e]; clear e h hs hn hl k1 k2 k3
    go_enter Tryz.func193, Tryz.ntmps193
    go_wp2_with fail
    have hne1 : ¬ w.heap.size + 1 + 1 = w.heap.size := by omega
    have hne2 : ¬ w.heap.size = w.heap.size + 1 + 1 := by omega
    go_region_held3 (fun w' => w'.cell? ⟨w.heap.size, 11, none⟩ = some (.int .i64 bk) ∧ w'.cell? ⟨w.heap.size, 12, none⟩ = some (.int .i64 till)) (first | exact ⟨rfl, rfl⟩ | (refine ⟨?_, ?_⟩ <;> go_simp; done) | go_keep) (fail)
    go_wp2_with fail
    exact bodyPost_ret (results_cell_row Tryz.results193 _ _ (w.heap.size + 1) 69 _ (0, 0) _ rfl (heap3_mid w _ _ _) Tryz.underlying69 rfl (by kernel_rfl)) rfl ⟨.slice none 0 0, rfl, H.out _ ((((HH.out.alloc _).alloc _).alloc _).drewN 1)⟩
  by_cases k5 : kind = 5
  · subst k5
    have e : plainRec ⟨5, fl, gen, bks, bk, till, count⟩ = ⟨5, zeroF, 0, [], bk, 0, 0⟩ := rfl
    rw [e]; clear e h hs hn hl k1 k2 k3 k4
    go_enter Tryz.func193, Tryz.ntmps193
    go_wp2_with fail
    exact bodyPost_ret (results_cell_row Tryz.results193 _ _ (w.heap.size + 1) 69 _ (0, 0) _ rfl (heap3_mid w _ _ _) Tryz.underlying69 rfl (by kernel_rfl)) rfl ⟨.slice none 0 0, rfl, H.out _ (((HH.out.alloc _).alloc _).alloc _)⟩
  by_cases k6 : kind = 6
  · subst k6
    have e : plainRec ⟨6, fl, gen, bks, bk, till, count⟩ = ⟨6, zeroF, 0, [], 0, 0, count⟩ := rfl
    rw [e]; clear e h hs hn hl k1 k2 k3 k4 k5
    go_enter Tryz.func193, Tryz.ntmps193
    go_wp2_with fail
    exact bodyPost_ret (results_cell_row Tryz.results193 _ _ (w.heap.size + 1) 69 _ (0, 0) _ rfl (heap3_mid w _ _ _) Tryz.underlying69 rfl (by kernel_rfl)) rfl ⟨.slice none 0 0, rfl, H.out _ (((HH.out.alloc _).alloc _).alloc _)⟩
  · have e : plainRec ⟨kind, fl, gen, bks, bk, till, count⟩ = ⟨kind, zeroF, 0, [], 0, 0, 0⟩ := by unfold plainRec; simp only; rw [if_neg k1, if_neg k2, if_neg k3, if_neg k4, if_neg k5, if_neg k6]
    have q1 : (kind == 1) = false := beq_eq_false_iff_ne.2 k1
    have q2 : (kind == 2) = false := beq_eq_false_iff_ne.2 k2
    have q3 : (kind == 3) = false := beq_eq_false_iff_ne.2 k3
    have q4 : (kind == 4) = false := beq_eq_false_iff_ne.2 k4
    have q5 : (kind == 5) = false := beq_eq_false_iff_ne.2 k5
    have q6 : (kind == 6) = false := beq_eq_false_iff_ne.2 k6
    rw [e]; clear e h hs hn hl k1 k2 k3 k4 k5 k6
    go_enter Tryz.func193, Tryz.ntmps193
    go_wp2_with fail
    exact bodyPost_ret (results_cell_row Tryz.results193 _ _ (w.heap.size + 1) 69 _ (0, 0) _ rfl (heap3_mid w _ _ _) Tryz.underlying69 rfl (by kernel_rfl)) rfl ⟨.slice none 0 0, rfl, H.out _ (((HH.out.alloc _).alloc _).alloc _)⟩
end
end Go.Proofs.YtogclkhpbjfadaaGreat
namespace Go.Proofs.YtogclkhpbjfadaaGreat
open Go.RowKit
set_option linter.unusedVariables false
set_option maxRecDepth 100000
theorem setCells_heap : ∀ (us : List Value) (w : World) (g o : Nat) (C : Array Value) (T : TypeId) (fz : Nat × Nat), w.heap[g]? = some (.cells C T fz) → o + us.length ≤ C.size →
    ∃ C', (w.setCells g o us).heap[g]? = some (.cells C' T fz) ∧ C'.toList = C.toList.take o ++ us ++ C.toList.drop (o + us.length) ∧ Mod [g] w (w.setCells g o us)
  | [], w, g, o, C, T, fz, h, _ => ⟨C, h, by simp, Mod.refl _ _⟩
  | v :: r, w, g, o, C, T, fz, h, hl => by
    have hl' : o + 1 + r.length ≤ C.size := by simp at hl; omega
    have h1 := hp_setCell_same (o := o) (v := v) h
    obtain ⟨C', e1, e2, e3⟩ := setCells_heap r (w.setCell ⟨g, o, none⟩ v) g (o + 1) _ T fz h1 (by simpa using hl')
    refine ⟨C', e1, ?_, ((Mod.refl [g] w).setCell (p := ⟨g, o, none⟩) (Or.inl (by simp)) v).trans' e3⟩
    rw [e2]
    have ho : o < C.toList.length := by rw [Array.length_toList]; omega
    rw [Array.toList_setIfInBounds, List.take_set, List.drop_set, if_pos (by omega), List.take_add_one]
    rw [show (C.toList[o]?).toList = [C.toList[o]] by rw [List.getElem?_eq_getElem ho]; rfl]
    rw [List.set_append_right _ _ (by simp; omega)]
    rw [show o - (C.toList.take o).length = 0 by simp; omega]
    simp only [List.set_cons_zero, List.append_assoc, List.cons_append, List.nil_append, List.length_cons]
    rw [show o + 1 + r.length = o + (r.length + 1) by omega]
def putAt (xs : List Value) (o : Nat) (us : List Value) : List Value := xs.take o ++ us ++ xs.drop (o + us.length)
theorem putAt_length {xs us : List Value} {o : Nat} (h : o + us.length ≤ xs.length) : (putAt xs o us).length = xs.length := by unfold putAt; simp; omega
theorem RowA.put {T : TypeId} {k : Nat} {g n' n cap : Nat} {xs : List Value} {w : World} {F : List Nat} (h : RowA T k (.slice (some ⟨g, 0, none⟩) n' cap) n xs w F) {o : Nat} {us : List Value} (ho : o + us.length ≤ xs.length) :
    RowA T k (.slice (some ⟨g, 0, none⟩) n' cap) n (putAt xs o us) (w.setCells g o us) F ∧ Mod F w (w.setCells g o us) := by
  obtain ⟨h0, h1, h2⟩ := h
  rcases h2 with ⟨e, h3⟩ | ⟨g', cap', cur, e, h3, h4, h5, h6, h7, h8⟩
  · cases e
  · cases e
    have hlen : xs.length ≤ cur.size := by
      have := congrArg List.length h8
      simp at this; omega
    obtain ⟨C', e1, e2, e3⟩ := setCells_heap us w g o cur T (0, 0) h4 (by omega)
    refine ⟨⟨h0, by rw [putAt_length ho, h1], Or.inr ⟨g, cap, C', rfl, h3, e1, h5, h6, ?_, ?_⟩⟩, e3.mono (fun b hb => by rw [h0]; simpa [Value.ownBlock] using hb)⟩
    · rw [← Array.length_toList, e2]; simp; omega
    · rw [e2]
      obtain ⟨D, e4⟩ : ∃ D, cur.toList = xs ++ D := ⟨cur.toList.drop (n' * k), by rw [← h8, List.take_append_drop]⟩
      have hx : xs.length = n' * k := h1
      rw [e4]
      unfold putAt
      have a1 : (xs ++ D).take o = xs.take o := List.take_append_of_le_length (by omega)
      have a2 : (xs ++ D).drop (o + us.length) = xs.drop (o + us.length) ++ D := List.drop_append_of_le_length (by omega)
      rw [a1, a2, ← List.append_assoc, List.take_append_of_le_length (by simp; omega), List.take_of_length_le (by simp; omega)]
theorem RowA.there {T : TypeId} {k : Nat} {g n' n cap : Nat} {xs : List Value} {w : World} {F : List Nat} (h : RowA T k (.slice (some ⟨g, 0, none⟩) n' cap) n xs w F) {o m : Nat} (ho : o + m ≤ xs.length) : w.there g o m := by
  obtain ⟨h0, h1, h2⟩ := h
  rcases h2 with ⟨e, h3⟩ | ⟨g', cap', cur, e, h3, h4, h5, h6, h7, h8⟩
  · cases e
  · cases e
    have hlen : xs.length ≤ cur.size := by
      have := congrArg List.length h8
      simp at this; omega
    intro j hj
    refine ⟨?_, free_of h4⟩
    rw [cell_of h4 (v := cur[o + j]'(by omega)) (Array.getElem?_eq_getElem _)]; rfl
theorem row_put {F0 : List Nat} {w0 w : World} {R : List Asrt} {T : TypeId} {k g n' n cap : Nat} {xs : List Value} (h : In F0 w0 w R) (i : Nat) (hA : R[i]? = some (RowA T k (.slice (some ⟨g, 0, none⟩) n' cap) n xs)) {o : Nat} {us : List Value} (ho : o + us.length ≤ xs.length) :
    In F0 w0 (w.setCells g o us) (R.set i (RowA T k (.slice (some ⟨g, 0, none⟩) n' cap) n (putAt xs o us))) :=
  h.step i hA (RowA.framed _ _ _ _ _) fun F hF => ⟨F, (hF.put ho).1, Grew.refl _ _, (hF.put ho).2⟩
theorem RowA.pre {T : TypeId} {k : Nat} {g n' n cap m : Nat} {xs : List Value} {w : World} {F : List Nat} (h : RowA T k (.slice (some ⟨g, 0, none⟩) n' cap) n xs w F) (hm : m ≤ n) : RowA T k (.slice (some ⟨g, 0, none⟩) m cap) m (xs.take (m * k)) w F := by
  obtain ⟨h0, h1, h2⟩ := h
  rcases h2 with ⟨e, h3⟩ | ⟨g', cap', cur, e, h3, h4, h5, h6, h7, h8⟩
  · cases e
  · cases e
    have hle : m * k ≤ n' * k := Nat.mul_le_mul_right _ hm
    refine ⟨by rw [h0]; rfl, by rw [List.length_take, h1]; exact Nat.min_eq_left hle, Or.inr ⟨g, cap, cur, rfl, h3, h4, by omega, h6, h7, ?_⟩⟩
    rw [← h8, List.take_take, Nat.min_eq_left hle]
end Go.Proofs.YtogclkhpbjfadaaGreat
