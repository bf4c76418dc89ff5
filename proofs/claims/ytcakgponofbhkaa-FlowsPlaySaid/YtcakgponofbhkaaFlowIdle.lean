/- A table of flows: those that are idle. -/
import Derived.Test.YtcakgponofbhkaaFlowDrop
import Derived.Test.YtcakgponofbhkaaDrainsDue
namespace Go.Proofs.Ytcakgponofbhkaa
open Go.RowKit
open Go.Maps (Keyed)
set_option linter.unusedVariables false
set_option maxRecDepth 100000

def isIdle (c : Int) (x : Fl) : Bool := decide (x.seen ≤ c)
def idleD (L : List Fl) (c : Int) : List Fl := L.takeWhile (isIdle c)
def idleR (L : List Fl) (c : Int) : List Fl := L.dropWhile (isIdle c)
theorem idle_app (L : List Fl) (c : Int) : idleD L c ++ idleR L c = L := List.takeWhile_append_dropWhile
theorem idle_enc (c : Int) : ∀ L : List Fl, dueK (L.map encQ) c = (idleD L c).map (fun x => keyT x.t) ∧ dueR (L.map encQ) c = (idleR L c).map encQ
  | [] => ⟨rfl, rfl⟩
  | y :: r => by
    have ih := idle_enc c r
    unfold dueK dueR idleD idleR at *
    rw [List.map_cons, List.takeWhile_cons, List.dropWhile_cons, List.takeWhile_cons, List.dropWhile_cons]
    by_cases h : y.seen ≤ c
    · have h1 : decide ((encQ y).2 ≤ c) = true := decide_eq_true h
      have h2 : isIdle c y = true := decide_eq_true h
      rw [if_pos h1, if_pos h1, if_pos h2, if_pos h2, List.map_cons, List.map_cons, ih.1, ih.2]
      exact ⟨rfl, rfl⟩
    · have h1 : ¬ decide ((encQ y).2 ≤ c) = true := fun e => h (of_decide_eq_true e)
      have h2 : ¬ isIdle c y = true := fun e => h (of_decide_eq_true e)
      rw [if_neg h1, if_neg h1, if_neg h2, if_neg h2]
      exact ⟨rfl, rfl⟩
/-- Rows of flows, as cells. -/
def flatF (L : List Fl) : List Value := (L.map (fun x => (encF x).toList)).flatten
theorem flatF_snoc (L : List Fl) (x : Fl) : flatF L ++ (encF x).toList = flatF (L ++ [x]) := by simp [flatF]
theorem infoFlow : (Try.prog.info? 59).map (fun i => (i.zero.map (fun z => z.cells.size), i.size, i.bytes)) = some (some 8, 8, 56) := by kernel_rfl
theorem zero_tup (w : World) : (zeroValue 57).run Try.prog w = .ok (.agg #[.int .u32 0, .int .u32 0, .int .i64 0, .int .i64 0, .int .i64 0]) w := by kernel_rfl
theorem klook {F0 : List Nat} {w0 w : World} {R : List Asrt} {bk : Nat} {most : Int} {L : List Fl} (h : In F0 w0 w R) (i : Nat) (hA : R[i]? = some (KM bk L)) (hok : OkF most L) {x : Fl} (hx : x ∈ L) :
    (Instr.lookup 103 (.map (some bk)) (.string (keyT x.t)) false).run Try.prog w = .ok (.agg (encT x.t)) w := by
  rcases tab_look h i hA strLawT Try.underlying103 (zero_tup w) (Go.WideMaps.keyOf_string_mk Try.underlying9 (keyT_size x.t)) false with ⟨y, hy, e, hr⟩ | ⟨hn, hr⟩
  · simp only [vK, Value.string.injEq] at e
    have : y.t = x.t := keyT_inj (hok.wf y hy) (hok.wf x hx) (hok.may y hy).t (hok.may x hx).t e
    rw [hr]
    simp [vT, this]
  · exact absurd rfl (hn x hx)
theorem atF_first {x : Fl} {r : List Fl} : atF (x :: r) x.t = some x := by simp [atF]
theorem delF_first {x : Fl} {r : List Fl} (h : ((x :: r).map (·.t)).Nodup) : delF x.t (x :: r) = r := by
  unfold delF
  rw [List.filter_cons, if_neg (by simp [notT])]
  exact List.filter_eq_self.2 (fun y hy => by
    have := (List.nodup_cons.1 h).1
    simp only [notT, ne_eq, decide_eq_true_eq]
    intro e
    exact this (by show x.t ∈ _; rw [← e]; exact List.mem_map_of_mem (f := fun x : Fl => x.t) hy))
theorem o_fdropQ {F0 : List Nat} {w0 w : World} {R : List Asrt} {bt : Nat} {most idle : Int} {L : List Fl} {Q : List KT} (h : In F0 w0 w R) (i : Nat) (hA : R[i]? = some (FAQ bt most idle L Q)) {t : Tup} (wt : WfT t) :
    Calls Try.prog 38 #[.pointer (some ⟨bt, 0, none⟩), .agg (encT t)] w fun e w' => e = .returned (.bool (dropQ L Q t).2.2) ∧ In F0 w0 w' (R.set i (FAQ bt most idle (dropQ L Q t).1 (dropQ L Q t).2.1)) :=
  own_val h i hA (FAQ.framed _ _ _ _ _) fun F hF => fdropQ hF wt
theorem drop_one {most : Int} {x : Fl} {D R : List Fl} (h : OkF most (x :: (D ++ R))) : dropQ (x :: (D ++ R)) (R.map encQ) x.t = (D ++ R, R.map encQ, true) := by
  unfold dropQ
  have hx := h.wf x (by simp)
  have mx := (h.may x (by simp)).t
  have hR : ∀ y ∈ R, y ∈ x :: (D ++ R) := fun y hy => by simp [hy]
  have hd : delF x.t R = R := List.filter_eq_self.2 (fun y hy => by
    have := (List.nodup_cons.1 h.keys).1
    simp only [notT, ne_eq, decide_eq_true_eq]
    intro e
    exact this (by show x.t ∈ _; rw [← e]; exact List.mem_map_of_mem (f := fun x : Fl => x.t) (by simp [hy])))
  rw [atF_first, delF_first h.keys, ← delF_enc hx mx (fun y hy => h.wf y (hR y hy)) (fun y hy => h.may y (hR y hy)), hd]
  rfl

def IdleR' (bt : Nat) (most idle : Int) (D R : List Fl) (vs : Value) (j : Nat) (v : Value) : List Asrt :=
  [FAQ bt most idle (D.drop j ++ R) (R.map encQ), RowA 59 8 v j (flatF (D.take j)), StrsA vs (D.map (fun x => keyT x.t))]
def IdleRel (bt : Nat) (most idle : Int) (D R : List Fl) (vs : Value) (w : World) (F : List Nat) (v k : Value) (wr : World) : Prop :=
  ∃ j : Nat, k = .int .i64 j ∧ j ≤ D.length ∧ In F w wr (IdleR' bt most idle D R vs j v)
/-- What 'Idle' leaves and tells. -/
def FIdlePost (bt : Nat) (most idle : Int) (D R : List Fl) (w : World) (F : List Nat) (e : Ending) (w' : World) : Prop := Gives w F (fun v => Star [FA bt most idle R, RowA 59 8 v D.length (flatF D)]) e w'
theorem fidle_nil (now : Int) (w : World) : Calls Try.prog 30 #[.pointer none, .int .i64 now] w fun e w' => e = .returned (.slice none 0 0) ∧ w = w' := by
  go_enter Try.func30, Try.ntmps30
  go_wp2_with fail
  go_ret
  exact ⟨rfl, rfl⟩
set_option maxHeartbeats 16000000 in
theorem fidle {w : World} {bt : Nat} {most idle : Int} {L : List Fl} {F : List Nat} (h : FA bt most idle L w F) (i1 : 1 ≤ idle) (i2 : idle ≤ 1099511627776) (now : Int) (n1 : -9223372036854775808 ≤ now) (n2 : now < 9223372036854775808) :
    Calls Try.prog 30 #[.pointer (some ⟨bt, 0, none⟩), .int .i64 now] w (FIdlePost bt most idle (idleD L (now - idle)) (idleR L (now - idle)) w F) := by
  have hok := (in_one (FA.framed _ _ _ _) h).okF 0 rfl
  have HA := in_one (FA.framed _ _ _ _) h
  obtain ⟨bm, bk, bq, -, h⟩ := h
  have HB := In.start FR.framed h
  have c1 : w.cell? ⟨bt, 1, none⟩ = some (.int .i64 idle) := cell_of (HB.block 0 rfl) rfl
  have c4 : w.cell? ⟨bt, 4, none⟩ = some (.pointer (some ⟨bq, 0, none⟩)) := cell_of (HB.block 0 rfl) rfl
  have w1 : IntKind.i64.wrap (-9223372036854775808 + idle) = -9223372036854775808 + idle := by rw [IntKind.wrap_i64]; omega
  by_cases hlt : now < -9223372036854775808 + idle
  · have HG : Hid (FIdlePost bt most idle (idleD L (now - idle)) (idleR L (now - idle)) w F (.returned (.slice none 0 0)) w) := Lib.hid (by
      have e1 : idleD L (now - idle) = [] := by
        cases L with
        | nil => rfl
        | cons y r =>
          have := (hok.may y (by simp)).t0
          unfold idleD isIdle
          rw [List.takeWhile_cons, if_neg (by simp; omega)]
      have e2 := idle_app L (now - idle)
      rw [e1, List.nil_append] at e2
      rw [e1, e2]
      exact (HA.rownil 59 8 |>.perm (List.Perm.swap _ _ _)).gives _ _ (fun F' hs => hs))
    clear HB h HA hok
    go_enter Try.func30, Try.ntmps30
    go_wp2_with fail
    go_ret
    exact HG.out
  · have w2 : IntKind.i64.wrap (now - idle) = now - idle := by rw [IntKind.wrap_i64]; omega
    have hlt' : decide (now < -9223372036854775808 + idle) = false := by simp; omega
    have he := idle_enc (now - idle) L
    have ha := idle_app L (now - idle)
    have c := o_due (HB.drewN 1) 3 rfl (now - idle)
    rw [he.1, he.2] at c
    clear he
    generalize idleD L (now - idle) = D at *
    generalize idleR L (now - idle) = Rr at *
    have hDL : D.length ≤ 256 := by have h1 := hok.room; have h2 := hok.most; rw [← ha] at h1; simp at h1; omega
    have C : Hid (Calls Try.prog 54 #[.pointer (some ⟨bq, 0, none⟩), .int .i64 (now - idle)] w.drew fun e w' => ∃ a cap, e = .returned (.slice a D.length cap) ∧ w'.cell? ⟨bt, 1, none⟩ = some (.int .i64 idle) ∧ w'.cell? ⟨bt, 4, none⟩ = some (.pointer (some ⟨bq, 0, none⟩)) ∧ In F w w' (IdleR' bt most idle D Rr (.slice a D.length cap) 0 (.slice none 0 0))) := by
      refine Lib.hid (c.mono fun e w1 ⟨vs, he, ho⟩ => ?_)
      obtain ⟨Fs, hs⟩ := ho.get 0 rfl
      obtain ⟨a, cap, rfl, -, -, -⟩ := hs.read
      rw [List.length_map] at *
      refine ⟨a, cap, he, cell_of (ho.block 1 rfl) rfl, cell_of (ho.block 1 rfl) rfl, ?_⟩
      have a1 := (ho.perm (List.perm_append_comm (l₁ := [_]) (l₂ := [_, _, _, _])))
      have a2 := (In.join (A1 := FRQ bt most idle bm bk bq L (Rr.map encQ)) (R := [_]) a1).imp (A' := FAQ bt most idle L (Rr.map encQ)) 0 rfl (FAQ.framed _ _ _ _ _) (fun F hF => ⟨bm, bk, bq, hok, hF⟩)
      have a3 := (a2.rownil 59 8).perm (List.Perm.swap _ _ _)
      rw [← ha] at a3
      exact a3
    clear c hok HA HB h hlt ha
    go_enter Try.func30, Try.ntmps30
    go_wp2_with fail
    go_region_held3 (fun w' => w'.cell? ⟨bt, 1, none⟩ = some (.int .i64 idle) ∧ w'.cell? ⟨bt, 4, none⟩ = some (.pointer (some ⟨bq, 0, none⟩))) (first | exact hc1 | go_keep)
      (first
        | (go_at_call 54
           refine C.out.mono ?_
           rintro e w2 ⟨a, cap, rfl, hc1, hc2, ho⟩
           have HO := Lib.hid ho
           have hc1 : w2.cell? ⟨bt, 1, none⟩ = some (.int .i64 idle) ∧ w2.cell? ⟨bt, 4, none⟩ = some (.pointer (some ⟨bq, 0, none⟩)) := ⟨hc1, hc2⟩
           clear ho))
    go_wp2_with fail
    have HS : Hid (IdleRel bt most idle D Rr (.slice a D.length cap) w F (.slice none 0 0) (.int .i64 0) w2) := Lib.hid ⟨0, rfl, Nat.zero_le _, HO.out⟩
    clear HO C hc1 hc2 c1 c4
    go_loopw [5, 32] (IdleRel bt most idle D Rr (.slice a D.length cap) w F) (fun _ k _ => D.length - (intOf k).toNat)
    case atStart => exact HS.out
    case round =>
      obtain ⟨j, rfl, hj, ho⟩ := hrel
      clear HS
      by_cases hlt : j < D.length
      · obtain ⟨x, hx⟩ : ∃ x, D[j]? = some x := ⟨D[j], List.getElem?_eq_getElem hlt⟩
        obtain ⟨Fs, hs⟩ := ho.get 2 rfl
        obtain ⟨ba, rfl, c0⟩ := hs.at (j := j) (u := keyT x.t) (by simp [hx])
        have hlt' : (j : Int) < (D.length : Int) := by omega
        have hdrop : D.drop j = x :: D.drop (j + 1) := by rw [List.drop_eq_getElem_cons hlt]; congr 1; rw [List.getElem?_eq_getElem hlt] at hx; exact Option.some.inj hx
        have htake : flatF (D.take j) ++ (encF x).toList = flatF (D.take (j + 1)) := by
          rw [flatF_snoc, List.take_add_one, hx]; rfl
        have hok := ho.okF 0 rfl
        unfold IdleR' at ho
        rw [hdrop, List.cons_append] at ho hok
        obtain ⟨bm, bk, bq, hz⟩ := In.openF ho
        have k0 := klook hz 2 rfl hok (x := x) (by simp)
        have m0 := flook1 (((hz.cells (encT x.t) 57)).drewN 1) 2 rfl hok.keys (hok.wf x (by simp))
        rw [atF_first] at m0
        have m1 : (Instr.lookup 102 (.map (some bm)) (.agg (encT x.t)) false).run Try.prog (wr.alloc (.cells (encT x.t) 57)).drew = .ok (.agg (encF x)) (wr.alloc (.cells (encT x.t) 57)).drew := m0
        have d3 : wr.cell? ⟨bt, 3, none⟩ = some (.map (some bk)) := cell_of (hz.block 0 rfl) rfl
        have HW := Lib.hid ((hz.cells (encT x.t) 57))
        have Hj := Lib.hid hok
        have Ht := Lib.hid htake
        have Hwf := Lib.hid (hok.wf x (by simp))
        clear ho hs hx hdrop htake hlt hok hz m0
        go_wp2_with fail
        generalize wr.heap.size = g at *
        generalize wr.alloc (.cells #[.int .u32 x.t.src, .int .u32 x.t.dst, .int .i64 x.t.proto, .int .i64 x.t.sport, .int .i64 x.t.dport] 57) = W at *
        have hc0 : W.cell? ⟨bt, 2, none⟩ = some (.map (some bm)) ∧ W.cell? ⟨g, 0, none⟩ = some (.int .u32 x.t.src) ∧ W.cell? ⟨g, 1, none⟩ = some (.int .u32 x.t.dst) ∧ W.cell? ⟨g, 2, none⟩ = some (.int .i64 x.t.proto) ∧ W.cell? ⟨g, 3, none⟩ = some (.int .i64 x.t.sport) ∧ W.cell? ⟨g, 4, none⟩ = some (.int .i64 x.t.dport) := ⟨cell_of (HW.out.block 1 rfl) rfl, cell_of (HW.out.block 0 rfl) rfl, cell_of (HW.out.block 0 rfl) rfl, cell_of (HW.out.block 0 rfl) rfl, cell_of (HW.out.block 0 rfl) rfl, cell_of (HW.out.block 0 rfl) rfl⟩
        have H8 := Lib.hid (HW.out.drew.cells (encF x) 59)
        go_region_held3 (fun w' => w'.cell? ⟨bt, 2, none⟩ = some (.map (some bm)) ∧ w'.cell? ⟨g, 0, none⟩ = some (.int .u32 x.t.src) ∧ w'.cell? ⟨g, 1, none⟩ = some (.int .u32 x.t.dst) ∧ w'.cell? ⟨g, 2, none⟩ = some (.int .i64 x.t.proto) ∧ w'.cell? ⟨g, 3, none⟩ = some (.int .i64 x.t.sport) ∧ w'.cell? ⟨g, 4, none⟩ = some (.int .i64 x.t.dport)) (first | exact hc1 | exact hc0 | go_keep)
          (first
            | (refine app_step rfl (by exact H8.out) 6 rfl (.tmp 42) (.tmp 49) 51 (by rfl) Try.underlying51 infoFlow (by decide) (by decide) (by rfl) (by rfl) (by exact Src.of_block (H8.out.block 0 rfl) rfl) (fun u hu => by simp at hu; rcases hu with rfl | rfl | rfl | rfl | rfl | rfl | rfl | rfl <;> rfl) (by omega) ?_
               intro v1 w3 ho1 hg1
               have hc1 : w3.cell? ⟨bt, 2, none⟩ = some (.map (some bm)) ∧ w3.cell? ⟨g, 0, none⟩ = some (.int .u32 x.t.src) ∧ w3.cell? ⟨g, 1, none⟩ = some (.int .u32 x.t.dst) ∧ w3.cell? ⟨g, 2, none⟩ = some (.int .i64 x.t.proto) ∧ w3.cell? ⟨g, 3, none⟩ = some (.int .i64 x.t.sport) ∧ w3.cell? ⟨g, 4, none⟩ = some (.int .i64 x.t.dport) := ⟨cell_of (ho1.block 2 rfl) rfl, cell_of (ho1.block 1 rfl) rfl, cell_of (ho1.block 1 rfl) rfl, cell_of (ho1.block 1 rfl) rfl, cell_of (ho1.block 1 rfl) rfl, cell_of (ho1.block 1 rfl) rfl⟩
               have H9 := Lib.hid ho1
               clear ho1 hg1))
        have HD : Hid (Calls Try.prog 38 #[.pointer (some ⟨bt, 0, none⟩), .agg (encT x.t)] w3 fun e w' => (∃ b, e = .returned b) ∧ IdleRel bt most idle D Rr (.slice (some ⟨ba, 0, none⟩) D.length cap) w F v1 (.int .i64 (j + 1)) w') := Lib.hid (by
          have a1 := H9.out.sel [2, 3, 4, 5, 6, 7] (by decide) rfl
          have a2 := (In.join (A1 := FRQ bt most idle bm bk bq (x :: (D.drop (j + 1) ++ Rr)) (Rr.map encQ)) (R := [_, _]) a1).imp (A' := FAQ bt most idle (x :: (D.drop (j + 1) ++ Rr)) (Rr.map encQ)) 0 rfl (FAQ.framed _ _ _ _ _) (fun F hF => ⟨bm, bk, bq, Hj.out, hF⟩)
          have c := o_fdropQ a2 0 rfl Hwf.out
          rw [drop_one Hj.out] at c
          refine c.mono fun e w' ⟨he, ho⟩ => ⟨⟨_, he⟩, j + 1, by congr 1, by omega, ?_⟩
          have e2 := Ht.out
          unfold IdleR'
          rw [← e2]
          exact ho)
        obtain ⟨-, e1, e2, e3, e4, e5⟩ := hc1
        clear hc0 H8 H9 m1 HW
        go_wp2_with fail
        refine HD.out.mono ?_
        rintro e w4 ⟨⟨b, rfl⟩, ho⟩
        have HR := Lib.hid ho
        clear ho
        go_wp2_with fail
        go_roundw
        case rel => exact HR.out
        case measure => simp [intOf]; omega
      · have hge : (D.length : Int) ≤ (j : Int) := by omega
        have hjl : j = D.length := by omega
        subst hjl
        have HG : Hid (FIdlePost bt most idle D Rr w F (.returned u5) wr) := Lib.hid (by
          unfold IdleR' at ho
          rw [List.drop_length, List.nil_append, List.take_length] at ho
          exact (ho.sel [0, 1] (by decide) rfl).gives _ _ (fun F' hs => hs))
        clear ho
        go_wp2_with fail
        go_ret
        exact HG.out
end Go.Proofs.Ytcakgponofbhkaa
