/- Rows.PathPlaysSaid -/
import Derived.Test.YtgapbecddgfkmaaGreatPY35
namespace Go.Proofs.YtgapbecddgfkmaaGreat
open Go.RowKit
set_option linter.unusedVariables false
set_option maxHeartbeats 64000000
set_option maxRecDepth 100000
attribute [-go_sem] run_eql_struct
def touchRF (L : List Fl) (t : Tup) (now : Int) : List Fl × Bool :=
  match atF L t with
  | none => (L, false)
  | some f => if (0 ≤ now ∧ now ≤ 1099511627776) ∧ f.seen ≤ now then (pfF L { f with seen := now }, true) else (L, true)
theorem touchRF_none {L : List Fl} {t : Tup} {now : Int} (h : atF L t = none) : touchRF L t now = (L, false) := by unfold touchRF; rw [h]
theorem touchRF_some {L : List Fl} {t : Tup} {now : Int} {f : Fl} (h : atF L t = some f) : touchRF L t now = if (0 ≤ now ∧ now ≤ 1099511627776) ∧ f.seen ≤ now then (pfF L { f with seen := now }, true) else (L, true) := by unfold touchRF; rw [h]
theorem rf_head {F : List Nat} {w0 w : World} {bt : Nat} {most wait : Int} {L : List Fl} {R : List Asrt} {r : Value} (h : In F w0 w (RFA bt most wait L :: R)) : GV r (RFA bt most wait L) w0 F (.returned r) w :=
  GV.mk h.head (fun F' hs => by
      obtain ⟨F1, F2, q1, q2, q3, q4⟩ := hs
      obtain rfl : F2 = [] := q2
      rw [q4]
      simpa using q1)
theorem rf_touch {w : World} {bt : Nat} {most wait : Int} {L : List Fl} {F : List Nat} (h : RFA bt most wait L w F) (hl : L.length ≤ 1000000) (t : Tup) (now : Int) :
    Calls Tryz.prog 58 #[.pointer (some ⟨bt, 0, none⟩), .agg (encT t), .int .i64 now] w (GV (.bool (touchRF L t now).2) (RFA bt most wait (touchRF L t now).1) w F) := by
  have h0 := ((in_one (RFA.framed bt most wait L) h).cells (encT t) 24).perm (List.Perm.swap _ _ _)
  have HAT := Lib.hid (o_rfat h0 0 rfl hl t)
  rcases atF_ix (L := L) (t := t) with ⟨e, e2⟩ | ⟨j, x, e, hj, -, e2, -⟩
  · rw [e] at HAT
    rw [touchRF_none e2]
    clear e e2 h0 h hl
    go_enter Tryz.func58, Tryz.ntmps58
    go_wp2_with fail
    refine HAT.out.mono ?_
    rintro e w1 ⟨rfl, ho⟩
    have HO := Lib.hid ho
    clear ho HAT
    go_wp2_with fail
    go_ret
    exact rf_head HO.out
  · rw [e] at HAT
    rw [touchRF_some e2]
    clear e e2 h0 h
    have hlt : j < L.length := (List.getElem?_eq_some_iff.1 hj).1
    have i1 : (j : Int) < (L.length : Int) := by omega
    have hd2 : decide ((j : Int) < 0) = false := by simp
    by_cases ht : 0 ≤ now ∧ now ≤ 1099511627776
    · have HT := Lib.hid (rtime_true ht.1 ht.2)
      by_cases hs : x.seen ≤ now
      · rw [if_pos ⟨ht, hs⟩]
        have hd : decide (x.seen ≤ now) = true := by simp; omega
        clear hs ht
        go_enter Tryz.func58, Tryz.ntmps58
        go_wp2_with fail
        generalize w.heap.size = tb at *
        refine HAT.out.mono ?_
        rintro e w1 ⟨rfl, ho⟩
        obtain ⟨v, ho⟩ := ho.openR
        obtain ⟨Fv, hv⟩ := ho.get 1 rfl
        obtain ⟨av, cv, rfl, l1, l2, -⟩ := hv.shape
        have b0 : w1.cell? ⟨bt, 0, none⟩ = some (.slice av L.length cv) := cell_of (ho.block 0 rfl) rfl
        obtain ⟨g, rfl, hc⟩ := flow_at_row ho 1 rfl (by omega)
        obtain ⟨x0, x1, x2, x3, x4, x5, x6, x7⟩ := hc j x hj
        have HO := Lib.hid ho
        clear hc ho hv HAT hj
        go_wp2_with fail
        refine (HT.out _).mono ?_
        rintro e w2 ⟨rfl, rfl⟩
        go_wp2_with fail
        have HI : Hid (In F w (w1.alloc (.cells #[.int .u32 x.t.src, .int .u32 x.t.dst, .int .i64 x.t.proto, .int .i64 x.t.sport, .int .i64 x.t.dport, .int .i64 x.bk, .int .i64 x.gen, .int .i64 now] 49)) (RFr bt most wait (.slice (some ⟨g, 0, none⟩) L.length cv) L ++ [Cells w1.heap.size (encF { x with seen := now }) 49, Cells tb (encT t) 24])) := Lib.hid ((HO.out.cells (encF { x with seen := now }) 49).perm (List.perm_middle (l₁ := RFr bt most wait (.slice (some ⟨g, 0, none⟩) L.length cv) L) (l₂ := [Cells tb (encT t) 24])).symm)
        generalize (w1.alloc (.cells #[.int .u32 x.t.src, .int .u32 x.t.dst, .int .i64 x.t.proto, .int .i64 x.t.sport, .int .i64 x.t.dport, .int .i64 x.bk, .int .i64 x.gen, .int .i64 now] 49)) = wz at *
        generalize w1.heap.size = fb at *
        clear x0 x1 x2 x3 x4 x5 x6 x7 b0 HO hd hd2 HT
        have HPF : Hid (∀ w', In F w w' (RFr bt most wait (.slice (some ⟨g, 0, none⟩) L.length cv) L ++ [Cells fb (encF { x with seen := now }) 49, Cells tb (encT t) 24]) → Calls Tryz.prog 91 #[.slice (some ⟨g, 0, none⟩) L.length cv, .agg (encF { x with seen := now })] w' (PFPost L { x with seen := now } F w (RFr bt most wait (.slice (some ⟨g, 0, none⟩) L.length cv) L ++ [Cells fb (encF { x with seen := now }) 49, Cells tb (encT t) 24]))) := Lib.hid fun w' h => pf_call h hl (fun W hW => rview 1 hW rfl) { x with seen := now }
        have b0 : wz.cell? ⟨bt, 0, none⟩ = some (.slice (some ⟨g, 0, none⟩) L.length cv) := cell_of (HI.out.block 0 rfl) rfl
        obtain ⟨f0, f1, f2, f3, f4, f5, f6, f7⟩ := o_fl0 HI.out 2 rfl
        go_region_law
          (first
            | (go_simp
               go_at_call 91
               refine (HPF.out _ (HI.out.drewN 1)).mono ?_
               rintro e w4 ⟨v4, rfl, ho⟩
               have H4 := Lib.hid ho
               have g0 : w4.frozen? ⟨bt, 0, none⟩ = false := free_of (ho.block 1 rfl)
               have g1 : w4.cell? ⟨bt, 0, none⟩ = some (.slice (some ⟨g, 0, none⟩) L.length cv) := cell_of (ho.block 1 rfl) rfl
               obtain ⟨F4, hv4⟩ := ho.get 0 rfl
               obtain ⟨a4, c4, rfl, -, -, -⟩ := hv4.shape
               clear ho hv4))
        all_goals
          go_wp2_with fail
          go_ret
          exact rf_new_row H4.out
      · rw [if_neg (fun h => hs h.2)]
        have hd : decide (x.seen ≤ now) = false := by simp; omega
        clear hs ht
        go_enter Tryz.func58, Tryz.ntmps58
        go_wp2_with fail
        generalize w.heap.size = tb at *
        refine HAT.out.mono ?_
        rintro e w1 ⟨rfl, ho⟩
        obtain ⟨v, ho⟩ := ho.openR
        obtain ⟨Fv, hv⟩ := ho.get 1 rfl
        obtain ⟨av, cv, rfl, l1, l2, -⟩ := hv.shape
        have b0 : w1.cell? ⟨bt, 0, none⟩ = some (.slice av L.length cv) := cell_of (ho.block 0 rfl) rfl
        obtain ⟨g, rfl, hc⟩ := flow_at_row ho 1 rfl (by omega)
        obtain ⟨x0, x1, x2, x3, x4, x5, x6, x7⟩ := hc j x hj
        have HO := Lib.hid ho
        clear hc ho hv HAT hj
        go_wp2_with fail
        refine (HT.out _).mono ?_
        rintro e w2 ⟨rfl, rfl⟩
        go_wp2_with fail
        go_ret
        exact rf_same HO.out
    · rw [if_neg (fun h => ht h.1)]
      have HT := Lib.hid (rtime_false ht)
      clear ht
      go_enter Tryz.func58, Tryz.ntmps58
      go_wp2_with fail
      generalize w.heap.size = tb at *
      refine HAT.out.mono ?_
      rintro e w1 ⟨rfl, ho⟩
      have HO := Lib.hid ho
      clear ho HAT
      go_wp2_with fail
      refine (HT.out _).mono ?_
      rintro e w2 ⟨rfl, rfl⟩
      go_wp2_with fail
      go_ret
      exact rf_head HO.out
section
variable {F0 : List Nat} {w0 w : World} {R : List Asrt} {bt : Nat} {most wait : Int} {L : List Fl}
theorem o_rftouch (h : In F0 w0 w R) (i : Nat) (hA : R[i]? = some (RFA bt most wait L)) (hl : L.length ≤ 1000000) (t : Tup) (now : Int) :
    Calls Tryz.prog 58 #[.pointer (some ⟨bt, 0, none⟩), .agg (encT t), .int .i64 now] w fun e w' => e = .returned (.bool (touchRF L t now).2) ∧ In F0 w0 w' (R.set i (RFA bt most wait (touchRF L t now).1)) :=
  own_val (A' := RFA bt most wait (touchRF L t now).1) h i hA (RFA.framed _ _ _ _) fun F hF => rf_touch hF hl t now
end
end Go.Proofs.YtgapbecddgfkmaaGreat
