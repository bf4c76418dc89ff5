/- Backends that drain: those that are due. -/
import Derived.Test.YtcakgponofbhkaaDrainsWalk
namespace Go.Proofs.Ytcakgponofbhkaa
open Go.RowKit
set_option linter.unusedVariables false
set_option maxRecDepth 100000

theorem ddue_nil (t : Int) (w : World) : Calls Try.prog 16 #[.pointer none, .int .i64 t] w fun e w' => e = .returned (.slice none 0 0) ∧ w = w' := by
  go_enter Try.func16, Try.ntmps16
  go_wp2_with fail
  go_ret
  exact ⟨rfl, rfl⟩
def isDue (now : Int) (x : BT) : Bool := decide (x.2 ≤ now)
def dueD (M : List BT) (now : Int) : List BT := M.takeWhile (isDue now)
def dueDR (M : List BT) (now : Int) : List BT := M.dropWhile (isDue now)
theorem dueD_enc (now : Int) : ∀ M : List BT, dueK (M.map encB) now = (dueD M now).map (fun x => keyB x.1) ∧ dueR (M.map encB) now = (dueDR M now).map encB
  | [] => ⟨rfl, rfl⟩
  | y :: r => by
    have ih := dueD_enc now r
    unfold dueK dueR dueD dueDR at *
    rw [List.map_cons, List.takeWhile_cons, List.dropWhile_cons, List.takeWhile_cons, List.dropWhile_cons]
    by_cases h : y.2 ≤ now
    · have h1 : decide ((encB y).2 ≤ now) = true := decide_eq_true h
      have h2 : isDue now y = true := decide_eq_true h
      rw [if_pos h1, if_pos h1, if_pos h2, if_pos h2, List.map_cons, List.map_cons, ih.1, ih.2]
      exact ⟨rfl, rfl⟩
    · have h1 : ¬ decide ((encB y).2 ≤ now) = true := fun e => h (of_decide_eq_true e)
      have h2 : ¬ isDue now y = true := fun e => h (of_decide_eq_true e)
      rw [if_neg h1, if_neg h1, if_neg h2, if_neg h2]
      exact ⟨rfl, rfl⟩
theorem due_app (M : List BT) (now : Int) : dueD M now ++ dueDR M now = M := List.takeWhile_append_dropWhile
theorem delD_first {x : BT} {r : List BT} (h : KeysD (x :: r)) : delD x.1 (x :: r) = r := by
  unfold delD
  rw [List.filter_cons, if_neg (by simp)]
  exact List.filter_eq_self.2 (fun y hy => by
    have := (List.nodup_cons.1 h).1
    simp only [ne_eq, decide_eq_true_eq]
    intro e
    exact this (by rw [← e]; exact List.mem_map_of_mem hy))
theorem infoInt : (Try.prog.info? 3).map (fun i => (i.zero, i.size, i.bytes)) = some (some (.int .i64 0), 1, 8) := by kernel_rfl
theorem StrsA.read {v : Value} {l : List ByteArray} {w : World} {F : List Nat} (h : StrsA v l w F) :
    ∃ a cap, v = .slice a l.length cap ∧ l.length ≤ cap ∧ cap ≤ maxLen ∧ (∀ j u, l[j]? = some u → ∃ b, a = some ⟨b, 0, none⟩ ∧ w.cell? ⟨b, j, none⟩ = some (.string u)) := by
  obtain ⟨h0, h1, h2⟩ := h
  rcases h2 with ⟨rfl, h3⟩ | ⟨g, cap, cur, rfl, h3, h4, h5, h6, h7, h8⟩
  · have : l = [] := List.length_eq_zero_iff.1 h3
    subst this
    exact ⟨none, 0, rfl, Nat.le_refl _, Nat.zero_le _, fun j u hu => by simp at hu⟩
  · refine ⟨_, cap, rfl, h5, h6, fun j u hu => ⟨g, rfl, cell_of h4 ?_⟩⟩
    have : (l.map Value.string)[j]? = some (.string u) := by simp [hu]
    rw [← h8, List.getElem?_take] at this
    split at this
    · rw [← this, Array.getElem?_toList]
    · cases this

theorem StrsA.at {a : Option Addr} {n cap : Nat} {l : List ByteArray} {w : World} {F : List Nat} (h : StrsA (.slice a n cap) l w F) {j : Nat} {u : ByteArray} (hu : l[j]? = some u) : ∃ b, a = some ⟨b, 0, none⟩ ∧ w.cell? ⟨b, j, none⟩ = some (.string u) := by
  obtain ⟨a', cap', e, -, -, hr⟩ := h.read
  cases e
  exact hr j u hu

/-- The loop: so many are told; the row's texts, what is told, the map, the rest of the queue, the set's own cells. -/
def DueR (D L : List BT) (bs bq bm : Nat) (vs : Value) (j : Nat) (v : Value) : List Asrt :=
  [RowA 3 1 v j ((D.map (fun x => Value.int .i64 x.1)).take j), StrsA vs (D.map (fun x => keyB x.1)), Cells bs #[.pointer (some ⟨bq, 0, none⟩), .map (some bm)] 90, BMap bm (D.drop j ++ L), QA bq (L.map encB)]
def DDueRel (D L : List BT) (bs bq bm : Nat) (vs : Value) (w : World) (F : List Nat) (v k : Value) (wr : World) : Prop :=
  ∃ j : Nat, k = .int .i64 j ∧ j ≤ D.length ∧ In F w wr (DueR D L bs bq bm vs j v)
theorem dof_in {F0 : List Nat} {w0 w : World} {R : List Asrt} (h : In F0 w0 w R) {b : Int} (hb : MayB b) : Calls Try.prog 55 #[.string (keyB b)] w fun e w' => e = .returned (.int .i64 b) ∧ In F0 w0 w' R :=
  (dof hb w).mono fun e w' ⟨he, m, hw⟩ => ⟨he, hw ▸ h.drewN m⟩
theorem due_end {F : List Nat} {w wr : World} {D L : List BT} {bs bq bm : Nat} {vs v : Value} (h : In F w wr (DueR D L bs bq bm vs D.length v)) (hM : ∀ x ∈ L, MayB x.1) :
    Gives w F (fun v => Star [DrA bs L, RowA 3 1 v D.length (D.map (fun x => Value.int .i64 x.1))]) (.returned v) wr := by
  unfold DueR at h
  rw [← List.length_map (f := fun x : BT => Value.int .i64 x.1), List.take_length, List.length_map, List.drop_length, List.nil_append] at h
  have h2 := (h.perm (List.perm_append_comm (l₁ := [_]) (l₂ := [_, _, _, _]))).drop
  have h3 := In.join (A1 := [_, _, _]) (R := [_]) h2
  have h4 := h3.imp (A' := DrA bs L) 0 rfl (DrA.framed _ _) (fun F hF => ⟨bq, bm, hM, hF⟩)
  exact h4.gives v _ (fun F hs => hs)

set_option maxHeartbeats 4000000 in
theorem ddue {w : World} {bs : Nat} {M : List BT} {F : List Nat} (h : DrA bs M w F) (now : Int) :
    Calls Try.prog 16 #[.pointer (some ⟨bs, 0, none⟩), .int .i64 now] w (Gives w F (fun v => Star [DrA bs (dueDR M now), RowA 3 1 v (dueD M now).length ((dueD M now).map (fun x => Value.int .i64 x.1))])) := by
  obtain ⟨bq, bm, hM, h⟩ := h
  have HB := Lib.hid (In.start DrR.framed h)
  have hc0 : w.cell? ⟨bs, 0, none⟩ = some (.pointer (some ⟨bq, 0, none⟩)) := (cell_bs HB.out).1
  have hk := keysD_of (set_keys HB.out)
  have Hk := Lib.hid hk
  have HM := Lib.hid hM
  have ha := due_app M now
  have he := dueD_enc now M
  have c := o_due HB.out 2 rfl now
  rw [he.1, he.2] at c
  have hML : M.length ≤ 1024 := by obtain ⟨_, hq⟩ := HB.out.get 2 rfl; have := IsQ.len hq; simpa using this
  clear he h hM hk
  generalize dueD M now = D at *
  generalize dueDR M now = L at *
  subst ha
  have hDL : D.length ≤ 1024 := by simp at hML; omega
  have C : Hid (Calls Try.prog 54 #[.pointer (some ⟨bq, 0, none⟩), .int .i64 now] w fun e w' => ∃ a cap, e = .returned (.slice a D.length cap) ∧ In F w w' (DueR D L bs bq bm (.slice a D.length cap) 0 (.slice none 0 0))) := by
    refine Lib.hid (c.mono fun e w1 ⟨vs, he, ho⟩ => ?_)
    obtain ⟨Fs, hs⟩ := ho.get 0 rfl
    obtain ⟨a, cap, rfl, -, -, -⟩ := hs.read
    have := ho.rownil 3 1
    rw [List.length_map] at this he
    exact ⟨a, cap, he, this⟩
  clear c hML
  go_enter Try.func16, Try.ntmps16
  go_wp2_with fail
  refine C.out.mono ?_
  rintro e w1 ⟨a, cap, rfl, ho⟩
  have HS : Hid (DDueRel D L bs bq bm (.slice a D.length cap) w F (.slice none 0 0) (.int .i64 0) w1) := Lib.hid ⟨0, rfl, Nat.zero_le _, ho⟩
  clear ho C
  go_wp2_with fail
  go_loopw [5, 17] (DDueRel D L bs bq bm (.slice a D.length cap) w F) (fun _ k _ => D.length - (intOf k).toNat)
  case atStart => exact HS.out
  case round =>
    obtain ⟨j, rfl, hj, ho⟩ := hrel
    clear HS
    by_cases hlt : j < D.length
    · obtain ⟨x, hx⟩ : ∃ x, D[j]? = some x := ⟨D[j], List.getElem?_eq_getElem hlt⟩
      obtain ⟨Fs, hs⟩ := ho.get 1 rfl
      obtain ⟨ba, rfl, c0⟩ := hs.at (j := j) (u := keyB x.1) (by simp [hx])
      have Hb : Hid (MayB x.1) := Lib.hid (HM.out x (List.mem_append_left _ (List.mem_of_getElem? hx)))
      have hlt' : (j : Int) < (D.length : Int) := by omega
      have hdrop : D.drop j = x :: D.drop (j + 1) := by rw [List.drop_eq_getElem_cons hlt]; congr 1; rw [List.getElem?_eq_getElem hlt] at hx; exact Option.some.inj hx
      have hkd : KeysD (x :: (D.drop (j + 1) ++ L)) := by
        rw [← List.cons_append, ← hdrop]
        exact List.Nodup.sublist ((List.Sublist.append_right (List.drop_sublist _ _) _).map _) Hk.out
      have htake : (D.map (fun x => Value.int .i64 x.1)).take j ++ [Value.int .i64 x.1] = (D.map (fun x => Value.int .i64 x.1)).take (j + 1) := by
        rw [List.take_add_one, List.getElem?_map, hx]; rfl
      have HO : Hid (In F w wr [RowA 3 1 u5 j ((D.map (fun x => Value.int .i64 x.1)).take j), StrsA (.slice (some ⟨ba, 0, none⟩) D.length cap) (D.map (fun x => keyB x.1)), Cells bs #[.pointer (some ⟨bq, 0, none⟩), .map (some bm)] 90, BMap bm (x :: (D.drop (j + 1) ++ L)), QA bq (L.map encB)]) := by
        refine Lib.hid ?_
        unfold DueR at ho
        rw [hdrop] at ho
        exact ho
      have Hkd := Lib.hid hkd
      have Ht := Lib.hid htake
      clear ho hs hx hdrop hkd htake hlt
      go_wp2_with fail
      refine (dof_in HO.out Hb.out).mono ?_
      rintro e w2 ⟨rfl, ho⟩
      have HP := Lib.hid ho
      clear ho
      go_wp2_with (at_builtin; refine append_elem (HP.out.alloc _) 0 rfl rfl (.tmp 21) (.tmp 24) 32 rfl Try.underlying32 infoInt rfl (by decide) (by decide) rfl _ #[.int .i64 x.1] rfl hp_alloc_new rfl (fun u hu => by simp at hu; subst hu; rfl) (by omega) ?_)
      intro v' w3 ho
      have HQ : Hid (In F w w3 [RowA 3 1 v' (j + 1) ((D.map (fun x => Value.int .i64 x.1)).take (j + 1)), StrsA (.slice (some ⟨ba, 0, none⟩) D.length cap) (D.map (fun x => keyB x.1)), Cells bs #[.pointer (some ⟨bq, 0, none⟩), .map (some bm)] 90, BMap bm (x :: (D.drop (j + 1) ++ L)), QA bq (L.map encB)]) := by
        refine Lib.hid ?_
        rw [← Ht.out]
        simpa using ho
      clear ho HP HO
      have hc1 : w3.cell? ⟨bs, 1, none⟩ = some (.map (some bm)) := cell_of (HQ.out.block 2 rfl) rfl
      go_wp2_with fail
      go_region_held3 (fun w' => w'.cell? ⟨bs, 1, none⟩ = some (.map (some bm))) (first | exact hc3 | exact hc2 | exact hc1)
        (first
          | (go_at_call 55
             refine (dof_in (HQ.out.drewN 1) Hb.out).mono ?_
             rintro e w4 ⟨rfl, ho⟩
             have hc2 : w4.cell? ⟨bs, 1, none⟩ = some (.map (some bm)) := cell_of (ho.block 2 rfl) rfl
             obtain ⟨w5, hr, ho2⟩ := o_bdel ho 3 rfl Hkd.out Try.underlying26 (may_lit Hb.out) 3 0
             have hc3 : w5.cell? ⟨bs, 1, none⟩ = some (.map (some bm)) := cell_of (ho2.block 2 rfl) rfl
             have HD := Lib.hid ho2
             clear ho ho2))
      have HR : Hid (DDueRel D L bs bq bm (.slice (some ⟨ba, 0, none⟩) D.length cap) w F v' (.int .i64 (j + 1)) w5) := by
        refine Lib.hid ⟨j + 1, by congr 1, by omega, ?_⟩
        have := HD.out
        rw [delD_first Hkd.out] at this
        exact this
      go_wp2_with fail
      go_roundw
      case rel => exact HR.out
      case measure => simp [intOf]; omega
    · have hge : (D.length : Int) ≤ (j : Int) := by omega
      have hjl : j = D.length := by omega
      subst hjl
      have HG : Hid (Gives w F (fun v => Star [DrA bs L, RowA 3 1 v D.length (D.map (fun x => Value.int .i64 x.1))]) (.returned u5) wr) := Lib.hid (due_end ho (fun x hx => HM.out x (List.mem_append_right _ hx)))
      clear ho
      go_wp2_with fail
      go_ret
      exact HG.out
end Go.Proofs.Ytcakgponofbhkaa
