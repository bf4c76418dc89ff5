/- A table of flows: one is set. -/
import Derived.Test.YtcakgponofbhkaaFlowTab
namespace Go.Proofs.Ytcakgponofbhkaa
open Go.RowKit
open Go.Maps (Keyed)
set_option linter.unusedVariables false
set_option maxRecDepth 100000

theorem atF_enc {t : Tup} (wt : WfT t) (mt : MayT t) : ∀ {L : List Fl}, (∀ x ∈ L, WfT x.t) → (∀ x ∈ L, MayF x) → atS (L.map encQ) (keyT t) = (atF L t).map (·.seen)
  | [], _, _ => rfl
  | y :: r, hw, hm => by
    have ih := atF_enc wt mt (L := r) (fun x hx => hw x (List.mem_cons_of_mem _ hx)) (fun x hx => hm x (List.mem_cons_of_mem _ hx))
    have hy := hw y (by simp)
    have my := (hm y (by simp)).t
    unfold atF atS at *
    rw [List.map_cons, List.find?_cons, List.find?_cons]
    by_cases e : y.t = t
    · have h2 : (encQ y).1 = keyT t := by show keyT y.t = _; rw [e]
      simp [e, h2]; rfl
    · have h2 : (encQ y).1 ≠ keyT t := fun h => e (keyT_inj hy wt my mt h)
      simp only [e, h2, decide_false, ih]
theorem set_enc {most : Int} {L : List Fl} (h : OkF most L) {f : Fl} (wf : WfT f.t) (mf : MayF f) (hroom : atF L f.t ≠ none ∨ (L.length : Int) < most) :
    setS (L.map encQ) (keyT f.t) f.seen = ((insF f (delF f.t L)).map encQ, 0) := by
  unfold setS
  have h1 := mf.t0
  have h2 := mf.t1
  have h3 := h.room
  have h4 := h.most
  rw [if_neg (by omega), if_neg (by
    rw [List.length_map, atF_enc wf mf.t h.wf h.may]
    rintro ⟨e, hl⟩
    omega), insF_enc, delF_enc wf mf.t h.wf h.may]
  rfl
theorem delF_length {L : List Fl} (hk : (L.map (·.t)).Nodup) (t : Tup) : ((delF t L).length : Int) = L.length - (if atF L t = none then 0 else 1) := by
  obtain ⟨s1, s2⟩ := strike_length (ek := vT) (p := notT t) (key := .agg (encT t)) (nodup_vT hk) notT_vT
  split
  · rename_i e
    have : L.filter (notT t) = L := s2 (fun x hx e2 => atF_none.1 e x hx (vT_inj (y := ⟨t, 0, 0, 0⟩) e2))
    unfold delF; rw [this]; omega
  · rename_i e
    cases ha : atF L t with
    | none => exact absurd ha e
    | some f =>
      obtain ⟨q1, q2⟩ := (atF_some hk).1 ha
      have := s1 ⟨f, q1, by rw [← q2]⟩
      unfold delF; omega
theorem ok_set {most : Int} {L : List Fl} (h : OkF most L) {f : Fl} (wf : WfT f.t) (mf : MayF f) (hroom : atF L f.t ≠ none ∨ (L.length : Int) < most) : OkF most (insF f (delF f.t L)) := by
  have hp := insF_perm f (delF f.t L)
  have hm : ∀ x ∈ insF f (delF f.t L), x = f ∨ x ∈ L := fun x hx => by
    rcases List.mem_cons.1 (hp.mem_iff.1 hx) with e | hx
    · exact Or.inl e
    · exact Or.inr (delF_mem.1 hx).1
  refine ⟨fun x hx => ?_, fun x hx => ?_, ?_, ?_, h.most⟩
  · rcases hm x hx with rfl | hx
    · exact wf
    · exact h.wf x hx
  · rcases hm x hx with rfl | hx
    · exact mf
    · exact h.may x hx
  · refine (hp.map (·.t)).nodup_iff.2 (List.nodup_cons.2 ⟨fun hx => ?_, h.keys.sublist (List.filter_sublist.map _)⟩)
    obtain ⟨y, hy, e⟩ := List.mem_map.1 hx
    exact (delF_mem.1 hy).2 e
  · rw [hp.length_eq, List.length_cons]
    have := delF_length h.keys f.t
    have h3 := h.room
    split at this
    · rename_i e
      rcases hroom with h1 | h1
      · exact absurd e h1
      · push_cast; omega
    · push_cast; omega

def FCells (bt g : Nat) (most idle : Int) (bm bk bq : Nat) (f : Fl) (w' : World) : Prop :=
  w'.cell? ⟨bt, 2, none⟩ = some (.map (some bm)) ∧ w'.cell? ⟨bt, 3, none⟩ = some (.map (some bk)) ∧ w'.cell? ⟨bt, 4, none⟩ = some (.pointer (some ⟨bq, 0, none⟩)) ∧
  w'.cell? ⟨g, 0, none⟩ = some (.int .u32 f.t.src) ∧ w'.cell? ⟨g, 1, none⟩ = some (.int .u32 f.t.dst) ∧ w'.cell? ⟨g, 2, none⟩ = some (.int .i64 f.t.proto) ∧ w'.cell? ⟨g, 3, none⟩ = some (.int .i64 f.t.sport) ∧ w'.cell? ⟨g, 4, none⟩ = some (.int .i64 f.t.dport) ∧
  w'.cell? ⟨g, 5, none⟩ = some (.int .i64 f.bk) ∧ w'.cell? ⟨g, 6, none⟩ = some (.int .i64 f.gen) ∧ w'.cell? ⟨g, 7, none⟩ = some (.int .i64 f.seen)
theorem FCells.of {F0 : List Nat} {w0 w' : World} {bt g : Nat} {most idle : Int} {bm bk bq : Nat} {f : Fl} {R : List Asrt}
    (h : In F0 w0 w' (Cells g (encF f) 59 :: Cells bt #[.int .i64 most, .int .i64 idle, .map (some bm), .map (some bk), .pointer (some ⟨bq, 0, none⟩)] 105 :: R)) : FCells bt g most idle bm bk bq f w' :=
  ⟨cell_of (h.block 1 rfl) rfl, cell_of (h.block 1 rfl) rfl, cell_of (h.block 1 rfl) rfl, cell_of (h.block 0 rfl) rfl, cell_of (h.block 0 rfl) rfl, cell_of (h.block 0 rfl) rfl, cell_of (h.block 0 rfl) rfl, cell_of (h.block 0 rfl) rfl, cell_of (h.block 0 rfl) rfl, cell_of (h.block 0 rfl) rfl, cell_of (h.block 0 rfl) rfl⟩

set_option maxHeartbeats 16000000 in
theorem fset {w : World} {bt : Nat} {most idle : Int} {L : List Fl} {F : List Nat} (h : FA bt most idle L w F) {f : Fl} (wf : WfT f.t) (mf : MayF f) (hroom : atF L f.t ≠ none ∨ (L.length : Int) < most) :
    Calls Try.prog 63 #[.pointer (some ⟨bt, 0, none⟩), .agg (encF f)] w (GV (.tuple #[]) (FA bt most idle (insF f (delF f.t L))) w F) := by
  obtain ⟨bm, bk, bq, hok, h⟩ := h
  have h0 := (In.start FR.framed h).cells (encF f) 59
  obtain ⟨kt, hkt⟩ := keyOf_tup wf
  obtain ⟨w1, r1, t1, h1⟩ := tab_put (h0.drewN 1) 2 rfl tupLaw Try.underlying102 f hkt (nodup_vT hok.keys) (notT f.t) notT_vT
  have r1' : (Instr.mapUpdate 102 (.map (some bm)) (.agg (encT f.t)) (.agg (encF f))).run Try.prog (w.alloc (.cells (encF f) 59)).drew = .ok () w1 := r1
  have Hput : Hid (∀ w2, In F w w2 (Cells w.heap.size (encF f) 59 :: FR bt most idle bm bk bq L |>.set 2 (FM bm (f :: delF f.t L))) → ∃ w3, (Instr.mapUpdate 103 (.map (some bk)) (.string (keyT f.t)) (.agg (encT f.t))).run Try.prog w2 = .ok () w3 ∧ In F w w3 ((Cells w.heap.size (encF f) 59 :: FR bt most idle bm bk bq L |>.set 2 (FM bm (f :: delF f.t L))).set 3 (KM bk (f :: delF f.t L)))) :=
    Lib.hid fun w2 h2 => by
      obtain ⟨w3, r3, _, h3⟩ := tab_put h2 3 rfl strLawT Try.underlying103 f (Go.WideMaps.keyOf_string_mk Try.underlying9 (keyT_size f.t)) (nodup_vK hok) (notT f.t) (notT_vK hok wf mf.t)
      exact ⟨w3, r3, h3⟩
  have Hset : Hid (∀ w2, In F w w2 ((Cells w.heap.size (encF f) 59 :: FR bt most idle bm bk bq L |>.set 2 (FM bm (f :: delF f.t L))).set 3 (KM bk (f :: delF f.t L))) → Calls Try.prog 52 #[.pointer (some ⟨bq, 0, none⟩), .string (keyT f.t), .int .i64 f.seen] w2 fun e w' => e = .returned (.int .i64 0) ∧ In F w w' [Cells w.heap.size (encF f) 59, Cells bt #[.int .i64 most, .int .i64 idle, .map (some bm), .map (some bk), .pointer (some ⟨bq, 0, none⟩)] 105, FM bm (f :: delF f.t L), KM bk (f :: delF f.t L), QA bq ((insF f (delF f.t L)).map encQ)]) :=
    Lib.hid fun w2 h2 => by
      have := o_set h2 4 rfl (keyT_size f.t) f.seen
      rw [set_enc hok wf mf hroom] at this
      exact this
  have HG : Hid (∀ wz, In F w wz [Cells w.heap.size (encF f) 59, Cells bt #[.int .i64 most, .int .i64 idle, .map (some bm), .map (some bk), .pointer (some ⟨bq, 0, none⟩)] 105, FM bm (f :: delF f.t L), KM bk (f :: delF f.t L), QA bq ((insF f (delF f.t L)).map encQ)] → GV (.tuple #[]) (FA bt most idle (insF f (delF f.t L))) w F (.returned (.tuple #[])) wz) :=
    Lib.hid fun wz hz => by
      have a1 := tab_perm (tab_perm (hz.sel [1, 2, 3, 4] (by decide) rfl) 1 rfl (insF_perm f (delF f.t L))) 2 rfl (insF_perm f (delF f.t L))
      exact GV.mk a1 (fun F' hs => ⟨bm, bk, bq, ok_set hok wf mf hroom, hs⟩)
  have Hk : Hid (∀ {w2 : World} {R}, In F w w2 R → Calls Try.prog 69 #[.agg (encT f.t)] w2 fun e w' => e = .returned (.string (keyT f.t)) ∧ In F w w' R) := Lib.hid fun h => o_fkey h wf
  obtain ⟨d1, -, -, d4, d5, d6, d7, d8, d9, d10, d11⟩ := FCells.of h0
  have H1 := Lib.hid h1
  have HE : Hid (∀ w2, FCells bt w.heap.size most idle bm bk bq f w2 → True) := Lib.hid fun _ _ => trivial
  clear h h0 h1 r1 t1 hok hkt wf mf hroom
  go_enter Try.func63, Try.ntmps63
  go_wp2_with fail
  generalize w.heap.size = g at *
  have hc1 : w1.cell? ⟨bt, 2, none⟩ = some (.map (some bm)) ∧ w1.cell? ⟨g, 0, none⟩ = some (.int .u32 f.t.src) ∧ w1.cell? ⟨g, 1, none⟩ = some (.int .u32 f.t.dst) ∧ w1.cell? ⟨g, 2, none⟩ = some (.int .i64 f.t.proto) ∧ w1.cell? ⟨g, 3, none⟩ = some (.int .i64 f.t.sport) ∧ w1.cell? ⟨g, 4, none⟩ = some (.int .i64 f.t.dport) ∧ w1.cell? ⟨g, 5, none⟩ = some (.int .i64 f.bk) ∧ w1.cell? ⟨g, 6, none⟩ = some (.int .i64 f.gen) ∧ w1.cell? ⟨g, 7, none⟩ = some (.int .i64 f.seen) := by
    obtain ⟨a1, a2, a3, a4, a5, a6, a7, a8, a9, a10, a11⟩ := FCells.of H1.out
    exact ⟨a1, a4, a5, a6, a7, a8, a9, a10, a11⟩
  go_region_held3 (fun w' => w'.cell? ⟨bt, 2, none⟩ = some (.map (some bm)) ∧ w'.cell? ⟨g, 0, none⟩ = some (.int .u32 f.t.src) ∧ w'.cell? ⟨g, 1, none⟩ = some (.int .u32 f.t.dst) ∧ w'.cell? ⟨g, 2, none⟩ = some (.int .i64 f.t.proto) ∧ w'.cell? ⟨g, 3, none⟩ = some (.int .i64 f.t.sport) ∧ w'.cell? ⟨g, 4, none⟩ = some (.int .i64 f.t.dport) ∧ w'.cell? ⟨g, 5, none⟩ = some (.int .i64 f.bk) ∧ w'.cell? ⟨g, 6, none⟩ = some (.int .i64 f.gen) ∧ w'.cell? ⟨g, 7, none⟩ = some (.int .i64 f.seen)) (first | exact hc1 | go_keep) (fail)
  clear d1 d4 d5 d6 d7 d8 d9 d10 d11 r1' hc1
  have hc1 : w1.cell? ⟨bt, 3, none⟩ = some (.map (some bk)) ∧ w1.cell? ⟨g, 0, none⟩ = some (.int .u32 f.t.src) ∧ w1.cell? ⟨g, 1, none⟩ = some (.int .u32 f.t.dst) ∧ w1.cell? ⟨g, 2, none⟩ = some (.int .i64 f.t.proto) ∧ w1.cell? ⟨g, 3, none⟩ = some (.int .i64 f.t.sport) ∧ w1.cell? ⟨g, 4, none⟩ = some (.int .i64 f.t.dport) := by
    obtain ⟨a1, a2, a3, a4, a5, a6, a7, a8, a9, a10, a11⟩ := FCells.of H1.out
    exact ⟨a2, a4, a5, a6, a7, a8⟩
  go_wp2_with fail
  go_region_held3 (fun w' => w'.cell? ⟨bt, 3, none⟩ = some (.map (some bk)) ∧ w'.cell? ⟨g, 0, none⟩ = some (.int .u32 f.t.src) ∧ w'.cell? ⟨g, 1, none⟩ = some (.int .u32 f.t.dst) ∧ w'.cell? ⟨g, 2, none⟩ = some (.int .i64 f.t.proto) ∧ w'.cell? ⟨g, 3, none⟩ = some (.int .i64 f.t.sport) ∧ w'.cell? ⟨g, 4, none⟩ = some (.int .i64 f.t.dport)) (first | exact hc3 | exact hc2 | exact hc1 | go_keep)
    (first
      | (go_at_call 69
         refine (Hk.out (H1.out.drewN 1)).mono ?_
         rintro e w2 ⟨rfl, ho⟩
         have hc2 : w2.cell? ⟨bt, 3, none⟩ = some (.map (some bk)) ∧ w2.cell? ⟨g, 0, none⟩ = some (.int .u32 f.t.src) ∧ w2.cell? ⟨g, 1, none⟩ = some (.int .u32 f.t.dst) ∧ w2.cell? ⟨g, 2, none⟩ = some (.int .i64 f.t.proto) ∧ w2.cell? ⟨g, 3, none⟩ = some (.int .i64 f.t.sport) ∧ w2.cell? ⟨g, 4, none⟩ = some (.int .i64 f.t.dport) := by
           obtain ⟨a1, a2, a3, a4, a5, a6, a7, a8, a9, a10, a11⟩ := FCells.of ho
           exact ⟨a2, a4, a5, a6, a7, a8⟩
         obtain ⟨w3, r3, ho3⟩ := Hput.out w2 ho
         have hc3 : w3.cell? ⟨bt, 3, none⟩ = some (.map (some bk)) ∧ w3.cell? ⟨g, 0, none⟩ = some (.int .u32 f.t.src) ∧ w3.cell? ⟨g, 1, none⟩ = some (.int .u32 f.t.dst) ∧ w3.cell? ⟨g, 2, none⟩ = some (.int .i64 f.t.proto) ∧ w3.cell? ⟨g, 3, none⟩ = some (.int .i64 f.t.sport) ∧ w3.cell? ⟨g, 4, none⟩ = some (.int .i64 f.t.dport) := by
           obtain ⟨a1, a2, a3, a4, a5, a6, a7, a8, a9, a10, a11⟩ := FCells.of ho3
           exact ⟨a2, a4, a5, a6, a7, a8⟩
         have H3 := Lib.hid ho3
         clear ho ho3))
  clear hc1 hc2 hc3 r3
  have hc1 : w3.cell? ⟨bt, 4, none⟩ = some (.pointer (some ⟨bq, 0, none⟩)) ∧ w3.cell? ⟨g, 0, none⟩ = some (.int .u32 f.t.src) ∧ w3.cell? ⟨g, 1, none⟩ = some (.int .u32 f.t.dst) ∧ w3.cell? ⟨g, 2, none⟩ = some (.int .i64 f.t.proto) ∧ w3.cell? ⟨g, 3, none⟩ = some (.int .i64 f.t.sport) ∧ w3.cell? ⟨g, 4, none⟩ = some (.int .i64 f.t.dport) ∧ w3.cell? ⟨g, 7, none⟩ = some (.int .i64 f.seen) := by
    obtain ⟨a1, a2, a3, a4, a5, a6, a7, a8, a9, a10, a11⟩ := FCells.of H3.out
    exact ⟨a3, a4, a5, a6, a7, a8, a11⟩
  go_wp2_with fail
  go_region_held3 (fun w' => w'.cell? ⟨bt, 4, none⟩ = some (.pointer (some ⟨bq, 0, none⟩)) ∧ w'.cell? ⟨g, 0, none⟩ = some (.int .u32 f.t.src) ∧ w'.cell? ⟨g, 1, none⟩ = some (.int .u32 f.t.dst) ∧ w'.cell? ⟨g, 2, none⟩ = some (.int .i64 f.t.proto) ∧ w'.cell? ⟨g, 3, none⟩ = some (.int .i64 f.t.sport) ∧ w'.cell? ⟨g, 4, none⟩ = some (.int .i64 f.t.dport) ∧ w'.cell? ⟨g, 7, none⟩ = some (.int .i64 f.seen)) (first | exact hc3 | exact hc2 | exact hc1 | go_keep)
    (first
      | (go_at_call 69
         refine (Hk.out (H3.out.drewN 1)).mono ?_
         rintro e w4 ⟨rfl, ho⟩
         have hc2 : w4.cell? ⟨bt, 4, none⟩ = some (.pointer (some ⟨bq, 0, none⟩)) ∧ w4.cell? ⟨g, 0, none⟩ = some (.int .u32 f.t.src) ∧ w4.cell? ⟨g, 1, none⟩ = some (.int .u32 f.t.dst) ∧ w4.cell? ⟨g, 2, none⟩ = some (.int .i64 f.t.proto) ∧ w4.cell? ⟨g, 3, none⟩ = some (.int .i64 f.t.sport) ∧ w4.cell? ⟨g, 4, none⟩ = some (.int .i64 f.t.dport) ∧ w4.cell? ⟨g, 7, none⟩ = some (.int .i64 f.seen) := by
           obtain ⟨a1, a2, a3, a4, a5, a6, a7, a8, a9, a10, a11⟩ := FCells.of ho
           exact ⟨a3, a4, a5, a6, a7, a8, a11⟩
         have H4 := Lib.hid ho
         clear ho)
      | (go_at_call 52
         refine (Hset.out _ H4.out).mono ?_
         rintro e w5 ⟨rfl, ho⟩
         have hc3 : w5.cell? ⟨bt, 4, none⟩ = some (.pointer (some ⟨bq, 0, none⟩)) ∧ w5.cell? ⟨g, 0, none⟩ = some (.int .u32 f.t.src) ∧ w5.cell? ⟨g, 1, none⟩ = some (.int .u32 f.t.dst) ∧ w5.cell? ⟨g, 2, none⟩ = some (.int .i64 f.t.proto) ∧ w5.cell? ⟨g, 3, none⟩ = some (.int .i64 f.t.sport) ∧ w5.cell? ⟨g, 4, none⟩ = some (.int .i64 f.t.dport) ∧ w5.cell? ⟨g, 7, none⟩ = some (.int .i64 f.seen) := by
           obtain ⟨a1, a2, a3, a4, a5, a6, a7, a8, a9, a10, a11⟩ := FCells.of ho
           exact ⟨a3, a4, a5, a6, a7, a8, a11⟩
         have H5 := Lib.hid ho
         clear ho))
  have HF := Lib.hid (HG.out _ H5.out)
  go_wp2_with fail
  go_end0
  exact HF.out
end Go.Proofs.Ytcakgponofbhkaa
