/- Rows are laid in new segments: the walk. -/
import Derived.Test.YtogclkhpbjfadaaGreatLgRowsQ
import Derived.Laws.EntriesVeiled
namespace Go.Proofs.YtogclkhpbjfadaaGreat
open Go.RowKit
set_option linter.unusedVariables false
set_option maxRecDepth 100000
section
variable {F0 : List Nat} {w0 w : World} {R : List Asrt} {pn : Value} {bd lb sb : Nat} {d : DiskD} {l : LogD}
/-- The closures' boxes. -/
def RwQ (lb sb lx gb hb nx nm : Nat) (RB : List Asrt) : List Asrt :=
  Cells nm #[f2V gb] 125 :: Cells nx #[f1V gb lx hb] 234 :: Cells gb #[.pointer (some ⟨sb, 0, none⟩)] 145 :: Cells lx #[dptr lb] 28 :: RowA 5 1 (.slice none 0 0) 0 [] :: RB
def RwRel (pn : Value) (lb bd sb hb : Nat) (l : LogD) (d : DiskD) (bs : List (List UInt8)) (Q : List Asrt) (F0 : List Nat) (w0 : World) (i : Value) (wr : World) : Prop :=
  ∃ (k : Nat) (s : SLN), k ≤ bs.length ∧ i = .int .i64 k ∧ rowsD l (bs.take k) (d, [], 0) = (s, 0) ∧ RwI l d k s ∧ In F0 w0 wr (RowsR pn lb bd sb hb l s Q)
def RwPost (pn : Value) (lb bd sb : Nat) (l : LogD) (bs : List (List UInt8)) (d : DiskD) (F0 : List Nat) (w0 : World) (RB : List Asrt) (e : Ending) (w' : World) : Prop :=
  e = .returned (.int .i64 (layD l bs d).2) ∧ In F0 w0 w' (LgP pn lb bd l :: DkA bd (layD l bs d).1.1 :: SegA sb (layD l bs d).1.2.1 :: RB)
theorem rw_done {hb lx gb nx nm : Nat} {RB : List Asrt} {bs : List (List UInt8)} {r : SLN × Int} (hr : layD l bs d = r) (h : In F0 w0 w (RowsR pn lb bd sb hb l r.1 (RwQ lb sb lx gb hb nx nm RB))) : RwPost pn lb bd sb l bs d F0 w0 RB (.returned (.int .i64 r.2)) w := by
  refine ⟨by rw [hr], ?_⟩
  rw [hr]
  exact h.sel2 (R1 := [_, _, _, _, _, _, _, _, _]) [0, 1, 2] (by decide) rfl
theorem rw_done2 {hb lx gb nx nm bb : Nat} {C : Array Value} {ty : Nat} {RB : List Asrt} {bs : List (List UInt8)} {r : SLN × Int} (hr : layD l bs d = r) (h : In F0 w0 w (RowsR pn lb bd sb hb l r.1 (Cells bb C ty :: RwQ lb sb lx gb hb nx nm RB))) : RwPost pn lb bd sb l bs d F0 w0 RB (.returned (.int .i64 r.2)) w :=
  rw_done hr (h.sel2 (R1 := [_, _, _, _, _]) [0, 1, 2, 3] (by decide) rfl)
/-- Behind a row: the next, or the end. -/
theorem rw_next {hb lx gb nx nm bb k : Nat} {C : Array Value} {ty : Nat} {RB : List Asrt} {bs : List (List UInt8)} {s : SLN} {x : List UInt8} (hx : bs[k]? = some x) (h0 : rowsD l (bs.take k) (d, [], 0) = (s, 0)) (hI : RwI l d k s) (hx5 : x.length ≤ 5000) :
    ((rowD l x s).2 = 0 → ∀ w', In F0 w0 w' (RowsR pn lb bd sb hb l (rowD l x s).1 (Cells bb C ty :: RwQ lb sb lx gb hb nx nm RB)) → RwRel pn lb bd sb hb l d bs (RwQ lb sb lx gb hb nx nm RB) F0 w0 (.int .i64 ((k : Int) + 1)) w') ∧
    ((rowD l x s).2 ≠ 0 → ∀ w', In F0 w0 w' (RowsR pn lb bd sb hb l (rowD l x s).1 (Cells bb C ty :: RwQ lb sb lx gb hb nx nm RB)) → RwPost pn lb bd sb l bs d F0 w0 RB (.returned (.int .i64 (rowD l x s).2)) w') := by
  have hk := (List.getElem?_eq_some_iff.1 hx).1
  have e1 : rowsD l (bs.take (k + 1)) (d, [], 0) = rowD l x s := by
    rw [List.take_add_one, hx]
    show rowsD l (bs.take k ++ [x]) (d, [], 0) = _
    rw [rowsD_app, h0, thenD_ok rfl]
    exact rowsD_one l x s
  refine ⟨fun hz w' h' => ⟨k + 1, (rowD l x s).1, hk, by rw [Int.natCast_add]; rfl, by rw [e1]; exact Prod.ext rfl hz, hI.row hx5, h'.sel2 (R1 := [_, _, _, _, _]) [0, 1, 2, 3] (by decide) rfl⟩, fun hz w' h' => ?_⟩
  have e2 : rowsD l bs (d, [], 0) = rowD l x s := by
    have e : bs = bs.take (k + 1) ++ bs.drop (k + 1) := (List.take_append_drop _ _).symm
    rw [e, rowsD_app, e1, thenD_err hz]
  exact rw_done2 (by rw [layD_err (by rw [e2]; exact hz), e2]) h'
set_option maxHeartbeats 64000000 in
theorem o_rows {bs : List (List UInt8)} {vs : List Value} {a : Option Addr} {c : Nat} (hvs : vs.length = bs.length) (h : In F0 w0 w (LgP pn lb bd l :: DkA bd d :: SegA sb [] :: RowA 23 1 (.slice a bs.length c) bs.length vs :: (bodB vs bs ++ R))) (hl : LgOk l) (ho : d.ops ≤ 99900000) (hb5 : ∀ b ∈ bs, b.length ≤ 5000) (hn : bs.length ≤ 1000) :
    Calls Tryz.prog 93 #[dptr lb, .slice a bs.length c, .pointer (some ⟨sb, 0, none⟩)] w (RwPost pn lb bd sb l bs d F0 w0 (RowA 23 1 (.slice a bs.length c) bs.length vs :: (bodB vs bs ++ R))) := by
  obtain ⟨RB, hRB⟩ : ∃ RB, RowA 23 1 (.slice a bs.length c) bs.length vs :: (bodB vs bs ++ R) = RB := ⟨_, rfl⟩
  have hm := (mayM_iff.1 hl.2.2).1
  have hnx : l.m.next ≤ 1000000 := hm.2.2.2.2.2
  have HRB : Hid (RB[0]? = some (RowA 23 1 (.slice a bs.length c) bs.length vs) ∧ ∀ k v b, vs[k]? = some v → bs[k]? = some b → RB[k + 1]? = some (RowA 5 1 v b.length (u8s b))) := Lib.hid ⟨by rw [← hRB]; rfl, fun k v b h1 h2 => by rw [← hRB, List.getElem?_cons_succ]; exact bodB_at h1 h2⟩
  rw [hRB] at h ⊢
  have hmf : ∀ (fn : Fn) (first cap : Array Value) (w : World), (Instr.makeFunc fn first cap).run Tryz.prog w = .ok (.func fn first cap) w := fun _ _ _ _ => rfl
  have h1 := (((((h.rownil 5 1).cells #[dptr lb] 28).cells #[.pointer (some ⟨sb, 0, none⟩)] 145).cells #[.int .i64 0] 3).cells #[f1V (w.heap.size + 1) w.heap.size (w.heap.size + 1 + 1)] 234).cells #[f2V (w.heap.size + 1)] 125
  simp only [World.size_alloc] at h1
  obtain ⟨n0, hn0⟩ : ∃ n0, n0 = w.heap.size := ⟨_, rfl⟩
  rw [← hn0] at h1
  have h2 : In F0 w0 _ (RowsR pn lb bd sb (n0 + 1 + 1) l (d, [], 0) (RwQ lb sb n0 (n0 + 1) (n0 + 1 + 1) (n0 + 1 + 1 + 1) (n0 + 1 + 1 + 1 + 1) RB)) := h1.sel2 (R1 := [_, _, _, _, _, _, _, _, _]) [6, 7, 8, 2, 0, 1, 3, 4, 5] (by decide) rfl
  have HR : Hid (RwRel pn lb bd sb (n0 + 1 + 1) l d bs (RwQ lb sb n0 (n0 + 1) (n0 + 1 + 1) (n0 + 1 + 1 + 1) (n0 + 1 + 1 + 1 + 1) RB) F0 w0 (.int .i64 0) _) := Lib.hid ⟨0, (d, [], 0), Nat.zero_le _, rfl, rfl, ⟨by simp, by simp, by simp, by simp⟩, h2⟩
  have HO := Lib.hid ho
  have HB5 := Lib.hid hb5
  have HVS := Lib.hid hvs
  have hnl : bs.length ≤ 1000 := hn
  have HNX := Lib.hid hnx
  have HSZ := Lib.hid hl.2.1
  clear h h1 h2 hm hnx ho hb5 hvs hl hRB hn
  go_enter Tryz.func93, Tryz.ntmps93
  unfold f1V f2V at HR
  rw [hn0] at HR
  go_wp2_with fail
  go_loopw [18] (RwRel pn lb bd sb (w.heap.size + 1 + 1) l d bs (RwQ lb sb w.heap.size (w.heap.size + 1) (w.heap.size + 1 + 1) (w.heap.size + 1 + 1 + 1) (w.heap.size + 1 + 1 + 1 + 1) RB) F0 w0) (fun k _ => bs.length - (intOf k).toNat)
  case atStart => exact HR.out
  case round =>
    obtain ⟨k, s, hk, rfl, h0, hI, hio⟩ := hrel
    clear HR
    by_cases hlt : k < bs.length
    · obtain ⟨x, hx⟩ : ∃ x, bs[k]? = some x := ⟨bs[k], List.getElem?_eq_getElem hlt⟩
      obtain ⟨v, hv⟩ : ∃ v, vs[k]? = some v := ⟨vs[k]'(by rw [HVS.out]; exact hlt), List.getElem?_eq_getElem _⟩
      have hbody := HRB.out.2 k v x hv hx
      obtain ⟨Fb, hbb⟩ := hio.get (k + 1 + 9) (A := RowA 5 1 v x.length (u8s x)) hbody
      obtain ⟨A, cA, rfl, hA1, hA2, -⟩ := hbb.shape
      obtain ⟨Fr, hrr⟩ := hio.get 9 (A := RowA 23 1 (.slice a bs.length c) bs.length vs) HRB.out.1
      obtain ⟨g, rfl, c0⟩ := hrr.at.2 k _ hv
      have hx5 := HB5.out x (List.mem_of_getElem? hx)
      have HN := Lib.hid (rw_next (F0 := F0) (w0 := w0) (pn := pn) (lb := lb) (bd := bd) (sb := sb) (hb := w.heap.size + 1 + 1) (lx := w.heap.size) (gb := w.heap.size + 1) (nx := w.heap.size + 1 + 1 + 1) (nm := w.heap.size + 1 + 1 + 1 + 1) (bb := wr.heap.size) (C := #[.slice A x.length cA]) (ty := 23) (RB := RB) hx h0 hI hx5)
      have h6 := (hio.cells #[.slice A x.length cA] 23).sel2 (R1 := [_, _, _, _, _]) [1, 2, 3, 4, 0] (by decide) rfl
      have hlt' : (k : Int) < (bs.length : Int) := Int.ofNat_lt.2 hlt
      have hw2 : wrap64 ((k : Int) + 1) = (k : Int) + 1 := by unfold wrap64; omega
      obtain ⟨i1, i2, i3, i4⟩ := hI
      have hk1000 : k ≤ 1000 := by omega
      have hops : s.1.ops ≤ 99980000 := by have := HO.out; omega
      have hhv : s.2.2 ≤ 5000000 := by omega
      have HF : Hid (hbody = hbody) := Lib.hid rfl
      have HBO := Lib.hid hbody
      have b0 : (wr.alloc (.cells #[.slice A x.length cA] 23)).cell? ⟨wr.heap.size, 0, none⟩ = some (.slice A x.length cA) := cell_of (h6.block 4 rfl) rfl
      have b1 : (wr.alloc (.cells #[.slice A x.length cA] 23)).cell? ⟨w.heap.size + 1, 0, none⟩ = some (.pointer (some ⟨sb, 0, none⟩)) := cell_of (h6.block 7 rfl) rfl
      have b2 : (wr.alloc (.cells #[.slice A x.length cA] 23)).cell? ⟨w.heap.size, 0, none⟩ = some (dptr lb) := cell_of (h6.block 8 rfl) rfl
      have b3 : (wr.alloc (.cells #[.slice A x.length cA] 23)).cell? ⟨w.heap.size + 1 + 1, 0, none⟩ = some (.int .i64 s.2.2) := cell_of (h6.block 3 rfl) rfl
      have b4 : (wr.alloc (.cells #[.slice A x.length cA] 23)).cell? ⟨w.heap.size + 1 + 1 + 1, 0, none⟩ = some (f1V (w.heap.size + 1) w.heap.size (w.heap.size + 1 + 1)) := cell_of (h6.block 6 rfl) rfl
      have b5 : (wr.alloc (.cells #[.slice A x.length cA] 23)).cell? ⟨w.heap.size + 1 + 1 + 1 + 1, 0, none⟩ = some (f2V (w.heap.size + 1)) := cell_of (h6.block 5 rfl) rfl
      obtain ⟨sa, sc, h7⟩ := (h6.sel2 (R1 := [_, _, _, _]) [2, 0, 1, 3] (by decide) rfl).segOpen
      have b6 : (wr.alloc (.cells #[.slice A x.length cA] 23)).cell? ⟨sb, 0, none⟩ = some (.slice sa s.2.1.length sc) := cell_of (h7.block 1 rfl) rfl
      have H6 := Lib.hid h6
      unfold f1V at b4
      unfold f2V at b5
      clear h7 h6 hrr hbb hio hbody HF hk hx hv h0 i1 i4
      obtain ⟨s1, s2, s3⟩ := s
      simp only at hops hhv i2 b3 b6 i3
      by_cases hs : s2 = []
      · have hs0 : s2.length = 0 := by rw [hs]; rfl
        have HE : Hid (rowD l x (s1, s2, s3) = nextD l.m.next x (s1, s2, s3)) := Lib.hid (by unfold rowD; rw [if_pos hs])
        have K := Lib.hid (o_rnext (d := s1) (segs := s2) (hv := s3) H6.out (gb := w.heap.size + 1) (lx := w.heap.size) (b := x) (A := A) (cA := cA) 3 4 (k + 1 + 6) rfl rfl HBO.out (by omega) hx5 HNX.out)
        rw [← HE.out] at K
        rw [hs0] at b6
        clear hs hs0 HE H6 hops hhv i2 hx5 i3
        go_wp2_with fail
        refine K.out.mono ?_
        rintro e w3 ⟨rfl, g3⟩
        have G3 := Lib.hid g3
        clear g3 K b0 b1 b2 b3 b4 b5 b6
        by_cases hr : (rowD l x (s1, s2, s3)).2 = 0
        · have HN2 := Lib.hid (HN.out.1 hr w3 G3.out)
          have HZ := Lib.hid hr
          clear hr G3 HN
          rw [HZ.out]
          go_wp2_with fail
          go_roundw
          case rel => (try rw [hw2]); exact HN2.out
          case measure => (try rw [hw2]); exact meas_lt hlt'
        · have q : ((rowD l x (s1, s2, s3)).2 != 0) = true := by rw [bne_iff_ne]; exact hr
          have HX := Lib.hid (HN.out.2 hr w3 G3.out)
          clear hr G3 HN
          go_wp2_with fail
          go_ret
          exact HX.out
      have hsp : 0 < s2.length := List.length_pos_iff.2 hs
      have qs : (((s2.length : Nat) : Int) == 0) = false := beq_eq_false_iff_ne.2 (by omega)
      have HFT := Lib.hid (o_fits (H6.out).lgpA s3 x.length (by omega) (by omega) HSZ.out)
      by_cases hf : fitsL l s3 x.length = true
      · have HE : Hid (rowD l x (s1, s2, s3) = (((dAppend s1 (newest s2) x).1, s2, s3 + x.length), (dAppend s1 (newest s2) x).2)) := Lib.hid (by unfold rowD; rw [if_neg hs, if_pos hf])
        have h8 : In F0 w0 ((wr.alloc (.cells #[.slice A x.length cA] 23)).setCell ⟨w.heap.size + 1 + 1, 0, none⟩ (.int .i64 ((s3 + x.length : Nat) : Int))) (RowsR pn lb bd sb (w.heap.size + 1 + 1) l (s1, s2, s3 + x.length) (Cells wr.heap.size #[.slice A x.length cA] 23 :: RwQ lb sb w.heap.size (w.heap.size + 1) (w.heap.size + 1 + 1) (w.heap.size + 1 + 1 + 1) (w.heap.size + 1 + 1 + 1 + 1) RB)) := H6.out.put 3 rfl 0 _
        have hfr : (wr.alloc (.cells #[.slice A x.length cA] 23)).frozen? ⟨w.heap.size + 1 + 1, 0, none⟩ = false := free_of (H6.out.block 3 rfl)
        have hcast : ((s3 + x.length : Nat) : Int) = (s3 : Int) + (x.length : Int) := Int.natCast_add _ _
        have hwr : IntKind.i64.wrap ((s3 : Int) + (x.length : Int)) = (s3 : Int) + (x.length : Int) := IntWalk.i64_in _ (by omega)
        rw [hcast] at h8
        have HFIT := Lib.hid hf
        rw [HE.out] at HN
        simp only at HN
        have HLY := Lib.hid (fun w' d' (h' : In F0 w0 w' (RowsR pn lb bd sb (w.heap.size + 1 + 1) l (d', s2, s3 + x.length) (Cells wr.heap.size #[.slice A x.length cA] 23 :: RwQ lb sb w.heap.size (w.heap.size + 1) (w.heap.size + 1 + 1) (w.heap.size + 1 + 1 + 1) (w.heap.size + 1 + 1 + 1 + 1) RB))) => And.intro (show w'.cell? ⟨w.heap.size, 0, none⟩ = some (dptr lb) from cell_of (h'.block 8 rfl) rfl) (And.intro h'.lgpA.lg0 (And.intro (show w'.cell? ⟨w.heap.size + 1 + 1 + 1 + 1, 0, none⟩ = some (f2V (w.heap.size + 1)) from cell_of (h'.block 5 rfl) rfl) (show w'.cell? ⟨wr.heap.size, 0, none⟩ = some (.slice A x.length cA) from cell_of (h'.block 4 rfl) rfl))))
        have KN := Lib.hid (fun w' (h' : In F0 w0 w' (RowsR pn lb bd sb (w.heap.size + 1 + 1) l (s1, s2, s3 + x.length) (Cells wr.heap.size #[.slice A x.length cA] 23 :: RwQ lb sb w.heap.size (w.heap.size + 1) (w.heap.size + 1 + 1) (w.heap.size + 1 + 1 + 1) (w.heap.size + 1 + 1 + 1 + 1) RB))) => o_rname (h'.sel2 (R1 := [_, _, _, _]) [2, 0, 1, 3] (by decide) rfl) (gb := w.heap.size + 1) 6 rfl hs (Nat.le_trans i2 (by decide)) (fun y hy => by have := i3 y hy; have := HNX.out; omega))
        have KA := Lib.hid (fun w' (h' : In F0 w0 w' (RowsR pn lb bd sb (w.heap.size + 1 + 1) l (s1, s2, s3 + x.length) (Cells wr.heap.size #[.slice A x.length cA] 23 :: RwQ lb sb w.heap.size (w.heap.size + 1) (w.heap.size + 1 + 1) (w.heap.size + 1 + 1 + 1) (w.heap.size + 1 + 1 + 1 + 1) RB))) => o_dappend h' 1 rfl (by simp only; omega) (newest s2) (segName_size _) (k + 1 + 6 + 4) (by omega) HBO.out (by omega))
        obtain ⟨y0, y1, y2, y3⟩ := HLY.out _ s1 h8
        have H8 := Lib.hid h8
        have HC := Lib.hid hcast
        unfold f2V at y2 HLY
        clear hs hsp hf h8 hops hhv i2 hx5 i3 H6 hcast
        go_wp2_with fail
        refine HFT.out.mono ?_
        rintro e w4 ⟨rfl, rfl⟩
        rw [HFIT.out]
        clear HFT
        go_wp2_with fail
        go_region_held3 (fun w' => w'.cell? ⟨w.heap.size, 0, none⟩ = some (dptr lb) ∧ w'.cell? ⟨lb, 0, none⟩ = some (dptr bd) ∧ w'.cell? ⟨w.heap.size + 1 + 1 + 1 + 1, 0, none⟩ = some (.func (.func 180) #[] #[.pointer (some ⟨w.heap.size + 1, 0, none⟩)]) ∧ w'.cell? ⟨wr.heap.size, 0, none⟩ = some (.slice A x.length cA)) (first | exact ⟨hz1, hz2, hz3, hz4⟩ | exact ⟨y0, y1, y2, y3⟩ | go_keep)
          (first
            | (go_at_call 180; refine (KN.out _ (H8.out.drewN _)).mono ?_; rintro e w4 ⟨rfl, g1⟩; have g2 := g1.sel2 (R1 := [_, _, _, _]) [1, 2, 0, 3] (by decide) rfl; obtain ⟨hz1, hz2, hz3, hz4⟩ := HLY.out w4 s1 g2; have K1 := Lib.hid (KA.out w4 g2); clear g1 g2)
            | (go_at_call 77; refine K1.out.mono ?_; rintro e w5 ⟨rfl, g3⟩; obtain ⟨hz1, hz2, hz3, hz4⟩ := HLY.out w5 (dAppend s1 (newest s2) x).1 g3; have G3 := Lib.hid g3; clear g3))
        clear KN KA K1 H8 HLY y0 y1 y2 y3 hz1 hz2 hz3 hz4 b0 b1 b2 b3 b4 b5 b6 hfr
        by_cases hr : (dAppend s1 (newest s2) x).2 = 0
        · have HN2 := Lib.hid (HN.out.1 hr _ G3.out)
          have HZ := Lib.hid hr
          clear hr G3 HN
          rw [HZ.out]
          go_wp2_with fail
          go_roundw
          case rel => (try rw [hw2]); exact HN2.out
          case measure => (try rw [hw2]); exact meas_lt hlt'
        · have q : ((dAppend s1 (newest s2) x).2 != 0) = true := by rw [bne_iff_ne]; exact hr
          have HX := Lib.hid (HN.out.2 hr _ G3.out)
          clear hr G3 HN
          go_wp2_with fail
          go_ret
          exact HX.out
      · have hf' : fitsL l s3 x.length = false := by simpa using hf
        have HE : Hid (rowD l x (s1, s2, s3) = thenD (syncNew (s1, s2, s3)) (nextD l.m.next x)) := Lib.hid (by unfold rowD; rw [if_neg hs, if_neg hf]; rfl)
        have g9 := H6.out.cells #[.func (.func 181) #[] #[.pointer (some ⟨w.heap.size, 0, none⟩), .pointer (some ⟨w.heap.size + 1 + 1 + 1 + 1, 0, none⟩)], .func (.func 182) #[] #[.pointer (some ⟨w.heap.size + 1 + 1 + 1, 0, none⟩), .pointer (some ⟨wr.heap.size, 0, none⟩)]] 48
        simp only [World.size_alloc] at g9
        have K := Lib.hid (row_all (s := (s1, s2, s3)) (x := x) (A := A) (cA := cA) hs hops i2 i3 HNX.out hx5 3 4 1 2 0 (k + 1 + 6) rfl rfl rfl rfl rfl HBO.out _ rfl g9)
        rw [← HE.out] at K
        have HFIT := Lib.hid hf'
        clear hs hsp hf hf' hops hhv i2 hx5 i3 H6 g9 HE
        go_wp2_with fail
        refine HFT.out.mono ?_
        rintro e w4 ⟨rfl, rfl⟩
        rw [HFIT.out]
        clear HFT
        go_wp2_with fail
        refine K.out.mono ?_
        rintro e w3 ⟨rfl, g3⟩
        have G3 := Lib.hid g3
        clear g3 K b0 b1 b2 b3 b4 b5 b6
        by_cases hr : (rowD l x (s1, s2, s3)).2 = 0
        · have HN2 := Lib.hid (HN.out.1 hr w3 G3.out)
          have HZ := Lib.hid hr
          clear hr G3 HN
          rw [HZ.out]
          go_wp2_with fail
          go_roundw
          case rel => (try rw [hw2]); exact HN2.out
          case measure => (try rw [hw2]); exact meas_lt hlt'
        · have q : ((rowD l x (s1, s2, s3)).2 != 0) = true := by rw [bne_iff_ne]; exact hr
          have HX := Lib.hid (HN.out.2 hr w3 G3.out)
          clear hr G3 HN
          go_wp2_with fail
          go_ret
          exact HX.out
    · have hge : (bs.length : Int) ≤ (k : Int) := Int.ofNat_le.2 (Nat.le_of_not_lt hlt)
      have hkl : bs.take k = bs := List.take_of_length_le (Nat.le_of_not_lt hlt)
      rw [hkl] at h0
      obtain ⟨i1, i2, i3, i4⟩ := hI
      obtain ⟨s1, s2, s3⟩ := s
      simp only at i1 i2 i3
      have hops : s1.ops ≤ 99980000 := by have := HO.out; omega
      obtain ⟨sa, sc, h7⟩ := (hio.sel2 (R1 := [_, _, _, _]) [2, 0, 1, 3] (by decide) rfl).segOpen
      have b6 : wr.cell? ⟨sb, 0, none⟩ = some (.slice sa s2.length sc) := cell_of (h7.block 1 rfl) rfl
      have b1 : wr.cell? ⟨w.heap.size + 1, 0, none⟩ = some (.pointer (some ⟨sb, 0, none⟩)) := cell_of (hio.block 6 rfl) rfl
      have b4 : wr.cell? ⟨w.heap.size + 1 + 1 + 1, 0, none⟩ = some (f1V (w.heap.size + 1) w.heap.size (w.heap.size + 1 + 1)) := cell_of (hio.block 5 rfl) rfl
      have HLY := Lib.hid (fun w' t (h' : In F0 w0 w' (RowsR pn lb bd sb (w.heap.size + 1 + 1) l t (RwQ lb sb w.heap.size (w.heap.size + 1) (w.heap.size + 1 + 1) (w.heap.size + 1 + 1 + 1) (w.heap.size + 1 + 1 + 1 + 1) RB))) => And.intro (show w'.cell? ⟨w.heap.size, 0, none⟩ = some (dptr lb) from cell_of (h'.block 7 rfl) rfl) (And.intro h'.lgpA.lg0 (show w'.cell? ⟨w.heap.size + 1 + 1 + 1 + 1, 0, none⟩ = some (f2V (w.heap.size + 1)) from cell_of (h'.block 4 rfl) rfl)))
      have KN := Lib.hid (fun w' t (h' : In F0 w0 w' (RowsR pn lb bd sb (w.heap.size + 1 + 1) l t (RwQ lb sb w.heap.size (w.heap.size + 1) (w.heap.size + 1 + 1) (w.heap.size + 1 + 1 + 1) (w.heap.size + 1 + 1 + 1 + 1) RB))) (hne : t.2.1 ≠ []) (hl : t.2.1.length ≤ 64) (hlt : ∀ y ∈ t.2.1, y < l.m.next + 64) => o_rname (h'.sel2 (R1 := [_, _, _, _]) [2, 0, 1, 3] (by decide) rfl) (gb := w.heap.size + 1) 5 rfl hne (Nat.le_trans hl (by decide)) (fun y hy => by have := hlt y hy; have := HNX.out; omega))
      have KA := Lib.hid (fun w' t (h' : In F0 w0 w' (RowsR pn lb bd sb (w.heap.size + 1 + 1) l t (RwQ lb sb w.heap.size (w.heap.size + 1) (w.heap.size + 1 + 1) (w.heap.size + 1 + 1 + 1) (w.heap.size + 1 + 1 + 1 + 1) RB))) (ho : t.1.ops ≤ 99980010) => o_dsync h' 1 rfl (Nat.le_trans ho (by decide)) (newest t.2.1) (segName_size _))
      unfold f2V at HLY
      unfold f1V at b4
      clear h7 hlt hk i1 i4
      by_cases hs : s2 = []
      · have hs0 : s2.length = 0 := by rw [hs]; rfl
        have HE := Lib.hid (layD_nil (d := d) (bs := bs) h0 hs)
        have K := Lib.hid (o_rnext (d := s1) (segs := s2) (hv := s3) hio (gb := w.heap.size + 1) (lx := w.heap.size) (b := []) (A := none) (cA := 0) 2 3 4 rfl rfl rfl (by omega) (by decide) HNX.out)
        obtain ⟨n1, n2, n3, n4, n5⟩ := nextD_inv (nx := l.m.next) (b := []) (s := (s1, s2, s3)) i2 i3
        obtain ⟨r, hr0⟩ : ∃ r, nextD l.m.next [] (s1, s2, s3) = r := ⟨_, rfl⟩
        rw [hr0] at K n1 n2 n3 n5 HE
        rw [hs0] at b6
        have N1 : Hid (r.1.1.ops ≤ 99980010) := Lib.hid (by simp only at n1; omega)
        have N2 := Lib.hid (And.intro n2 n3)
        have N5 := Lib.hid n5
        clear hs hs0 hio hops i2 i3 h0 n1 n2 n3 n4 n5 hr0
        go_wp2_with fail
        refine K.out.mono ?_
        rintro e w3 ⟨rfl, g3⟩
        have G3 := Lib.hid g3
        clear g3 K b1 b4 b6
        by_cases hr : r.2 = 0
        · have hne := N5.out hr
          obtain ⟨y0, y1, y2⟩ := HLY.out w3 r.1 G3.out
          have HZ := Lib.hid hr
          have HNE := Lib.hid hne
          have KNX := Lib.hid (fun w' h' => KN.out w' r.1 h' HNE.out N2.out.1 N2.out.2)
          have KAX := Lib.hid (fun w' h' => KA.out w' r.1 h' N1.out)
          have HH := Lib.hid (fun n => G3.out.drewN n)
          have RR := Lib.hid (show layD l bs d = syncNew r.1 by rw [HE.out, thenD_ok hr])
          clear hr hne N5 KN KA HE
          rw [HZ.out]
          go_wp2_with fail
          go_region_held3 (fun w' => w'.cell? ⟨w.heap.size, 0, none⟩ = some (dptr lb) ∧ w'.cell? ⟨lb, 0, none⟩ = some (dptr bd) ∧ w'.cell? ⟨w.heap.size + 1 + 1 + 1 + 1, 0, none⟩ = some (.func (.func 180) #[] #[.pointer (some ⟨w.heap.size + 1, 0, none⟩)])) (first | exact ⟨hz1, hz2, hz3⟩ | exact ⟨y0, y1, y2⟩ | go_keep)
            (first
              | (go_at_call 180; refine (KNX.out _ (HH.out _)).mono ?_; rintro e w4 ⟨rfl, g1⟩; have g2 := g1.sel2 (R1 := [_, _, _, _]) [1, 2, 0, 3] (by decide) rfl; obtain ⟨hz1, hz2, hz3⟩ := HLY.out w4 r.1 g2; have K1 := Lib.hid (KAX.out w4 g2); clear g1 g2)
              | (go_at_call 64; refine K1.out.mono ?_; rintro e w5 ⟨rfl, g3⟩; obtain ⟨hz1, hz2, hz3⟩ := HLY.out w5 (syncNew r.1).1 g3; have G5 := Lib.hid g3; clear g3))
          all_goals
            go_wp2_with fail
            go_ret
            exact rw_done (d := d) (bs := bs) RR.out G5.out
        · have q : (r.2 != 0) = true := by rw [bne_iff_ne]; exact hr
          have HX := Lib.hid (rw_done (d := d) (bs := bs) (by rw [HE.out, thenD_err hr]) G3.out)
          clear hr G3 HE HLY KN KA
          go_wp2_with fail
          go_ret
          exact HX.out
      · have hsp : 0 < s2.length := List.length_pos_iff.2 hs
        have qs : (((s2.length : Nat) : Int) == 0) = false := beq_eq_false_iff_ne.2 (by omega)
        have RR := Lib.hid (layD_some (d := d) (bs := bs) h0 hs)
        have HH := Lib.hid (fun n => hio.drewN n)
        have HNE := Lib.hid hs
        have N2 := Lib.hid (And.intro i2 i3)
        have N1 := Lib.hid (Nat.le_trans hops (by decide : 99980000 ≤ 99980010))
        have KNX := Lib.hid (fun w' h' => KN.out w' (s1, s2, s3) h' HNE.out N2.out.1 N2.out.2)
        have KAX := Lib.hid (fun w' h' => KA.out w' (s1, s2, s3) h' N1.out)
        obtain ⟨y0, y1, y2⟩ := HLY.out wr (s1, s2, s3) hio
        clear hs hsp hio hops i2 i3 h0 KN KA b4
        go_wp2_with fail
        go_region_held3 (fun w' => w'.cell? ⟨w.heap.size, 0, none⟩ = some (dptr lb) ∧ w'.cell? ⟨lb, 0, none⟩ = some (dptr bd) ∧ w'.cell? ⟨w.heap.size + 1 + 1 + 1 + 1, 0, none⟩ = some (.func (.func 180) #[] #[.pointer (some ⟨w.heap.size + 1, 0, none⟩)])) (first | exact ⟨hz1, hz2, hz3⟩ | exact ⟨y0, y1, y2⟩ | go_keep)
          (first
            | (go_at_call 180; refine (KNX.out _ (HH.out _)).mono ?_; rintro e w4 ⟨rfl, g1⟩; have g2 := g1.sel2 (R1 := [_, _, _, _]) [1, 2, 0, 3] (by decide) rfl; obtain ⟨hz1, hz2, hz3⟩ := HLY.out w4 (s1, s2, s3) g2; have K1 := Lib.hid (KAX.out w4 g2); clear g1 g2)
            | (go_at_call 64; refine K1.out.mono ?_; rintro e w5 ⟨rfl, g3⟩; obtain ⟨hz1, hz2, hz3⟩ := HLY.out w5 (syncNew (s1, s2, s3)).1 g3; have G5 := Lib.hid g3; clear g3))
        all_goals
          go_wp2_with fail
          go_ret
          exact rw_done (d := d) (bs := bs) RR.out G5.out
end
end Go.Proofs.YtogclkhpbjfadaaGreat
