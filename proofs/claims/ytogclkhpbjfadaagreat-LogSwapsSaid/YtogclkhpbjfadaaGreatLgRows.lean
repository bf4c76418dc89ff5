/- Segments' files are removed, as far as the disk lets; rows are laid in new segments. -/
import Derived.Test.YtogclkhpbjfadaaGreatLgO
import Derived.Test.YtogclkhpbjfadaaGreatArgL6
namespace Go.Proofs.YtogclkhpbjfadaaGreat
open Go.RowKit
set_option linter.unusedVariables false
set_option maxRecDepth 100000

theorem dropD_snoc : ∀ (l : List Nat) (s : Nat) (d : DiskD), dropD (l ++ [s]) d = (clearD (segName s) (dropD l d)).1
  | [], s, d => rfl
  | x :: r, s, d => by simp only [List.cons_append, dropD]; exact dropD_snoc r s _
theorem removeD_snoc : ∀ (l : List Nat) (s : Nat) (d : DiskD), removeD (l ++ [s]) d = (dRemove (removeD l d) (segName s)).1
  | [], s, d => rfl
  | x :: r, s, d => by simp only [List.cons_append, removeD]; exact removeD_snoc r s _
theorem dropD_ops : ∀ (l : List Nat) (d : DiskD), (dropD l d).ops ≤ d.ops + l.length
  | [], d => Nat.le_refl _
  | x :: r, d => by
    have h1 := dropD_ops r (clearD (segName x) d).1
    have h2 := clearD_ops (segName x) d
    simp only [dropD, List.length_cons]; omega
/-- A log whose row of segments is this one. -/
def LgP (pn : Value) (lb bd : Nat) (l : LogD) : Asrt := Star [Cells lb (lgC bd l pn) 120, RowA 3 1 pn l.m.segs.length (segV l.m.segs)]
theorem LgP.framed (pn : Value) (lb bd : Nat) (l : LogD) : Framed (LgP pn lb bd l) := Framed.star (LgR_framed lb bd l pn)
theorem In.lgpA {F0 : List Nat} {w0 w : World} {R : List Asrt} {pn : Value} {lb bd : Nat} {l : LogD} (h : In F0 w0 w (LgP pn lb bd l :: R)) : In F0 w0 w (LgA lb bd l :: R) :=
  h.imp (A' := LgA lb bd l) 0 rfl (LgA.framed _ _ _) (fun F hF => ⟨pn, hF⟩)
theorem In.lgpOpen {F0 : List Nat} {w0 w : World} {R : List Asrt} {pn : Value} {lb bd : Nat} {l : LogD} (h : In F0 w0 w (LgP pn lb bd l :: R)) : In F0 w0 w (RowA 3 1 pn l.m.segs.length (segV l.m.segs) :: Cells lb (lgC bd l pn) 120 :: R) :=
  h.split (A := Cells lb (lgC bd l pn) 120) (B := RowA 3 1 pn l.m.segs.length (segV l.m.segs)) 0 rfl (Cells.framed _ _ _) (RowA.framed _ _ _ _ _)
theorem In.lgpClose {F0 : List Nat} {w0 w : World} {R : List Asrt} {pn : Value} {lb bd : Nat} {l : LogD} (h : In F0 w0 w (RowA 3 1 pn l.m.segs.length (segV l.m.segs) :: Cells lb (lgC bd l pn) 120 :: R)) : In F0 w0 w (LgP pn lb bd l :: R) :=
  h.fold (C := LgP pn lb bd l) 0 rfl (LgP.framed _ _ _ _) (fun F hF => hF)
section
variable {F0 : List Nat} {w0 w : World} {R : List Asrt} {bd lb : Nat} {d : DiskD} {l : LogD}
def DropRel (lb bd : Nat) (l : LogD) (d : DiskD) (segs : List Nat) (v : Value) (F0 : List Nat) (w0 : World) (R : List Asrt) (i : Value) (wr : World) : Prop :=
  ∃ k : Nat, k ≤ segs.length ∧ i = .int .i64 k ∧ In F0 w0 wr (LgA lb bd l :: DkA bd (dropD (segs.take k) d) :: RowA 3 1 v segs.length (segV segs) :: R)
theorem drop_step {segs : List Nat} {k x : Nat} {v : Value} (hx : segs[k]? = some x) (h : In F0 w0 w (LgA lb bd l :: DkA bd (clearD (segName x) (dropD (segs.take k) d)).1 :: RowA 3 1 v segs.length (segV segs) :: R)) : DropRel lb bd l d segs v F0 w0 R (.int .i64 ((k : Int) + 1)) w := by
  have hk := (List.getElem?_eq_some_iff.1 hx).1
  refine ⟨k + 1, hk, by rw [Int.natCast_add]; rfl, ?_⟩
  rw [List.take_add_one, hx]
  show In F0 w0 w (LgA lb bd l :: DkA bd (dropD (segs.take k ++ [x]) d) :: _)
  rw [dropD_snoc]; exact h
theorem drop_ops {segs : List Nat} {k : Nat} (ho : d.ops ≤ 99999000) (hs : segs.length ≤ 100) : (dropD (segs.take k) d).ops ≤ 100000000 := by
  have := dropD_ops (segs.take k) d
  rw [List.length_take] at this; omega
theorem segV_at {segs : List Nat} {k x : Nat} (hx : segs[k]? = some x) : (segV segs)[k]? = some (.int .i64 x) := by simp [segV, hx]
set_option maxHeartbeats 8000000 in
theorem o_drop {segs : List Nat} {a : Option Addr} {c : Nat} (h : In F0 w0 w (LgA lb bd l :: DkA bd d :: RowA 3 1 (.slice a segs.length c) segs.length (segV segs) :: R)) (ho : d.ops ≤ 99999000) (hs : segs.length ≤ 100) (hv : ∀ x ∈ segs, x < 4611686018427387904) :
    Calls Tryz.prog 97 #[dptr lb, .slice a segs.length c] w fun e w' => e = .returned (.tuple #[]) ∧ In F0 w0 w' (LgA lb bd l :: DkA bd (dropD segs d) :: RowA 3 1 (.slice a segs.length c) segs.length (segV segs) :: R) := by
  have HR : Hid (DropRel lb bd l d segs (.slice a segs.length c) F0 w0 R (.int .i64 0) w) := Lib.hid ⟨0, Nat.zero_le _, rfl, h⟩
  have HO := Lib.hid ho
  have HS := Lib.hid hs
  have HV := Lib.hid hv
  clear h ho hv
  go_enter Tryz.func97, Tryz.ntmps97
  go_wp2_with fail
  go_loopw [8] (DropRel lb bd l d segs (.slice a segs.length c) F0 w0 R) (fun k _ => segs.length - (intOf k).toNat)
  case atStart => exact HR.out
  case round =>
    obtain ⟨k, hk, rfl, hio⟩ := hrel
    clear HR
    by_cases hlt : k < segs.length
    · obtain ⟨x, hx⟩ : ∃ x, segs[k]? = some x := ⟨segs[k], List.getElem?_eq_getElem hlt⟩
      obtain ⟨Fs, hrow⟩ := hio.get 2 rfl
      obtain ⟨b, rfl, c0⟩ := hrow.at.2 k _ (segV_at hx)
      have hlt' : (k : Int) < (segs.length : Int) := Int.ofNat_lt.2 hlt
      have hw2 : wrap64 ((k : Int) + 1) = (k : Int) + 1 := by unfold wrap64; omega
      have HN := Lib.hid (fun w' h' => drop_step (w := w') (l := l) (lb := lb) (bd := bd) (d := d) (v := .slice (some ⟨b, 0, none⟩) segs.length c) (F0 := F0) (w0 := w0) (R := R) hx h')
      have KN := Lib.hid (o_name (hio.drewN 1) x (HV.out x (List.mem_of_getElem? hx)))
      have KC := Lib.hid (fun w' h' => o_clear (w := w') (F0 := F0) (w0 := w0) (R := LgA lb bd l :: DkA bd (dropD (segs.take k) d) :: RowA 3 1 (.slice (some ⟨b, 0, none⟩) segs.length c) segs.length (segV segs) :: R) h' 1 rfl (drop_ops HO.out HS.out) (segName x) (segName_size x))
      have hl0 := hio.lg0
      have HL0 := Lib.hid (fun w' (h' : In F0 w0 w' (LgA lb bd l :: DkA bd (dropD (segs.take k) d) :: RowA 3 1 (.slice (some ⟨b, 0, none⟩) segs.length c) segs.length (segV segs) :: R)) => h'.lg0)
      clear hio hrow hk hlt hx hs
      go_wp2_with fail
      go_region_held3 (fun w' => w'.cell? ⟨lb, 0, none⟩ = some (dptr bd)) (first | exact hl1 | go_keep)
        (first
          | (go_at_call 65; refine KN.out.mono ?_; rintro e w1 ⟨rfl, g1⟩; have hl1 := HL0.out w1 g1; have K1 := Lib.hid (KC.out w1 g1); clear g1)
          | (go_at_call 144; refine K1.out.mono ?_; rintro e w2 ⟨rfl, g2⟩; have hl1 := In.lg0 g2; have HN2 := Lib.hid (HN.out w2 g2); clear g2))
      go_wp2_with fail
      go_roundw
      case rel => (try rw [hw2]); exact HN2.out
      case measure => (try rw [hw2]); exact meas_lt hlt'
    · have hge : (segs.length : Int) ≤ (k : Int) := Int.ofNat_le.2 (Nat.le_of_not_lt hlt)
      have hkl : segs.take k = segs := List.take_of_length_le (Nat.le_of_not_lt hlt)
      rw [hkl] at hio
      have G := Lib.hid hio
      clear hio hkl hlt hk
      go_wp2_with fail
      go_end0
      exact ⟨rfl, G.out⟩
end
end Go.Proofs.YtogclkhpbjfadaaGreat
