/- Rows are laid in new segments. -/
import Derived.Test.YtogclkhpbjfadaaGreatLgRowsP
import Derived.StillTailTactics
import Derived.Deep.RegionHeld3
import Derived.Deep.DeepCutAuto
namespace Go.Proofs.YtogclkhpbjfadaaGreat
open Go.RowKit
set_option linter.unusedVariables false
set_option maxRecDepth 100000

/-- Rows of bytes, each in a block of its own. -/
def bodB : List Value → List (List UInt8) → List Asrt
  | v :: vs, b :: bs => RowA 5 1 v b.length (u8s b) :: bodB vs bs
  | _, _ => []
theorem bodB_at : ∀ {vs : List Value} {bs : List (List UInt8)} {R : List Asrt} {k : Nat} {v : Value} {b : List UInt8}, vs[k]? = some v → bs[k]? = some b → (bodB vs bs ++ R)[k]? = some (RowA 5 1 v b.length (u8s b))
  | [], _, _, _, _, _, h, _ => by simp at h
  | _ :: _, [], _, _, _, _, _, h => by simp at h
  | v :: vs, b :: bs, R, 0, _, _, h1, h2 => by simp at h1 h2; subst h1 h2; rfl
  | v :: vs, b :: bs, R, k + 1, _, _, h1, h2 => by
    simp only [bodB, List.cons_append, List.getElem?_cons_succ]
    exact bodB_at (by simpa using h1) (by simpa using h2)
abbrev SLN := DiskD × List Nat × Nat
theorem rowsD_app (l : LogD) : ∀ (xs ys : List (List UInt8)) (s : SLN), rowsD l (xs ++ ys) s = thenD (rowsD l xs s) (rowsD l ys)
  | [], ys, s => by
    have e : rowsD l [] s = (s, 0) := rfl
    rw [List.nil_append, e, thenD_ok rfl]
  | x :: xs, ys, s => by
    have e1 : rowsD l (x :: (xs ++ ys)) s = thenD (rowD l x s) (rowsD l (xs ++ ys)) := rfl
    have e2 : rowsD l (x :: xs) s = thenD (rowD l x s) (rowsD l xs) := rfl
    rw [List.cons_append, e1, e2]
    by_cases h : (rowD l x s).2 = 0
    · rw [thenD_ok h, thenD_ok h, rowsD_app l xs ys]
    · rw [thenD_err h, thenD_err h, thenD_err h]
theorem rowsD_one (l : LogD) (x : List UInt8) (s : SLN) : rowsD l [x] s = rowD l x s := by
  have e : rowsD l [x] s = thenD (rowD l x s) (rowsD l []) := rfl
  rw [e]
  by_cases h : (rowD l x s).2 = 0
  · rw [thenD_ok h]; exact Prod.ext rfl h.symm
  · rw [thenD_err h]
theorem dAppend_ops (d : DiskD) (n : ByteArray) (b : List UInt8) : (dAppend d n b).1.ops ≤ d.ops + 1 := by have := (dOps d n n b 0).1; omega
/-- What holds of new segments behind k rows. -/
structure RwI (l : LogD) (d0 : DiskD) (k : Nat) (s : SLN) : Prop where
  ops : s.1.ops ≤ d0.ops + 3 * k
  len : s.2.1.length ≤ 64
  lt : ∀ x ∈ s.2.1, x < l.m.next + 64
  have' : s.2.2 ≤ 5000 * k
theorem nextD_inv {nx : Nat} {b : List UInt8} {s : SLN} (h1 : s.2.1.length ≤ 64) (h2 : ∀ x ∈ s.2.1, x < nx + 64) :
    (nextD nx b s).1.1.ops ≤ s.1.ops + 2 ∧ (nextD nx b s).1.2.1.length ≤ 64 ∧ (∀ x ∈ (nextD nx b s).1.2.1, x < nx + 64) ∧ ((nextD nx b s).1.2.2 ≤ s.2.2 ∨ (nextD nx b s).1.2.2 ≤ b.length) ∧ ((nextD nx b s).2 = 0 → (nextD nx b s).1.2.1 ≠ []) := by
  have c1 := clearD_ops (segName (nx + s.2.1.length)) s.1
  unfold nextD
  split
  · exact ⟨by simp only; omega, h1, h2, Or.inl (Nat.le_refl _), fun h => by simp at h⟩
  split
  · rename_i h64 hc
    exact ⟨by simp only; omega, h1, h2, Or.inl (Nat.le_refl _), fun h => absurd h hc⟩
  · rename_i h64 hc
    have c2 := dAppend_ops (clearD (segName (nx + s.2.1.length)) s.1).1 (segName (nx + s.2.1.length)) b
    refine ⟨by simp only; omega, by simp; omega, fun x hx => ?_, Or.inr (Nat.le_refl _), fun _ => by simp⟩
    rcases List.mem_append.1 hx with hx | hx
    · exact h2 x hx
    · simp at hx; omega
theorem RwI.row {l : LogD} {d0 : DiskD} {k : Nat} {s : SLN} (h : RwI l d0 k s) {b : List UInt8} (hb : b.length ≤ 5000) : RwI l d0 (k + 1) (rowD l b s).1 := by
  obtain ⟨h1, h2, h3, h4⟩ := h
  unfold rowD
  split
  · obtain ⟨n1, n2, n3, n4, _⟩ := nextD_inv (b := b) h2 h3
    exact ⟨by omega, n2, n3, by omega⟩
  split
  · have c2 := dAppend_ops s.1 (newest s.2.1) b
    exact ⟨by simp only; omega, h2, h3, by simp only; omega⟩
  · have c1 := dSync_ops s.1 (newest s.2.1)
    by_cases h : (dSync s.1 (newest s.2.1)).2 = 0
    · rw [thenD_ok (r := (((dSync s.1 (newest s.2.1)).1, s.2), (dSync s.1 (newest s.2.1)).2)) h]
      obtain ⟨n1, n2, n3, n4, _⟩ := nextD_inv (nx := l.m.next) (b := b) (s := ((dSync s.1 (newest s.2.1)).1, s.2)) h2 h3
      simp only at n1 n4
      show RwI l d0 (k + 1) (nextD l.m.next b ((dSync s.1 (newest s.2.1)).1, s.2)).1
      exact ⟨by omega, n2, n3, by omega⟩
    · rw [thenD_err (r := (((dSync s.1 (newest s.2.1)).1, s.2), (dSync s.1 (newest s.2.1)).2)) h]
      exact ⟨by simp only; omega, h2, h3, by simp only; omega⟩
def syncNew (s : SLN) : SLN × Int := (((dSync s.1 (newest s.2.1)).1, s.2), (dSync s.1 (newest s.2.1)).2)
theorem layD_err {l : LogD} {bs : List (List UInt8)} {d : DiskD} (h : (rowsD l bs (d, [], 0)).2 ≠ 0) : layD l bs d = rowsD l bs (d, [], 0) := by
  unfold layD
  rw [thenD_err h, thenD_err h]
theorem layD_some {l : LogD} {bs : List (List UInt8)} {d : DiskD} {s : SLN} (h : rowsD l bs (d, [], 0) = (s, 0)) (hs : s.2.1 ≠ []) : layD l bs d = syncNew s := by
  unfold layD
  rw [h, thenD_ok (r := (s, 0)) rfl]
  simp only
  rw [if_neg hs, thenD_ok (r := (s, 0)) rfl]; rfl
theorem layD_nil {l : LogD} {bs : List (List UInt8)} {d : DiskD} {s : SLN} (h : rowsD l bs (d, [], 0) = (s, 0)) (hs : s.2.1 = []) : layD l bs d = thenD (nextD l.m.next [] s) syncNew := by
  unfold layD
  rw [h, thenD_ok (r := (s, 0)) rfl]
  simp only
  rw [if_pos hs]; rfl
section
variable {F0 : List Nat} {w0 w : World} {R : List Asrt} {pn : Value} {bd lb sb : Nat} {d : DiskD} {l : LogD}
def f1V (gb lx hb : Nat) : Value := .func (.func 179) #[] #[.pointer (some ⟨gb, 0, none⟩), .pointer (some ⟨lx, 0, none⟩), .pointer (some ⟨hb, 0, none⟩)]
def f2V (gb : Nat) : Value := .func (.func 180) #[] #[.pointer (some ⟨gb, 0, none⟩)]
set_option maxHeartbeats 4000000 in
/-- A segment is full: the newest is made sure, the row lies in the next. -/
theorem row_all {fb lx gb hb nx nm bb : Nat} {s : SLN} {x : List UInt8} {A : Option Addr} {cA ty : Nat} (hs : s.2.1 ≠ []) (h1 : s.1.ops ≤ 99980000) (h2 : s.2.1.length ≤ 64) (h3 : ∀ y ∈ s.2.1, y < l.m.next + 64) (hn : l.m.next ≤ 1000000) (hx : x.length ≤ 5000) {Q : List Asrt}
    (jg jl jm jn jb jx : Nat) (hg : Q[jg]? = some (Cells gb #[.pointer (some ⟨sb, 0, none⟩)] 145)) (hl : Q[jl]? = some (Cells lx #[dptr lb] 28)) (hm : Q[jm]? = some (Cells nm #[f2V gb] 125)) (hnn : Q[jn]? = some (Cells nx #[f1V gb lx hb] 234)) (hb' : Q[jb]? = some (Cells bb #[.slice A x.length cA] 23)) (hxx : Q[jx]? = some (RowA 5 1 (.slice A x.length cA) x.length (u8s x)))
    (fs : List (FuncId × Array Value)) (hfs : fs = [(181, #[.pointer (some ⟨lx, 0, none⟩), .pointer (some ⟨nm, 0, none⟩)]), (182, #[.pointer (some ⟨nx, 0, none⟩), .pointer (some ⟨bb, 0, none⟩)])])
    (h : In F0 w0 w (Cells fb (fs.map fnV).toArray ty :: RowsR pn lb bd sb hb l s Q)) :
    Calls Tryz.prog 60 #[.slice (some ⟨fb, 0, none⟩) 2 2] w fun e w' => e = .returned (.int .i64 (thenD (syncNew s) (nextD l.m.next x)).2) ∧ In F0 w0 w' (RowsR pn lb bd sb hb l (thenD (syncNew s) (nextD l.m.next x)).1 Q) := by
  have hent1 : ∀ args w', (callFunc 181 args).run Tryz.prog w' = .ok (.enter 181 args) w' := enters_of Tryz.func181 (by kernel_rfl) rfl
  have hent2 : ∀ args w', (callFunc 182 args).run Tryz.prog w' = .ok (.enter 182 args) w' := enters_of Tryz.func182 (by kernel_rfl) rfl
  have hlen : fs.length = 2 := by rw [hfs]; rfl
  have key := all_fn (F0 := F0) (w0 := w0) (w := w) (fun k (t : SLN) => (k = 0 → t = s) ∧ (k = 1 → t.1.ops ≤ 99980001 ∧ t.2 = s.2)) (fun t => RowsR pn lb bd sb hb l t Q) fb ty [syncNew, nextD l.m.next x] fs (by rw [hlen]; rfl) (by omega) s 2
    ⟨fun _ => rfl, fun h => by omega⟩ (fun k f hf t hI => by
      refine ⟨fun h => by omega, fun h => ?_⟩
      obtain rfl : k = 0 := by omega
      cases hf
      obtain rfl := hI.1 rfl
      have := dSync_ops t.1 (newest t.2.1)
      exact ⟨by show (dSync t.1 (newest t.2.1)).1.ops ≤ _; omega, rfl⟩)
    (fun f hf => by
      rw [hfs] at hf
      simp only [List.mem_cons, List.not_mem_nil, or_false] at hf
      rcases hf with rfl | rfl
      · exact hent1
      · exact hent2)
    (fun k f g hf hgg w' t hI h' => by
      rw [hfs] at hf
      rcases k with _ | _ | k
      · obtain rfl := hI.1 rfl
        cases hf; cases hgg
        obtain ⟨t1, t2, t3⟩ := t
        have := o_rsync (F0 := F0) (w0 := w0) (d := t1) (segs := t2) (hv := t3) (R := Cells fb (fs.map fnV).toArray ty :: Q) (h'.sel2 (R1 := [_, _, _, _, _]) [1, 2, 3, 4, 0] (by decide) rfl) (gb := gb) (lx := lx) (nb := nm) (jg + 1) (jl + 1) (jm + 1) hg hl hm (by simp only at h1; omega) hs (by simp only at h2; omega) (fun y hy => by have := h3 y hy; omega)
        exact this.mono fun e w'' ⟨he, hw⟩ => ⟨he, hw.sel2 (R1 := [_, _, _, _, _]) [4, 0, 1, 2, 3] (by decide) rfl⟩
      · obtain ⟨i1, i2⟩ := hI.2 rfl
        cases hf; cases hgg
        obtain ⟨t1, t2, t3⟩ := t
        have := o_rfour (F0 := F0) (w0 := w0) (d := t1) (segs := t2) (hv := t3) (b := x) (A := A) (cA := cA) (R := Cells fb (fs.map fnV).toArray ty :: Q) (h'.sel2 (R1 := [_, _, _, _, _]) [1, 2, 3, 4, 0] (by decide) rfl) (gb := gb) (lx := lx) (nb := nx) (bb := bb) (jg + 1) (jl + 1) (jx + 1) (jn + 1) (jb + 1) hg hl hxx hnn hb' (by simp only at i1; omega) hx hn
        exact this.mono fun e w'' ⟨he, hw⟩ => ⟨he, hw.sel2 (R1 := [_, _, _, _, _]) [4, 0, 1, 2, 3] (by decide) rfl⟩
      · simp at hf) h
  rw [hlen] at key
  exact key.mono fun e w' ⟨he, hw⟩ => ⟨he, hw.drop⟩
end
end Go.Proofs.YtogclkhpbjfadaaGreat
