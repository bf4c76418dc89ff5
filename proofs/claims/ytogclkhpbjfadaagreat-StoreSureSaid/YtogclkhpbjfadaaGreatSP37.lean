/- What is proved here: contracts of the program's functions, and plain laws, on which the proof of StoreSure rests; without conditions. -/
import Derived.Test.YtogclkhpbjfadaaGreatSP32
import Derived.Deep.RegionHeld3
import Derived.LoopTactic
import Derived.StillTailTactics
import Derived.Test.YtogclkhpbjfadaaGreatSP12
import Derived.Test.YtogclkhpbjfadaaGreatSP36
import Derived.Test.YtogclkhpbjfadaaGreatSP5
namespace Go.Proofs.YtogclkhpbjfadaaGreat
open Go.RowKit
set_option linter.unusedVariables false
set_option maxRecDepth 100000
section
variable {F0 : List Nat} {w0 w : World} {R : List Asrt}
end
end Go.Proofs.YtogclkhpbjfadaaGreat
namespace Go.Proofs.YtogclkhpbjfadaaGreat
open Go.RowKit
set_option linter.unusedVariables false
set_option maxRecDepth 100000
structure FrCell (w : World) (g o : Nat) (f : FrD) (A : Option Addr) (c : Nat) : Prop where
  kind : w.cell? ⟨g, o, none⟩ = some (.int .i64 f.kind)
  ver : w.cell? ⟨g, o + 1, none⟩ = some (.int .i64 f.ver)
  val : w.cell? ⟨g, o + 2, none⟩ = some (.slice A f.body.length c)
  body : Src w A f.body.length 1 (u8s f.body)
  nil : A = none → f.body.length = 0
def FrAt (w : World) (a : Option Addr) (fs : List FrD) : Prop := ∀ k f, fs[k]? = some f → ∃ g o A c, a = some ⟨g, o, none⟩ ∧ FrCell w g (o + k * 3) f A c
theorem FrAt.take {w : World} {a : Option Addr} {fs : List FrD} (h : FrAt w a fs) (n : Nat) : FrAt w a (fs.take n) := fun k f hf => by
  rw [List.getElem?_take] at hf
  split at hf
  · exact h k f hf
  · cases hf
theorem Src.drew {w : World} {A : Option Addr} {n k : Nat} {xs : List Value} (h : Src w A n k xs) : Src (w.drewN 1) A n k xs := ⟨h.len, fun h0 => by
  obtain ⟨ad, e, hc⟩ := h.at' h0
  exact ⟨ad, e, fun j u hu => hc j u hu⟩⟩
section
variable {F0 : List Nat} {w0 w : World} {R : List Asrt}
def SameRel (fs gs : List FrD) (F0 : List Nat) (w0 : World) (R : List Asrt) (i : Value) (wr : World) : Prop :=
  ∃ k : Nat, k ≤ fs.length ∧ i = .int .i64 k ∧ fs.take k = gs.take k ∧ In F0 w0 wr R
end
end Go.Proofs.YtogclkhpbjfadaaGreat
namespace Go.Proofs.YtogclkhpbjfadaaGreat
open Go.RowKit
set_option linter.unusedVariables false
set_option maxRecDepth 100000
def TrueP (w : World) (e : Ending) (w' : World) : Prop := e = .returned (.bool true) ∧ Mod [] w w'
structure OpSt (M k : Nat) (kind ver : Nat) (size : Nat) (L : List (List UInt8)) (d : DiskD) (l : LogD) : Prop where
  firm : Firm d l.m ((L.take k).map (fun b => ⟨kind, ver, b⟩)) 0
  loose : l.loose = false
  size : l.size = size
  ver : l.m.ver = ver
  rm : Rm d ((M - k) * 600 + 10000) ((M - k) * 2 + 20)
  segs : l.m.segs.length ≤ k + 1
  next : l.m.next ≤ k + 2
  ops : d.ops ≤ 1000 + 20 * k
theorem OpSt.ok {M k kind ver size : Nat} {L : List (List UInt8)} {d : DiskD} {l : LogD} (h : OpSt M k kind ver size L d l) (hs : 16 ≤ size ∧ size ≤ 1048576) : LgOk l := ⟨by rw [h.size]; exact hs.1, by rw [h.size]; exact hs.2, h.firm.now.1⟩
theorem OpSt.step {M k kind ver size : Nat} {L : List (List UInt8)} {d : DiskD} {l : LogD} (h : OpSt M k kind ver size L d l) {x : List UInt8} (hx : L[k]? = some x) (hl : x.length ≤ 300) (hk : k < M) (hM : M ≤ 40) (hkind : kind < 256) (hver : ver < 256) :
    (appendL kind x (d, l)).2 = 0 ∧ OpSt M (k + 1) kind ver size L (appendL kind x (d, l)).1.1 (appendL kind x (d, l)).1.2 := by
  have hp : putErr kind l.m.ver x.length = 0 := by
    unfold putErr
    rw [h.ver, if_neg (by omega), if_neg (by omega)]
  have hseg := h.segs
  have hnext := h.next
  obtain ⟨a1, a2, a3, a4⟩ := append_rm (B := (M - (k + 1)) * 600 + 10000) (n := (M - (k + 1)) * 2 + 20) h.firm h.loose kind x (h.rm.le (by omega) (by omega)) (by omega) (by omega) hp
  obtain ⟨b1, b2, b3⟩ := append_inv (Fr0 := []) (s0 := 0) (Or.inl ⟨h.loose, h.firm⟩) kind x
  have hops := appendL_ops kind x (d, l)
  rcases b3 with ⟨_, b4, b5⟩ | ⟨b4, _⟩
  · refine ⟨a1, ?_, b4, by rw [b1, h.size], by rw [b2, h.ver], a2, by omega, by omega, ?_⟩
    · have e : (L.take (k + 1)).map (fun b => (⟨kind, ver, b⟩ : FrD)) = (L.take k).map (fun b => ⟨kind, ver, b⟩) ++ [⟨(kind : Int).toNat, l.m.ver, x⟩] := by
        rw [List.take_add_one, hx, h.ver]
        simp
      rw [e]; exact b5
    · have := h.ops
      simp only at hops; omega
  · exact absurd a1 b4
theorem OpSt.start {M ver : Nat} (L : List (List UInt8)) (kind : Nat) (size : Int) (hv : 1 ≤ ver ∧ ver ≤ 3) (hM : M ≤ 40) :
    ∃ d, createD ver size (dNew 200000) = (d, some ⟨sized size, firstM ver, false⟩, 0) ∧ OpSt M 0 kind ver (sized size) L d ⟨sized size, firstM ver, false⟩ := by
  obtain ⟨d', h1, h2, h3⟩ := create_rm (B := M * 600 + 10000) (n := M * 2 + 20) (dNew_ok 200000) ⟨rfl, by show 0 + _ ≤ 200000; omega, by show 0 + _ ≤ 200; omega, by show 200000 ≤ _; omega⟩ rfl hv size
  refine ⟨d', h1, h2, rfl, rfl, rfl, h3.le (by omega) (by omega), by simp [firstM], by simp [firstM], ?_⟩
  have ho : (createD ver size (dNew 200000)).1.ops ≤ (dNew 200000).ops + 8 := by
    unfold createD
    split
    · simp only; omega
    · split
      · simp only; omega
      · simp only
        have hb := beginD_ops 1 (dNew 200000)
        have : (thenD (thenD (beginD 1 (dNew 200000)) (fun d => dSync d (segName 1))) (fun d => ((commitD (firstM ((ver : Int).toNat)) d).1, (commitD (firstM ((ver : Int).toNat)) d).2.2))).1.ops ≤ (dNew 200000).ops + 8 := by
          have h1 : (thenD (beginD 1 (dNew 200000)) (fun d => dSync d (segName 1))).1.ops ≤ (dNew 200000).ops + 2 + 1 := thenD_le (μ := fun t : DiskD => t.ops) (a := (dNew 200000).ops + 2) (b := 1) hb (fun t => dSync_ops t _)
          exact thenD_le (μ := fun t : DiskD => t.ops) (a := (dNew 200000).ops + 2 + 1) (b := 5) h1 (fun t => commitD_ops _ t)
        split <;> exact this
  rw [h1] at ho
  have : (dNew 200000).ops = 0 := rfl
  simp only at ho; omega
theorem sized_ok (n : Int) : 16 ≤ sized n ∧ sized n ≤ 1048576 := by unfold sized; omega
def empA : Asrt := fun w F => F = []
theorem empA.framed : Framed empA := ⟨fun h _ => h, fun h b hb => by rw [show _ = _ from h] at hb; simp at hb⟩
theorem Opened.rm {d d' : DiskD} {B n : Nat} (h : Opened d d') (hr : Rm d B n) : Rm d' B n := hr.same h.fail h.quota h.size (by rw [h.now]; exact Nat.le_refl _)
section
variable {F0 : List Nat} {w0 w : World} {R : List Asrt}
theorem OpenPost.some {σ : Type} {Acc : σ → Asrt} {bd : Nat} {r : σ × DiskD × Option LogD × Int} {l : LogD} {e : Ending} {w' : World} (h : OpenPost Acc bd r F0 w0 R e w') (hl : r.2.2.1 = some l) : ∃ lb, e = .returned (.tuple #[dptr lb, .int .i64 r.2.2.2]) ∧ In F0 w0 w' (LgA lb bd l :: Acc r.1 :: DkA bd r.2.1 :: R) := by
  unfold OpenPost at h; rw [hl] at h; exact h
end
section
variable {H : Type} {enc : TypeId × Value → H} {w : World} {base : Nat} {spare : Nat → Bool} {held : Bool}
end
end Go.Proofs.YtogclkhpbjfadaaGreat
