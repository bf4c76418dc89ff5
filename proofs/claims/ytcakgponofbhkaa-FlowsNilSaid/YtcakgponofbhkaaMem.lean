/- Lemmas on the memory: what a block holds behind stores, new blocks and draws; which blocks a call may have written. -/
import Derived.WalkKit
import Derived.Below
import Derived.Deep.Draws
import Derived.Lib.Hide
namespace Go.Proofs.Ytcakgponofbhkaa
open Go.RowKit

theorem hp_setCell_other {w : World} {a : Addr} {v : Value} {b : Nat} (h : b ≠ a.block) : (w.setCell a v).heap[b]? = w.heap[b]? := Below.heap_setCell w a v b h

theorem hp_setCell_same {w : World} {b o : Nat} {v : Value} {C : Array Value} {T : TypeId} {fz : Nat × Nat} (h : w.heap[b]? = some (.cells C T fz)) :
    (w.setCell ⟨b, o, none⟩ v).heap[b]? = some (.cells (C.setIfInBounds o v) T fz) := by
  simp only [World.setCell, Array.getElem?_modify]
  simp [h]

theorem hp_alloc_new {w : World} {o : Obj} : (w.alloc o).heap[w.heap.size]? = some o := by
  show (w.heap.push o)[w.heap.size]? = some o
  simp

theorem hp_alloc_at {w : World} {o : Obj} {k : Nat} (h : k = w.heap.size) : (w.alloc o).heap[k]? = some o := by subst h; exact hp_alloc_new

theorem hp_alloc_old {w : World} {o : Obj} {b : Nat} (h : b < w.heap.size) : (w.alloc o).heap[b]? = w.heap[b]? := Below.heap_alloc w o b h

theorem hp_lt {w : World} {b : Nat} {o : Obj} (h : w.heap[b]? = some o) : b < w.heap.size := (Array.getElem?_eq_some_iff.1 h).1

theorem cell_of {w : World} {b o : Nat} {C : Array Value} {T : TypeId} {fz : Nat × Nat} {v : Value} (h : w.heap[b]? = some (.cells C T fz)) (hv : C[o]? = some v) : w.cell? ⟨b, o, none⟩ = some v := by
  simp [World.cell?, h, hv]

theorem free_of {w : World} {b o : Nat} {C : Array Value} {T : TypeId} (h : w.heap[b]? = some (.cells C T (0, 0))) : w.frozen? ⟨b, o, none⟩ = false := by
  simp [World.frozen?, h]

/-- Of what stood in w, only the blocks of F may have been written; the streams are as they were. -/
structure Mod (F : List Nat) (w w' : World) : Prop where
  os : w'.os = w.os
  tape : w'.tape = w.tape
  output : w'.output = w.output
  size : w.heap.size ≤ w'.heap.size
  block : ∀ b, b < w.heap.size → b ∉ F → w'.heap[b]? = w.heap[b]?

theorem Mod.refl (F : List Nat) (w : World) : Mod F w w := ⟨rfl, rfl, rfl, Nat.le_refl _, fun _ _ _ => rfl⟩

theorem Mod.mono {F G : List Nat} {w w' : World} (h : Mod F w w') (hs : ∀ b ∈ F, b ∈ G) : Mod G w w' :=
  ⟨h.os, h.tape, h.output, h.size, fun b hb hn => h.block b hb (fun hf => hn (hs b hf))⟩

/-- Two calls, the second over blocks that are new or may be written. -/
theorem Mod.trans {F G : List Nat} {a b c : World} (h : Mod F a b) (k : Mod G b c) (hs : ∀ x ∈ G, x ∈ F ∨ a.heap.size ≤ x) : Mod F a c :=
  ⟨k.os.trans h.os, k.tape.trans h.tape, k.output.trans h.output, Nat.le_trans h.size k.size, fun x hx hn =>
    (k.block x (Nat.lt_of_lt_of_le hx h.size) (fun hg => by rcases hs x hg with h1 | h1; exact hn h1; omega)).trans (h.block x hx hn)⟩

theorem Mod.trans' {F : List Nat} {a b c : World} (h : Mod F a b) (k : Mod F b c) : Mod F a c := h.trans k (fun _ hx => Or.inl hx)

theorem Mod.setCell {F : List Nat} {a w : World} (h : Mod F a w) {p : Addr} (hp : p.block ∈ F ∨ a.heap.size ≤ p.block) (u : Value) : Mod F a (w.setCell p u) :=
  ⟨h.os, h.tape, h.output, by simpa using h.size, fun b hb hn => by
    rw [hp_setCell_other (by rintro rfl; rcases hp with h1 | h1; exact hn h1; omega)]; exact h.block b hb hn⟩

theorem Mod.alloc {F : List Nat} {a w : World} (h : Mod F a w) (o : Obj) : Mod F a (w.alloc o) :=
  ⟨h.os, h.tape, h.output, by simp; have := h.size; omega, fun b hb hn => by
    rw [hp_alloc_old (Nat.lt_of_lt_of_le hb h.size)]; exact h.block b hb hn⟩

theorem Mod.drewN {F : List Nat} {a w : World} (h : Mod F a w) (n : Nat) : Mod F a (w.drewN n) := ⟨h.os, h.tape, h.output, h.size, h.block⟩
theorem Mod.drew {F : List Nat} {a w : World} (h : Mod F a w) : Mod F a w.drew := ⟨h.os, h.tape, h.output, h.size, h.block⟩

theorem Mod.below {F : List Nat} {w w' : World} {B : Nat} (h : Mod F w w') (hB : B ≤ w.heap.size) (hF : ∀ b ∈ F, B ≤ b) : Below B w w' :=
  ⟨h.os, h.tape, h.output, h.size, fun k hk => h.block k (by omega) (fun hf => by have := hF k hf; omega)⟩

theorem Mod.of_grown {F : List Nat} {a w w' : World} {row : Option Nat} (h : Mod F a w) (hg : w.grownBy w' row) (hr : ∀ k, row = some k → k ∈ F ∨ a.heap.size ≤ k) : Mod F a w' :=
  ⟨hg.os.trans h.os, hg.tape.trans h.tape, hg.output.trans h.output, Nat.le_trans h.size hg.size, fun b hb hn => by
    rw [hg.block b (Nat.lt_of_lt_of_le hb h.size) (fun e => by rcases hr b e.symm with h1 | h1; exact hn h1; omega)]; exact h.block b hb hn⟩

theorem Mod.of_below {w w' : World} (h : Below w.heap.size w w') : Mod [] w w' := ⟨h.os, h.tape, h.output, h.size, fun b hb _ => h.block b hb⟩

/-- The blocks that a thing holds now are those that it held, or new ones. -/
def Grew (F F' : List Nat) (w : World) : Prop := ∀ b ∈ F', b ∈ F ∨ w.heap.size ≤ b
theorem Grew.refl (F : List Nat) (w : World) : Grew F F w := fun _ h => Or.inl h

/-- Two lists of blocks have none in common. -/
def Apart (F G : List Nat) : Prop := ∀ b ∈ F, b ∉ G
theorem Apart.symm {F G : List Nat} (h : Apart F G) : Apart G F := fun b hg hf => h b hf hg
theorem Apart.grew {F F' G : List Nat} {w : World} (h : Apart F G) (hg : Grew F F' w) (hG : ∀ b ∈ G, b < w.heap.size) : Apart F' G := fun b hb hbG => by
  rcases hg b hb with h1 | h1
  · exact h b h1 hbG
  · have := hG b hbG; omega

end Go.Proofs.Ytcakgponofbhkaa
