/- Rows.PathPlaysSaid -/
import Derived.Test.YtgapbecddgfkmaaGreatPY28
import Derived.Test.YtgapbecddgfkmaaGreatPY24
import Derived.Test.YtgapbecddgfkmaaGreatPY29
namespace Go.Proofs.YtgapbecddgfkmaaGreat
open Go.RowKit Go.ChangeShapes Go.WideShapes
set_option linter.unusedVariables false
set_option maxHeartbeats 64000000
set_option maxRecDepth 100000
structure ArgFl (w : World) (a : Option Addr) (len cap : Nat) (L : List Fl) : Prop where
  length : L.length = len
  room : len ≤ cap
  most : cap ≤ maxLen
  wf : ∀ x ∈ L, WfF x
  at' : len = 0 ∨ ∃ b o, a = some ⟨b, o, none⟩ ∧ b < w.heap.size ∧ ∀ (i : Nat) (x : Fl), L[i]? = some x → FlAt w b (o + i * 8) x
/-! ### plain -/
theorem o_fl0 {F0 : List Nat} {w0 w : World} {R : List Asrt} {fb : Nat} {f : Fl} (h : In F0 w0 w R) (i : Nat) (hA : R[i]? = some (Cells fb (encF f) 49)) : w.cell? ⟨fb, 0, none⟩ = some (.int .u32 f.t.src) ∧ w.cell? ⟨fb, 1, none⟩ = some (.int .u32 f.t.dst) ∧ w.cell? ⟨fb, 2, none⟩ = some (.int .i64 f.t.proto) ∧ w.cell? ⟨fb, 3, none⟩ = some (.int .i64 f.t.sport) ∧ w.cell? ⟨fb, 4, none⟩ = some (.int .i64 f.t.dport) ∧ w.cell? ⟨fb, 5, none⟩ = some (.int .i64 f.bk) ∧ w.cell? ⟨fb, 6, none⟩ = some (.int .i64 f.gen) ∧ w.cell? ⟨fb, 7, none⟩ = some (.int .i64 f.seen) :=
  ⟨cell_of (h.block i hA) rfl, cell_of (h.block i hA) rfl, cell_of (h.block i hA) rfl, cell_of (h.block i hA) rfl, cell_of (h.block i hA) rfl, cell_of (h.block i hA) rfl, cell_of (h.block i hA) rfl, cell_of (h.block i hA) rfl⟩
def cutU (n m : Int) : Int := wrap64 ((IntKind.u64.wrap n).tmod m)
end Go.Proofs.YtgapbecddgfkmaaGreat
