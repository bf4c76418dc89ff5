/-
  No cell of these rows narrows 'for every input' (looked for: loops, veiled, ifaces, maps, wideKeys, modest, calm, conditions, laid).
  DERIVED. THE GIVEN ROWS OF THIS SEAT. 3 by the template 'for every input the law returns true; each argument reads behind the call as it read before'; 0 by the template 'total and deterministic' (their statements: YtgapbecddgfkmaaGreatTotals.lean).
  GIVEN WITH THE SEED: the statements are not yours to turn. If you find one false, say at which input.
  Laid BY PROGRAM, IN A SANDBOX (cutbox-rows.mjs): the forced cells as the released guide's own fill.sh prints them over the translation f0042f508a3ce6e6… (all of the seat's roots in one cut). By AI agents, Wed Nov 11 2026. No macro, syntax, notation, axiom, sorry.
-/
import Derived.Test.YtgapbecddgfkmaaGreatChecked
import GoSem.Claim
import GoSem.ClaimJoined
import GoSem.ClaimMapViews
import Derived.JoinedTies
import Derived.KernelRfl
namespace Go.Proofs.YtgapbecddgfkmaaGreat
/- THE CELL 'sum', in the pinned program and in every row, IS THE sha256 OF THE DUMP (.gsa) THAT YtgapbecddgfkmaaGreatProg.lean LOADS. Nothing in Lean hashes anything: it is a label: what it is worth is what the hold of that sum in a sandbox is worth. -/
noncomputable def Tryz.pinned : Pinned := { name := "ytgapbecddgfkmaagreat", sum := "f0042f508a3ce6e696a506e03fe84f023ca326c2598cb642a23c8736b6ff4564", checked := Tryz.checked }
namespace Rows
def none {H : Type} : Left H := { results := [], args := [] }

/-- 'goitlaw23.PathMoves': WHATEVER THE INPUT: true; the input reads as it did. -/
def pathMovesSpec : ChangeSpec := { name := "pathMoves", fn := fun _ => fun
  | [d1, d2] => { results := [.lit (.bool true)], args := [d1, d2] }
  | _ => none }
def pathMovesRow : OpenClaim := { program := "ytgapbecddgfkmaagreat", sum := "f0042f508a3ce6e696a506e03fe84f023ca326c2598cb642a23c8736b6ff4564", func := "goit/goitlaw23.PathMoves", spec := "pathMoves", unfollowed := true, recurses := true, plainKeys := false, apart := false }
def PathMovesSaid : Prop := pathMovesRow.holds Tryz.pinned (OpenSpec.ofChange pathMovesSpec)

/-- ITS FALSE NEIGHBOUR: 'it returns false'. Refute it at one input. -/
def pathMovesWrong : ChangeSpec := { name := "pathMoves", fn := fun _ => fun
  | [d1, d2] => { results := [.lit (.bool false)], args := [d1, d2] }
  | _ => none }
def PathMovesWrongFalsely : Prop := pathMovesRow.holds Tryz.pinned (OpenSpec.ofChange pathMovesWrong)

/-- 'goitlaw23.PathPlays': WHATEVER THE INPUT: true; the input reads as it did. -/
def pathPlaysSpec : ChangeSpec := { name := "pathPlays", fn := fun _ => fun
  | [d1, d2, d3, d4] => { results := [.lit (.bool true)], args := [d1, d2, d3, d4] }
  | _ => none }
def pathPlaysRow : OpenClaim := { program := "ytgapbecddgfkmaagreat", sum := "f0042f508a3ce6e696a506e03fe84f023ca326c2598cb642a23c8736b6ff4564", func := "goit/goitlaw23.PathPlays", spec := "pathPlays", unfollowed := true, recurses := true, plainKeys := false, apart := false }
def PathPlaysSaid : Prop := pathPlaysRow.holds Tryz.pinned (OpenSpec.ofChange pathPlaysSpec)

/-- ITS FALSE NEIGHBOUR: 'it returns false'. Refute it at one input. -/
def pathPlaysWrong : ChangeSpec := { name := "pathPlays", fn := fun _ => fun
  | [d1, d2, d3, d4] => { results := [.lit (.bool false)], args := [d1, d2, d3, d4] }
  | _ => none }
def PathPlaysWrongFalsely : Prop := pathPlaysRow.holds Tryz.pinned (OpenSpec.ofChange pathPlaysWrong)

/-- 'goitlaw23.PathStays': WHATEVER THE INPUT: true; the input reads as it did. -/
def pathStaysSpec : ChangeSpec := { name := "pathStays", fn := fun _ => fun
  | [d1, d2] => { results := [.lit (.bool true)], args := [d1, d2] }
  | _ => none }
def pathStaysRow : OpenClaim := { program := "ytgapbecddgfkmaagreat", sum := "f0042f508a3ce6e696a506e03fe84f023ca326c2598cb642a23c8736b6ff4564", func := "goit/goitlaw23.PathStays", spec := "pathStays", unfollowed := true, recurses := true, plainKeys := false, apart := false }
def PathStaysSaid : Prop := pathStaysRow.holds Tryz.pinned (OpenSpec.ofChange pathStaysSpec)

/-- ITS FALSE NEIGHBOUR: 'it returns false'. Refute it at one input. -/
def pathStaysWrong : ChangeSpec := { name := "pathStays", fn := fun _ => fun
  | [d1, d2] => { results := [.lit (.bool false)], args := [d1, d2] }
  | _ => none }
def PathStaysWrongFalsely : Prop := pathStaysRow.holds Tryz.pinned (OpenSpec.ofChange pathStaysWrong)

/- THE SECOND FORM. 'bulk': how many values and letters a reading holds, each counted each time it is reached (what is shared counts as often as it is met; a slice's spare places count too). A statement '..UptoSaid' is the law's where the arguments, and the package variables that the reading takes, are together of bulk at most 1048576: NARROWER than '..Said'. Prove '..Said' where nothing that the law and all that it calls make is longer than what came in: it says more and counts as full. Else prove '..UptoSaid'. A law counts once. -/
mutual
def uptoBulk {H : Type} : DataW H → Nat
  | .lit (.string bytes) => bytes.length + 1
  | .lit _ => 1
  | .nil => 1
  | .ptr d => uptoBulk d + 1
  | .slice elems spare => uptoBulkAll elems + uptoBulkAll spare + 1
  | .agg parts => uptoBulkAll parts + 1
  | .iface _ d => uptoBulk d + 1
  | .map entries => uptoBulkEntries entries + 1
  | .held _ => 1
def uptoBulkAll {H : Type} : List (DataW H) → Nat
  | [] => 0
  | d :: r => uptoBulk d + uptoBulkAll r
def uptoBulkEntries {H : Type} : List (Lit × DataW H) → Nat
  | [] => 0
  | x :: r => uptoBulkEntry x + uptoBulkEntries r
def uptoBulkEntry {H : Type} : Lit × DataW H → Nat
  | (.string bytes, d) => bytes.length + uptoBulk d + 1
  | (_, d) => uptoBulk d + 1
 end
def uptoSmall : (H : Type) → List (DataW H) → Bool := fun _ ds => decide (uptoBulkAll ds ≤ 1048576)
def OpenSpec.upto (s : _root_.Go.ChangeSpec) : _root_.Go.OpenSpec := { _root_.Go.OpenSpec.ofChange s with cond := some uptoSmall }

/-- 'goitlaw23.PathMoves', WHERE WHAT IT READS IS OF BULK AT MOST 1048576: true; the input reads as it did. -/
def pathMovesUptoRow : OpenClaim := { program := "ytgapbecddgfkmaagreat", sum := "f0042f508a3ce6e696a506e03fe84f023ca326c2598cb642a23c8736b6ff4564", func := "goit/goitlaw23.PathMoves", spec := "pathMoves", unfollowed := true, recurses := true, plainKeys := false, apart := false, narrowed := true }
def PathMovesUptoSaid : Prop := pathMovesUptoRow.holds Tryz.pinned (OpenSpec.upto pathMovesSpec)

/-- 'goitlaw23.PathPlays', WHERE WHAT IT READS IS OF BULK AT MOST 1048576: true; the input reads as it did. -/
def pathPlaysUptoRow : OpenClaim := { program := "ytgapbecddgfkmaagreat", sum := "f0042f508a3ce6e696a506e03fe84f023ca326c2598cb642a23c8736b6ff4564", func := "goit/goitlaw23.PathPlays", spec := "pathPlays", unfollowed := true, recurses := true, plainKeys := false, apart := false, narrowed := true }
def PathPlaysUptoSaid : Prop := pathPlaysUptoRow.holds Tryz.pinned (OpenSpec.upto pathPlaysSpec)

/-- 'goitlaw23.PathStays', WHERE WHAT IT READS IS OF BULK AT MOST 1048576: true; the input reads as it did. -/
def pathStaysUptoRow : OpenClaim := { program := "ytgapbecddgfkmaagreat", sum := "f0042f508a3ce6e696a506e03fe84f023ca326c2598cb642a23c8736b6ff4564", func := "goit/goitlaw23.PathStays", spec := "pathStays", unfollowed := true, recurses := true, plainKeys := false, apart := false, narrowed := true }
def PathStaysUptoSaid : Prop := pathStaysUptoRow.holds Tryz.pinned (OpenSpec.upto pathStaysSpec)

end Rows
end Go.Proofs.YtgapbecddgfkmaaGreat
