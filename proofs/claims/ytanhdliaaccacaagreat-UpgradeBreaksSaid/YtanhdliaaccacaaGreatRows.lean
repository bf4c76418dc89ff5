/-
  No cell of these rows narrows 'for every input' (looked for: loops, veiled, ifaces, maps, wideKeys, modest, calm, conditions, laid).
  DERIVED. THE GIVEN ROWS OF THIS SEAT. 6 by the template 'for every input the law returns true; each argument reads behind the call as it read before'; 0 by the template 'total and deterministic' (their statements: YtanhdliaaccacaaGreatTotals.lean).
  GIVEN WITH THE SEED: the statements are not yours to turn. If you find one false, say at which input.
  Laid BY PROGRAM, IN A SANDBOX (cutbox-rows.mjs): the forced cells as the released guide's own fill.sh prints them over the translation e2fa0f4c105de4c9… (all of the seat's roots in one cut). By AI agents, Wed Nov 11 2026. No macro, syntax, notation, axiom, sorry.
-/
import Derived.Test.YtanhdliaaccacaaGreatChecked
import GoSem.Claim
import GoSem.ClaimJoined
import GoSem.ClaimMapViews
import Derived.JoinedTies
import Derived.KernelRfl
namespace Go.Proofs.YtanhdliaaccacaaGreat
/- THE CELL 'sum', in the pinned program and in every row, IS THE sha256 OF THE DUMP (.gsa) THAT YtanhdliaaccacaaGreatProg.lean LOADS. Nothing in Lean hashes anything: it is a label: what it is worth is what the hold of that sum in a sandbox is worth. -/
noncomputable def Tryz.pinned : Pinned := { name := "ytanhdliaaccacaagreat", sum := "e2fa0f4c105de4c947a842ac242e33c9808e78117fb45755917e0d68b038c9c0", checked := Tryz.checked }
namespace Rows
def none {H : Type} : Left H := { results := [], args := [] }

/-- 'goitlaw16.CompactBounds': WHATEVER THE INPUT: true; the input reads as it did. -/
def compactBoundsSpec : ChangeSpec := { name := "compactBounds", fn := fun _ => fun
  | [d1, d2, d3] => { results := [.lit (.bool true)], args := [d1, d2, d3] }
  | _ => none }
def compactBoundsRow : OpenClaim := { program := "ytanhdliaaccacaagreat", sum := "e2fa0f4c105de4c947a842ac242e33c9808e78117fb45755917e0d68b038c9c0", func := "goit/goitlaw16.CompactBounds", spec := "compactBounds", inPlace := ["maps.clone"], unfollowed := true, recurses := true, plainKeys := false, apart := false }
def CompactBoundsSaid : Prop := compactBoundsRow.holds Tryz.pinned (OpenSpec.ofChange compactBoundsSpec)

/-- ITS FALSE NEIGHBOUR: 'it returns false'. Refute it at one input. -/
def compactBoundsWrong : ChangeSpec := { name := "compactBounds", fn := fun _ => fun
  | [d1, d2, d3] => { results := [.lit (.bool false)], args := [d1, d2, d3] }
  | _ => none }
def CompactBoundsWrongFalsely : Prop := compactBoundsRow.holds Tryz.pinned (OpenSpec.ofChange compactBoundsWrong)

/-- 'goitlaw17.UpgradeSteps': WHATEVER THE INPUT: true; the input reads as it did. -/
def upgradeStepsSpec : ChangeSpec := { name := "upgradeSteps", fn := fun _ => fun
  | [d1, d2] => { results := [.lit (.bool true)], args := [d1, d2] }
  | _ => none }
def upgradeStepsRow : OpenClaim := { program := "ytanhdliaaccacaagreat", sum := "e2fa0f4c105de4c947a842ac242e33c9808e78117fb45755917e0d68b038c9c0", func := "goit/goitlaw17.UpgradeSteps", spec := "upgradeSteps", inPlace := ["maps.clone"], unfollowed := true, recurses := true, plainKeys := false, apart := false }
def UpgradeStepsSaid : Prop := upgradeStepsRow.holds Tryz.pinned (OpenSpec.ofChange upgradeStepsSpec)

/-- ITS FALSE NEIGHBOUR: 'it returns false'. Refute it at one input. -/
def upgradeStepsWrong : ChangeSpec := { name := "upgradeSteps", fn := fun _ => fun
  | [d1, d2] => { results := [.lit (.bool false)], args := [d1, d2] }
  | _ => none }
def UpgradeStepsWrongFalsely : Prop := upgradeStepsRow.holds Tryz.pinned (OpenSpec.ofChange upgradeStepsWrong)

/-- 'goitlaw15.StoreReads': WHATEVER THE INPUT: true; the input reads as it did. -/
def storeReadsSpec : ChangeSpec := { name := "storeReads", fn := fun _ => fun
  | [d1, d2, d3] => { results := [.lit (.bool true)], args := [d1, d2, d3] }
  | _ => none }
def storeReadsRow : OpenClaim := { program := "ytanhdliaaccacaagreat", sum := "e2fa0f4c105de4c947a842ac242e33c9808e78117fb45755917e0d68b038c9c0", func := "goit/goitlaw15.StoreReads", spec := "storeReads", inPlace := ["maps.clone"], unfollowed := true, recurses := true, plainKeys := false, apart := false }
def StoreReadsSaid : Prop := storeReadsRow.holds Tryz.pinned (OpenSpec.ofChange storeReadsSpec)

/-- ITS FALSE NEIGHBOUR: 'it returns false'. Refute it at one input. -/
def storeReadsWrong : ChangeSpec := { name := "storeReads", fn := fun _ => fun
  | [d1, d2, d3] => { results := [.lit (.bool false)], args := [d1, d2, d3] }
  | _ => none }
def StoreReadsWrongFalsely : Prop := storeReadsRow.holds Tryz.pinned (OpenSpec.ofChange storeReadsWrong)

/-- 'goitlaw15.StoreRefuses': WHATEVER THE INPUT: true; the input reads as it did. -/
def storeRefusesSpec : ChangeSpec := { name := "storeRefuses", fn := fun _ => fun
  | [d1, d2, d3] => { results := [.lit (.bool true)], args := [d1, d2, d3] }
  | _ => none }
def storeRefusesRow : OpenClaim := { program := "ytanhdliaaccacaagreat", sum := "e2fa0f4c105de4c947a842ac242e33c9808e78117fb45755917e0d68b038c9c0", func := "goit/goitlaw15.StoreRefuses", spec := "storeRefuses", inPlace := ["maps.clone"], unfollowed := true, recurses := true, plainKeys := false, apart := false }
def StoreRefusesSaid : Prop := storeRefusesRow.holds Tryz.pinned (OpenSpec.ofChange storeRefusesSpec)

/-- ITS FALSE NEIGHBOUR: 'it returns false'. Refute it at one input. -/
def storeRefusesWrong : ChangeSpec := { name := "storeRefuses", fn := fun _ => fun
  | [d1, d2, d3] => { results := [.lit (.bool false)], args := [d1, d2, d3] }
  | _ => none }
def StoreRefusesWrongFalsely : Prop := storeRefusesRow.holds Tryz.pinned (OpenSpec.ofChange storeRefusesWrong)

/-- 'goitlaw17.UpgradeDoes': WHATEVER THE INPUT: true; the input reads as it did. -/
def upgradeDoesSpec : ChangeSpec := { name := "upgradeDoes", fn := fun _ => fun
  | [d1, d2, d3, d4] => { results := [.lit (.bool true)], args := [d1, d2, d3, d4] }
  | _ => none }
def upgradeDoesRow : OpenClaim := { program := "ytanhdliaaccacaagreat", sum := "e2fa0f4c105de4c947a842ac242e33c9808e78117fb45755917e0d68b038c9c0", func := "goit/goitlaw17.UpgradeDoes", spec := "upgradeDoes", inPlace := ["maps.clone"], unfollowed := true, recurses := true, plainKeys := false, apart := false }
def UpgradeDoesSaid : Prop := upgradeDoesRow.holds Tryz.pinned (OpenSpec.ofChange upgradeDoesSpec)

/-- ITS FALSE NEIGHBOUR: 'it returns false'. Refute it at one input. -/
def upgradeDoesWrong : ChangeSpec := { name := "upgradeDoes", fn := fun _ => fun
  | [d1, d2, d3, d4] => { results := [.lit (.bool false)], args := [d1, d2, d3, d4] }
  | _ => none }
def UpgradeDoesWrongFalsely : Prop := upgradeDoesRow.holds Tryz.pinned (OpenSpec.ofChange upgradeDoesWrong)

/-- 'goitlaw17.UpgradeBreaks': WHATEVER THE INPUT: true; the input reads as it did. -/
def upgradeBreaksSpec : ChangeSpec := { name := "upgradeBreaks", fn := fun _ => fun
  | [d1, d2, d3, d4, d5, d6] => { results := [.lit (.bool true)], args := [d1, d2, d3, d4, d5, d6] }
  | _ => none }
def upgradeBreaksRow : OpenClaim := { program := "ytanhdliaaccacaagreat", sum := "e2fa0f4c105de4c947a842ac242e33c9808e78117fb45755917e0d68b038c9c0", func := "goit/goitlaw17.UpgradeBreaks", spec := "upgradeBreaks", inPlace := ["maps.clone"], unfollowed := true, recurses := true, plainKeys := false, apart := false }
def UpgradeBreaksSaid : Prop := upgradeBreaksRow.holds Tryz.pinned (OpenSpec.ofChange upgradeBreaksSpec)

/-- ITS FALSE NEIGHBOUR: 'it returns false'. Refute it at one input. -/
def upgradeBreaksWrong : ChangeSpec := { name := "upgradeBreaks", fn := fun _ => fun
  | [d1, d2, d3, d4, d5, d6] => { results := [.lit (.bool false)], args := [d1, d2, d3, d4, d5, d6] }
  | _ => none }
def UpgradeBreaksWrongFalsely : Prop := upgradeBreaksRow.holds Tryz.pinned (OpenSpec.ofChange upgradeBreaksWrong)

/- THE SECOND FORM. 'bulk': how many values and letters a reading holds, each counted each time it is reached (what is shared counts as often as it is met; a slice's spare places count too). A statement '..UptoSaid' is the law's where the arguments, and the package variables that the reading takes, are together of bulk at most 1048576: NARROWER than '..Said'. Prove '..Said' where nothing that the law and all that it calls make is longer than what came in: it says more and counts as full. Else prove '..UptoSaid'. A law counts once. -/
mutual
def uptoBulk {H : Type} : DataW H → Nat
  | .lit (.string bytes) => bytes.length + 1
  | .lit _ => 1
  | .nil => 1
  | .ptr d => uptoBulk d + 1
  | .slice elems spare => uptoBulkAll elems + uptoBulkAll spare + 1
  | .agg parts => uptoBulkAll parts + 1
  | .iface _ d => uptoBulk d + 1
  | .map entries => uptoBulkEntries entries + 1
  | .held _ => 1
def uptoBulkAll {H : Type} : List (DataW H) → Nat
  | [] => 0
  | d :: r => uptoBulk d + uptoBulkAll r
def uptoBulkEntries {H : Type} : List (Lit × DataW H) → Nat
  | [] => 0
  | x :: r => uptoBulkEntry x + uptoBulkEntries r
def uptoBulkEntry {H : Type} : Lit × DataW H → Nat
  | (.string bytes, d) => bytes.length + uptoBulk d + 1
  | (_, d) => uptoBulk d + 1
 end
def uptoSmall : (H : Type) → List (DataW H) → Bool := fun _ ds => decide (uptoBulkAll ds ≤ 1048576)
def OpenSpec.upto (s : _root_.Go.ChangeSpec) : _root_.Go.OpenSpec := { _root_.Go.OpenSpec.ofChange s with cond := some uptoSmall }

/-- 'goitlaw16.CompactBounds', WHERE WHAT IT READS IS OF BULK AT MOST 1048576: true; the input reads as it did. -/
def compactBoundsUptoRow : OpenClaim := { program := "ytanhdliaaccacaagreat", sum := "e2fa0f4c105de4c947a842ac242e33c9808e78117fb45755917e0d68b038c9c0", func := "goit/goitlaw16.CompactBounds", spec := "compactBounds", inPlace := ["maps.clone"], unfollowed := true, recurses := true, plainKeys := false, apart := false, narrowed := true }
def CompactBoundsUptoSaid : Prop := compactBoundsUptoRow.holds Tryz.pinned (OpenSpec.upto compactBoundsSpec)

/-- 'goitlaw17.UpgradeSteps', WHERE WHAT IT READS IS OF BULK AT MOST 1048576: true; the input reads as it did. -/
def upgradeStepsUptoRow : OpenClaim := { program := "ytanhdliaaccacaagreat", sum := "e2fa0f4c105de4c947a842ac242e33c9808e78117fb45755917e0d68b038c9c0", func := "goit/goitlaw17.UpgradeSteps", spec := "upgradeSteps", inPlace := ["maps.clone"], unfollowed := true, recurses := true, plainKeys := false, apart := false, narrowed := true }
def UpgradeStepsUptoSaid : Prop := upgradeStepsUptoRow.holds Tryz.pinned (OpenSpec.upto upgradeStepsSpec)

/-- 'goitlaw15.StoreReads', WHERE WHAT IT READS IS OF BULK AT MOST 1048576: true; the input reads as it did. -/
def storeReadsUptoRow : OpenClaim := { program := "ytanhdliaaccacaagreat", sum := "e2fa0f4c105de4c947a842ac242e33c9808e78117fb45755917e0d68b038c9c0", func := "goit/goitlaw15.StoreReads", spec := "storeReads", inPlace := ["maps.clone"], unfollowed := true, recurses := true, plainKeys := false, apart := false, narrowed := true }
def StoreReadsUptoSaid : Prop := storeReadsUptoRow.holds Tryz.pinned (OpenSpec.upto storeReadsSpec)

/-- 'goitlaw15.StoreRefuses', WHERE WHAT IT READS IS OF BULK AT MOST 1048576: true; the input reads as it did. -/
def storeRefusesUptoRow : OpenClaim := { program := "ytanhdliaaccacaagreat", sum := "e2fa0f4c105de4c947a842ac242e33c9808e78117fb45755917e0d68b038c9c0", func := "goit/goitlaw15.StoreRefuses", spec := "storeRefuses", inPlace := ["maps.clone"], unfollowed := true, recurses := true, plainKeys := false, apart := false, narrowed := true }
def StoreRefusesUptoSaid : Prop := storeRefusesUptoRow.holds Tryz.pinned (OpenSpec.upto storeRefusesSpec)

/-- 'goitlaw17.UpgradeDoes', WHERE WHAT IT READS IS OF BULK AT MOST 1048576: true; the input reads as it did. -/
def upgradeDoesUptoRow : OpenClaim := { program := "ytanhdliaaccacaagreat", sum := "e2fa0f4c105de4c947a842ac242e33c9808e78117fb45755917e0d68b038c9c0", func := "goit/goitlaw17.UpgradeDoes", spec := "upgradeDoes", inPlace := ["maps.clone"], unfollowed := true, recurses := true, plainKeys := false, apart := false, narrowed := true }
def UpgradeDoesUptoSaid : Prop := upgradeDoesUptoRow.holds Tryz.pinned (OpenSpec.upto upgradeDoesSpec)

/-- 'goitlaw17.UpgradeBreaks', WHERE WHAT IT READS IS OF BULK AT MOST 1048576: true; the input reads as it did. -/
def upgradeBreaksUptoRow : OpenClaim := { program := "ytanhdliaaccacaagreat", sum := "e2fa0f4c105de4c947a842ac242e33c9808e78117fb45755917e0d68b038c9c0", func := "goit/goitlaw17.UpgradeBreaks", spec := "upgradeBreaks", inPlace := ["maps.clone"], unfollowed := true, recurses := true, plainKeys := false, apart := false, narrowed := true }
def UpgradeBreaksUptoSaid : Prop := upgradeBreaksUptoRow.holds Tryz.pinned (OpenSpec.upto upgradeBreaksSpec)

end Rows
end Go.Proofs.YtanhdliaaccacaaGreat
