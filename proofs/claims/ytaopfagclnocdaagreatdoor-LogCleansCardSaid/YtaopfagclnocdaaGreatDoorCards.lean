/-
  DERIVED. GIVEN WITH THE SEED: THE CARDS: each row of YtaopfagclnocdaaGreatDoorRows.lean that lists a variable, with what it lists TIED to the program's text (the seventh form; the later family's looks); each row that meets fmt, with fmt's text TOLD by the authors' own Lean function (tested against real Go, not proved from fmt's source: count such statements apart). THE CARD IS WHAT COUNTS. Prove the row's statement (the work); the ties are given (YtaopfagclnocdaaGreatDoorTie.lean); close each card by the builder's one call (the guide's Derived/Test/ToyasCard.lean, 'card_holds'). Laid BY PROGRAM, IN A SANDBOX (cutbox-door.mjs). By AI agents, Wed Nov 11 2026. No macro, syntax, notation, axiom, sorry.
-/
import Derived.Test.YtaopfagclnocdaaGreatDoorRows
import GoSem.ClaimSeven
namespace Go.Proofs.YtaopfagclnocdaaGreatDoor
namespace Rows

/-- THE TIED CARD OF 'goitlaw6.LogSizes'. -/
def logSizesCard : Claim7 := { stood := { row := logSizesRow, standIns := [], harness := (true, "e5a23ad86472a4c53491e1d8d49a80a372a26de5554c23904f7b805e7497dd8e"), looks := true }, kinds := [], alts := [], laidByText := true, laidKinds := [.data, .data, .data], laidTests := true, laidLooks := .later }
def LogSizesCardSaid : Prop := Claim7.holds Tryz.pinned (.plain (OpenSpec.ofChange logSizesSpec)) logSizesCard

/-- THE TIED CARD OF 'goitlaw6.LogCleans'. -/
def logCleansCard : Claim7 := { stood := { row := logCleansRow, standIns := [], harness := (true, "e5a23ad86472a4c53491e1d8d49a80a372a26de5554c23904f7b805e7497dd8e"), looks := true }, kinds := [], alts := [], laidByText := true, laidKinds := [.data, .data, .data], laidTests := true, laidLooks := .later }
def LogCleansCardSaid : Prop := Claim7.holds Tryz.pinned (.plain (OpenSpec.ofChange logCleansSpec)) logCleansCard

/-- THE TIED CARD OF 'goitlaw6.LogNil'. -/
def logNilCard : Claim7 := { stood := { row := logNilRow, standIns := [], harness := (true, "e5a23ad86472a4c53491e1d8d49a80a372a26de5554c23904f7b805e7497dd8e"), looks := true }, kinds := [], alts := [], laidByText := true, laidKinds := [.data, .data, .data], laidTests := true, laidLooks := .later }
def LogNilCardSaid : Prop := Claim7.holds Tryz.pinned (.plain (OpenSpec.ofChange logNilSpec)) logNilCard

/-- THE SECOND FORM's CARD OF 'goitlaw6.LogSizes'. -/
def logSizesUptoCard : Claim7 := { stood := { row := logSizesUptoRow, standIns := [], harness := (true, "e5a23ad86472a4c53491e1d8d49a80a372a26de5554c23904f7b805e7497dd8e"), looks := true }, kinds := [], alts := [], laidByText := true, laidKinds := [.data, .data, .data], laidTests := true, laidLooks := .later }
def LogSizesUptoCardSaid : Prop := Claim7.holds Tryz.pinned (.plain (OpenSpec.upto logSizesSpec)) logSizesUptoCard

/-- THE SECOND FORM's CARD OF 'goitlaw6.LogCleans'. -/
def logCleansUptoCard : Claim7 := { stood := { row := logCleansUptoRow, standIns := [], harness := (true, "e5a23ad86472a4c53491e1d8d49a80a372a26de5554c23904f7b805e7497dd8e"), looks := true }, kinds := [], alts := [], laidByText := true, laidKinds := [.data, .data, .data], laidTests := true, laidLooks := .later }
def LogCleansUptoCardSaid : Prop := Claim7.holds Tryz.pinned (.plain (OpenSpec.upto logCleansSpec)) logCleansUptoCard

/-- THE SECOND FORM's CARD OF 'goitlaw6.LogNil'. -/
def logNilUptoCard : Claim7 := { stood := { row := logNilUptoRow, standIns := [], harness := (true, "e5a23ad86472a4c53491e1d8d49a80a372a26de5554c23904f7b805e7497dd8e"), looks := true }, kinds := [], alts := [], laidByText := true, laidKinds := [.data, .data, .data], laidTests := true, laidLooks := .later }
def LogNilUptoCardSaid : Prop := Claim7.holds Tryz.pinned (.plain (OpenSpec.upto logNilSpec)) logNilUptoCard
end Rows
end Go.Proofs.YtaopfagclnocdaaGreatDoor
