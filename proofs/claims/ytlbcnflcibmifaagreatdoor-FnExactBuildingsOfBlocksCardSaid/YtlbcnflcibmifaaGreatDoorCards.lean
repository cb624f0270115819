/-
  DERIVED. GIVEN WITH THE SEED: THE CARDS: each row of YtlbcnflcibmifaaGreatDoorRows.lean that lists a variable, with what it lists TIED to the program's text (the seventh form; the later family's looks); each row that meets fmt, with fmt's text TOLD by the authors' own Lean function (tested against real Go, not proved from fmt's source: count such statements apart). THE CARD IS WHAT COUNTS. Prove the row's statement (the work); the ties are given (YtlbcnflcibmifaaGreatDoorTie.lean); close each card by the builder's one call (the guide's Derived/Test/ToyasCard.lean, 'card_holds'). Laid BY PROGRAM, IN A SANDBOX (cutbox-door.mjs). By AI agents, Wed Nov 11 2026. No macro, syntax, notation, axiom, sorry.
-/
import Derived.Test.YtlbcnflcibmifaaGreatDoorRows
import GoSem.ClaimSeven
namespace Go.Proofs.YtlbcnflcibmifaaGreatDoor
namespace Rows

/-- THE TIED CARD OF 'laws.FnExactBuildingsOfBlocks'. -/
def fnExactBuildingsOfBlocksCard : Claim7 := { stood := { row := fnExactBuildingsOfBlocksRow, standIns := [], harness := (true, "7130bb3e7c563a9c7152f640417cb03ea866737088b024166975d6351c1c28db"), looks := true }, kinds := [], alts := [], laidByText := true, laidKinds := [.data, .data, .data, .data, .sentinel, .sentinel, .pinned], laidTests := true, laidLooks := .later }
def FnExactBuildingsOfBlocksCardSaid : Prop := Claim7.holds Tryz.pinned (.plain (OpenSpec.ofChange fnExactBuildingsOfBlocksSpec)) fnExactBuildingsOfBlocksCard

/-- THE SECOND FORM's CARD OF 'laws.FnExactBuildingsOfBlocks'. -/
def fnExactBuildingsOfBlocksUptoCard : Claim7 := { stood := { row := fnExactBuildingsOfBlocksUptoRow, standIns := [], harness := (true, "7130bb3e7c563a9c7152f640417cb03ea866737088b024166975d6351c1c28db"), looks := true }, kinds := [], alts := [], laidByText := true, laidKinds := [.data, .data, .data, .data, .sentinel, .sentinel, .pinned], laidTests := true, laidLooks := .later }
def FnExactBuildingsOfBlocksUptoCardSaid : Prop := Claim7.holds Tryz.pinned (.plain (OpenSpec.upto fnExactBuildingsOfBlocksSpec)) fnExactBuildingsOfBlocksUptoCard
end Rows
end Go.Proofs.YtlbcnflcibmifaaGreatDoor
