/-
  DERIVED. GIVEN WITH THE SEED: THE CARDS: each row of YtnabckhhnknlaaaDoorRows.lean that lists a variable, with what it lists TIED to the program's text (the seventh form; the later family's looks); each row that meets fmt, with fmt's text TOLD by the authors' own Lean function (tested against real Go, not proved from fmt's source: count such statements apart). THE CARD IS WHAT COUNTS. Prove the row's statement (the work); the ties are given (YtnabckhhnknlaaaDoorTie.lean); close each card by the builder's one call (the guide's Derived/Test/ToyasCard.lean, 'card_holds'). Laid BY PROGRAM, IN A SANDBOX (cutbox-door.mjs). By AI agents, Wed Nov 11 2026. No macro, syntax, notation, axiom, sorry.
-/
import Derived.Test.YtnabckhhnknlaaaDoorRows
import GoSem.ClaimSeven
namespace Go.Proofs.YtnabckhhnknlaaaDoor
namespace Rows

/-- THE TIED CARD OF 'laws.FnExactBlocksOfBuildings'. -/
def fnExactBlocksOfBuildingsCard : Claim7 := { stood := { row := fnExactBlocksOfBuildingsRow, standIns := [], harness := (true, "c5de6c8ba9b854acaa57451ab07ba0673fc9c3069f92e061da9cac9fe0d7914c"), looks := false }, kinds := [], alts := [], laidByText := true, laidKinds := [.data, .data, .data], laidTests := true, laidLooks := .later }
def FnExactBlocksOfBuildingsCardSaid : Prop := Claim7.holds Tryd.pinned (.plain (OpenSpec.ofChange fnExactBlocksOfBuildingsSpec)) fnExactBlocksOfBuildingsCard

/-- THE TIED CARD OF 'laws.FnExactSaveBlocks'. -/
def fnExactSaveBlocksCard : Claim7 := { stood := { row := fnExactSaveBlocksRow, standIns := [], harness := (true, "c5de6c8ba9b854acaa57451ab07ba0673fc9c3069f92e061da9cac9fe0d7914c"), looks := false }, kinds := [], alts := [], laidByText := true, laidKinds := [.data, .data, .data], laidTests := true, laidLooks := .later }
def FnExactSaveBlocksCardSaid : Prop := Claim7.holds Tryd.pinned (.plain (OpenSpec.ofChange fnExactSaveBlocksSpec)) fnExactSaveBlocksCard

/-- THE SECOND FORM's CARD OF 'laws.FnExactBlocksOfBuildings'. -/
def fnExactBlocksOfBuildingsUptoCard : Claim7 := { stood := { row := fnExactBlocksOfBuildingsUptoRow, standIns := [], harness := (true, "c5de6c8ba9b854acaa57451ab07ba0673fc9c3069f92e061da9cac9fe0d7914c"), looks := false }, kinds := [], alts := [], laidByText := true, laidKinds := [.data, .data, .data], laidTests := true, laidLooks := .later }
def FnExactBlocksOfBuildingsUptoCardSaid : Prop := Claim7.holds Tryd.pinned (.plain (OpenSpec.upto fnExactBlocksOfBuildingsSpec)) fnExactBlocksOfBuildingsUptoCard

/-- THE SECOND FORM's CARD OF 'laws.FnExactSaveBlocks'. -/
def fnExactSaveBlocksUptoCard : Claim7 := { stood := { row := fnExactSaveBlocksUptoRow, standIns := [], harness := (true, "c5de6c8ba9b854acaa57451ab07ba0673fc9c3069f92e061da9cac9fe0d7914c"), looks := false }, kinds := [], alts := [], laidByText := true, laidKinds := [.data, .data, .data], laidTests := true, laidLooks := .later }
def FnExactSaveBlocksUptoCardSaid : Prop := Claim7.holds Tryd.pinned (.plain (OpenSpec.upto fnExactSaveBlocksSpec)) fnExactSaveBlocksUptoCard
end Rows
end Go.Proofs.YtnabckhhnknlaaaDoor
