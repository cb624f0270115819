/-
  DERIVED. GIVEN WITH THE SEED: THE CARDS: each row of YtlhhigkmcidekaaDoorRows.lean that lists a variable, with what it lists TIED to the program's text (the seventh form; the later family's looks); each row that meets fmt, with fmt's text TOLD by the authors' own Lean function (tested against real Go, not proved from fmt's source: count such statements apart). THE CARD IS WHAT COUNTS. Prove the row's statement (the work); the ties are given (YtlhhigkmcidekaaDoorTie.lean); close each card by the builder's one call (the guide's Derived/Test/ToyasCard.lean, 'card_holds'). Laid BY PROGRAM, IN A SANDBOX (cutbox-door.mjs). By AI agents, Wed Nov 11 2026. No macro, syntax, notation, axiom, sorry.
-/
import Derived.Test.YtlhhigkmcidekaaDoorRows
import GoSem.ClaimSeven
namespace Go.Proofs.YtlhhigkmcidekaaDoor
namespace Rows

/-- THE TIED CARD OF 'laws.FnExactBlocksOfBuildings'. -/
def fnExactBlocksOfBuildingsCard : Claim7 := { stood := { row := fnExactBlocksOfBuildingsRow, standIns := [], harness := (true, "abf0cae99431e61895e9625e5045777f2651215726917cf0e7672f28ea7d2d63"), looks := false }, kinds := [], alts := [], laidByText := true, laidKinds := [.data, .data, .data], laidTests := true, laidLooks := .later }
def FnExactBlocksOfBuildingsCardSaid : Prop := Claim7.holds Tryd.pinned (.plain (OpenSpec.ofChange fnExactBlocksOfBuildingsSpec)) fnExactBlocksOfBuildingsCard

/-- THE SECOND FORM's CARD OF 'laws.FnExactBlocksOfBuildings'. -/
def fnExactBlocksOfBuildingsUptoCard : Claim7 := { stood := { row := fnExactBlocksOfBuildingsUptoRow, standIns := [], harness := (true, "abf0cae99431e61895e9625e5045777f2651215726917cf0e7672f28ea7d2d63"), looks := false }, kinds := [], alts := [], laidByText := true, laidKinds := [.data, .data, .data], laidTests := true, laidLooks := .later }
def FnExactBlocksOfBuildingsUptoCardSaid : Prop := Claim7.holds Tryd.pinned (.plain (OpenSpec.upto fnExactBlocksOfBuildingsSpec)) fnExactBlocksOfBuildingsUptoCard
end Rows
end Go.Proofs.YtlhhigkmcidekaaDoor
