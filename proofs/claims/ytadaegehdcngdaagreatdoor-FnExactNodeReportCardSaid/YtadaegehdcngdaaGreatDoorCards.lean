/-
  DERIVED. GIVEN WITH THE SEED: THE CARDS: each row of YtadaegehdcngdaaGreatDoorRows.lean that lists a variable, with what it lists TIED to the program's text (the seventh form; the later family's looks); each row that meets fmt, with fmt's text TOLD by the authors' own Lean function (tested against real Go, not proved from fmt's source: count such statements apart). THE CARD IS WHAT COUNTS. Prove the row's statement (the work); the ties are given (YtadaegehdcngdaaGreatDoorTie.lean); close each card by the builder's one call (the guide's Derived/Test/ToyasCard.lean, 'card_holds'). Laid BY PROGRAM, IN A SANDBOX (cutbox-door.mjs). By AI agents, Wed Nov 11 2026. No macro, syntax, notation, axiom, sorry.
-/
import Derived.Test.YtadaegehdcngdaaGreatDoorRows
import GoSem.ClaimSeven
namespace Go.Proofs.YtadaegehdcngdaaGreatDoor
namespace Rows

/-- THE TIED CARD OF 'laws.FnExactNodeReport'. -/
def fnExactNodeReportCard : Claim7 := { stood := { row := fnExactNodeReportRow, standIns := [], harness := (true, "a8a4fb448eedc8c5943b38041d64f9c13a3100edf626fc5433c87dec384f93dd"), looks := false }, kinds := [], alts := [], laidByText := true, laidKinds := [.data, .data, .data, .data, .pinned], laidTests := true, laidLooks := .later }
def FnExactNodeReportCardSaid : Prop := Claim7.holds Tryz.pinned (.plain (OpenSpec.ofChange fnExactNodeReportSpec)) fnExactNodeReportCard

/-- THE TIED CARD OF 'laws.FnExactPipeReport'. -/
def fnExactPipeReportCard : Claim7 := { stood := { row := fnExactPipeReportRow, standIns := [], harness := (true, "a8a4fb448eedc8c5943b38041d64f9c13a3100edf626fc5433c87dec384f93dd"), looks := false }, kinds := [], alts := [], laidByText := true, laidKinds := [.data, .data, .data, .data, .pinned], laidTests := true, laidLooks := .later }
def FnExactPipeReportCardSaid : Prop := Claim7.holds Tryz.pinned (.plain (OpenSpec.ofChange fnExactPipeReportSpec)) fnExactPipeReportCard

/-- THE TIED CARD OF 'laws.FnSalvage'. -/
def fnSalvageCard : Claim7 := { stood := { row := fnSalvageRow, standIns := [], harness := (true, "a8a4fb448eedc8c5943b38041d64f9c13a3100edf626fc5433c87dec384f93dd"), looks := false }, kinds := [], alts := [], laidByText := true, laidKinds := [.data, .data, .data, .data, .pinned], laidTests := true, laidLooks := .later }
def FnSalvageCardSaid : Prop := Claim7.holds Tryz.pinned (.plain (OpenSpec.ofChange fnSalvageSpec)) fnSalvageCard

/-- THE SECOND FORM's CARD OF 'laws.FnExactNodeReport'. -/
def fnExactNodeReportUptoCard : Claim7 := { stood := { row := fnExactNodeReportUptoRow, standIns := [], harness := (true, "a8a4fb448eedc8c5943b38041d64f9c13a3100edf626fc5433c87dec384f93dd"), looks := false }, kinds := [], alts := [], laidByText := true, laidKinds := [.data, .data, .data, .data, .pinned], laidTests := true, laidLooks := .later }
def FnExactNodeReportUptoCardSaid : Prop := Claim7.holds Tryz.pinned (.plain (OpenSpec.upto fnExactNodeReportSpec)) fnExactNodeReportUptoCard

/-- THE SECOND FORM's CARD OF 'laws.FnExactPipeReport'. -/
def fnExactPipeReportUptoCard : Claim7 := { stood := { row := fnExactPipeReportUptoRow, standIns := [], harness := (true, "a8a4fb448eedc8c5943b38041d64f9c13a3100edf626fc5433c87dec384f93dd"), looks := false }, kinds := [], alts := [], laidByText := true, laidKinds := [.data, .data, .data, .data, .pinned], laidTests := true, laidLooks := .later }
def FnExactPipeReportUptoCardSaid : Prop := Claim7.holds Tryz.pinned (.plain (OpenSpec.upto fnExactPipeReportSpec)) fnExactPipeReportUptoCard

/-- THE SECOND FORM's CARD OF 'laws.FnSalvage'. -/
def fnSalvageUptoCard : Claim7 := { stood := { row := fnSalvageUptoRow, standIns := [], harness := (true, "a8a4fb448eedc8c5943b38041d64f9c13a3100edf626fc5433c87dec384f93dd"), looks := false }, kinds := [], alts := [], laidByText := true, laidKinds := [.data, .data, .data, .data, .pinned], laidTests := true, laidLooks := .later }
def FnSalvageUptoCardSaid : Prop := Claim7.holds Tryz.pinned (.plain (OpenSpec.upto fnSalvageSpec)) fnSalvageUptoCard
end Rows
end Go.Proofs.YtadaegehdcngdaaGreatDoor
