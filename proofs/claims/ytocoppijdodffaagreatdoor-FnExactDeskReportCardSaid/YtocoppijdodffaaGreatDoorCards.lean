/-
  DERIVED. GIVEN WITH THE SEED: THE CARDS: each row of YtocoppijdodffaaGreatDoorRows.lean that lists a variable, with what it lists TIED to the program's text (the seventh form; the later family's looks); each row that meets fmt, with fmt's text TOLD by the authors' own Lean function (tested against real Go, not proved from fmt's source: count such statements apart). THE CARD IS WHAT COUNTS. Prove the row's statement (the work); the ties are given (YtocoppijdodffaaGreatDoorTie.lean); close each card by the builder's one call (the guide's Derived/Test/ToyasCard.lean, 'card_holds'). Laid BY PROGRAM, IN A SANDBOX (cutbox-door.mjs). By AI agents, Wed Nov 11 2026. No macro, syntax, notation, axiom, sorry.
-/
import Derived.Test.YtocoppijdodffaaGreatDoorRows
import GoSem.ClaimSeven
namespace Go.Proofs.YtocoppijdodffaaGreatDoor
namespace Rows

/-- THE TIED CARD OF 'laws.FnExactDeskReport'. -/
def fnExactDeskReportCard : Claim7 := { stood := { row := fnExactDeskReportRow, standIns := [], harness := (true, "1b090b7d7c4b36bed1c2f5fe20c2c524154cee554b63ca40487b32113f54af8b"), looks := false }, kinds := [], alts := [], laidByText := true, laidKinds := [.data, .data, .data, .data, .data, .data, .pinned, .pinned], laidTests := true, laidLooks := .later }
def FnExactDeskReportCardSaid : Prop := Claim7.holds Tryz.pinned (.plain (OpenSpec.ofChange fnExactDeskReportSpec)) fnExactDeskReportCard

/-- THE SECOND FORM's CARD OF 'laws.FnExactDeskReport'. -/
def fnExactDeskReportUptoCard : Claim7 := { stood := { row := fnExactDeskReportUptoRow, standIns := [], harness := (true, "1b090b7d7c4b36bed1c2f5fe20c2c524154cee554b63ca40487b32113f54af8b"), looks := false }, kinds := [], alts := [], laidByText := true, laidKinds := [.data, .data, .data, .data, .data, .data, .pinned, .pinned], laidTests := true, laidLooks := .later }
def FnExactDeskReportUptoCardSaid : Prop := Claim7.holds Tryz.pinned (.plain (OpenSpec.upto fnExactDeskReportSpec)) fnExactDeskReportUptoCard
end Rows
end Go.Proofs.YtocoppijdodffaaGreatDoor
