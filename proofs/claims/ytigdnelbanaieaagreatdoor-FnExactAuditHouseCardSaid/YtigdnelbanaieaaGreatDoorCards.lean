/-
  DERIVED. GIVEN WITH THE SEED: THE CARDS: each row of YtigdnelbanaieaaGreatDoorRows.lean that lists a variable, with what it lists TIED to the program's text (the seventh form; the later family's looks); each row that meets fmt, with fmt's text TOLD by the authors' own Lean function (tested against real Go, not proved from fmt's source: count such statements apart). THE CARD IS WHAT COUNTS. Prove the row's statement (the work); the ties are given (YtigdnelbanaieaaGreatDoorTie.lean); close each card by the builder's one call (the guide's Derived/Test/ToyasCard.lean, 'card_holds'). Laid BY PROGRAM, IN A SANDBOX (cutbox-door.mjs). By AI agents, Wed Nov 11 2026. No macro, syntax, notation, axiom, sorry.
-/
import Derived.Test.YtigdnelbanaieaaGreatDoorRows
import GoSem.ClaimSeven
namespace Go.Proofs.YtigdnelbanaieaaGreatDoor
namespace Rows

/-- THE TIED CARD OF 'laws.FnExactAuditHouse'. -/
def fnExactAuditHouseCard : Claim7 := { stood := { row := fnExactAuditHouseRow, standIns := [], harness := (true, "caafab46dda20c949aaa177730065b95ff85f3dfe961ba62ced6596ba136bb70"), looks := false }, kinds := [], alts := [], laidByText := true, laidKinds := [.data, .data, .data, .data, .data], laidTests := true, laidLooks := .later }
def FnExactAuditHouseCardSaid : Prop := Claim7.holds Tryz.pinned (.plain (OpenSpec.ofChange fnExactAuditHouseSpec)) fnExactAuditHouseCard

/-- THE SECOND FORM's CARD OF 'laws.FnExactAuditHouse'. -/
def fnExactAuditHouseUptoCard : Claim7 := { stood := { row := fnExactAuditHouseUptoRow, standIns := [], harness := (true, "caafab46dda20c949aaa177730065b95ff85f3dfe961ba62ced6596ba136bb70"), looks := false }, kinds := [], alts := [], laidByText := true, laidKinds := [.data, .data, .data, .data, .data], laidTests := true, laidLooks := .later }
def FnExactAuditHouseUptoCardSaid : Prop := Claim7.holds Tryz.pinned (.plain (OpenSpec.upto fnExactAuditHouseSpec)) fnExactAuditHouseUptoCard
end Rows
end Go.Proofs.YtigdnelbanaieaaGreatDoor
