/-
  DERIVED. GIVEN WITH THE SEED: THE CARDS: each row of YtieiboeboejmkaaGreatDoorRows.lean that lists a variable, with what it lists TIED to the program's text (the seventh form; the later family's looks); each row that meets fmt, with fmt's text TOLD by the authors' own Lean function (tested against real Go, not proved from fmt's source: count such statements apart). THE CARD IS WHAT COUNTS. Prove the row's statement (the work); the ties are given (YtieiboeboejmkaaGreatDoorTie.lean); close each card by the builder's one call (the guide's Derived/Test/ToyasCard.lean, 'card_holds'). Laid BY PROGRAM, IN A SANDBOX (cutbox-door.mjs). By AI agents, Wed Nov 11 2026. No macro, syntax, notation, axiom, sorry.
-/
import Derived.Test.YtieiboeboejmkaaGreatDoorRows
import GoSem.ClaimSeven
namespace Go.Proofs.YtieiboeboejmkaaGreatDoor
namespace Rows

/-- THE TIED CARD OF 'laws.FnTop'. -/
def fnTopCard : Claim7 := { stood := { row := fnTopRow, standIns := [], harness := (true, "5c5989d885cac9a2a98694f0c4ce4a16a7b01362ebbef6456930f7214f9e7b6b"), looks := false }, kinds := [], alts := [], laidByText := true, laidKinds := [.data, .data, .data, .data, .data], laidTests := true, laidLooks := .later }
def FnTopCardSaid : Prop := Claim7.holds Tryz.pinned (.plain (OpenSpec.ofChange fnTopSpec)) fnTopCard

/-- THE TIED CARD OF 'laws.FnAudit'. -/
def fnAuditCard : Claim7 := { stood := { row := fnAuditRow, standIns := [], harness := (true, "5c5989d885cac9a2a98694f0c4ce4a16a7b01362ebbef6456930f7214f9e7b6b"), looks := false }, kinds := [], alts := [], laidByText := true, laidKinds := [.data, .data, .data, .data, .data, .data], laidTests := true, laidLooks := .later }
def FnAuditCardSaid : Prop := Claim7.holds Tryz.pinned (.plain (OpenSpec.ofChange fnAuditSpec)) fnAuditCard

/-- THE TIED CARD OF 'laws.FnExactCueFindings'. -/
def fnExactCueFindingsCard : Claim7 := { stood := { row := fnExactCueFindingsRow, standIns := [], harness := (true, "5c5989d885cac9a2a98694f0c4ce4a16a7b01362ebbef6456930f7214f9e7b6b"), looks := false }, kinds := [], alts := [], laidByText := true, laidKinds := [.data], laidTests := true, laidLooks := .later }
def FnExactCueFindingsCardSaid : Prop := Claim7.holds Tryz.pinned (.plain (OpenSpec.ofChange fnExactCueFindingsSpec)) fnExactCueFindingsCard

/-- THE TIED CARD OF 'laws.FnExactSeatFindings'. -/
def fnExactSeatFindingsCard : Claim7 := { stood := { row := fnExactSeatFindingsRow, standIns := [], harness := (true, "5c5989d885cac9a2a98694f0c4ce4a16a7b01362ebbef6456930f7214f9e7b6b"), looks := false }, kinds := [], alts := [], laidByText := true, laidKinds := [.data, .data, .data, .data], laidTests := true, laidLooks := .later }
def FnExactSeatFindingsCardSaid : Prop := Claim7.holds Tryz.pinned (.plain (OpenSpec.ofChange fnExactSeatFindingsSpec)) fnExactSeatFindingsCard

/-- THE TIED CARD OF 'laws.FnExactDomeFindings'. -/
def fnExactDomeFindingsCard : Claim7 := { stood := { row := fnExactDomeFindingsRow, standIns := [], harness := (true, "5c5989d885cac9a2a98694f0c4ce4a16a7b01362ebbef6456930f7214f9e7b6b"), looks := false }, kinds := [], alts := [], laidByText := true, laidKinds := [.data, .data, .data, .data], laidTests := true, laidLooks := .later }
def FnExactDomeFindingsCardSaid : Prop := Claim7.holds Tryz.pinned (.plain (OpenSpec.ofChange fnExactDomeFindingsSpec)) fnExactDomeFindingsCard

/-- THE TIED CARD OF 'laws.FnExactPassesAudit'. -/
def fnExactPassesAuditCard : Claim7 := { stood := { row := fnExactPassesAuditRow, standIns := [], harness := (true, "5c5989d885cac9a2a98694f0c4ce4a16a7b01362ebbef6456930f7214f9e7b6b"), looks := false }, kinds := [], alts := [], laidByText := true, laidKinds := [.data, .data, .data, .data, .data], laidTests := true, laidLooks := .later }
def FnExactPassesAuditCardSaid : Prop := Claim7.holds Tryz.pinned (.plain (OpenSpec.ofChange fnExactPassesAuditSpec)) fnExactPassesAuditCard

/-- THE SECOND FORM's CARD OF 'laws.FnTop'. -/
def fnTopUptoCard : Claim7 := { stood := { row := fnTopUptoRow, standIns := [], harness := (true, "5c5989d885cac9a2a98694f0c4ce4a16a7b01362ebbef6456930f7214f9e7b6b"), looks := false }, kinds := [], alts := [], laidByText := true, laidKinds := [.data, .data, .data, .data, .data], laidTests := true, laidLooks := .later }
def FnTopUptoCardSaid : Prop := Claim7.holds Tryz.pinned (.plain (OpenSpec.upto fnTopSpec)) fnTopUptoCard

/-- THE SECOND FORM's CARD OF 'laws.FnAudit'. -/
def fnAuditUptoCard : Claim7 := { stood := { row := fnAuditUptoRow, standIns := [], harness := (true, "5c5989d885cac9a2a98694f0c4ce4a16a7b01362ebbef6456930f7214f9e7b6b"), looks := false }, kinds := [], alts := [], laidByText := true, laidKinds := [.data, .data, .data, .data, .data, .data], laidTests := true, laidLooks := .later }
def FnAuditUptoCardSaid : Prop := Claim7.holds Tryz.pinned (.plain (OpenSpec.upto fnAuditSpec)) fnAuditUptoCard

/-- THE SECOND FORM's CARD OF 'laws.FnExactCueFindings'. -/
def fnExactCueFindingsUptoCard : Claim7 := { stood := { row := fnExactCueFindingsUptoRow, standIns := [], harness := (true, "5c5989d885cac9a2a98694f0c4ce4a16a7b01362ebbef6456930f7214f9e7b6b"), looks := false }, kinds := [], alts := [], laidByText := true, laidKinds := [.data], laidTests := true, laidLooks := .later }
def FnExactCueFindingsUptoCardSaid : Prop := Claim7.holds Tryz.pinned (.plain (OpenSpec.upto fnExactCueFindingsSpec)) fnExactCueFindingsUptoCard

/-- THE SECOND FORM's CARD OF 'laws.FnExactSeatFindings'. -/
def fnExactSeatFindingsUptoCard : Claim7 := { stood := { row := fnExactSeatFindingsUptoRow, standIns := [], harness := (true, "5c5989d885cac9a2a98694f0c4ce4a16a7b01362ebbef6456930f7214f9e7b6b"), looks := false }, kinds := [], alts := [], laidByText := true, laidKinds := [.data, .data, .data, .data], laidTests := true, laidLooks := .later }
def FnExactSeatFindingsUptoCardSaid : Prop := Claim7.holds Tryz.pinned (.plain (OpenSpec.upto fnExactSeatFindingsSpec)) fnExactSeatFindingsUptoCard

/-- THE SECOND FORM's CARD OF 'laws.FnExactDomeFindings'. -/
def fnExactDomeFindingsUptoCard : Claim7 := { stood := { row := fnExactDomeFindingsUptoRow, standIns := [], harness := (true, "5c5989d885cac9a2a98694f0c4ce4a16a7b01362ebbef6456930f7214f9e7b6b"), looks := false }, kinds := [], alts := [], laidByText := true, laidKinds := [.data, .data, .data, .data], laidTests := true, laidLooks := .later }
def FnExactDomeFindingsUptoCardSaid : Prop := Claim7.holds Tryz.pinned (.plain (OpenSpec.upto fnExactDomeFindingsSpec)) fnExactDomeFindingsUptoCard

/-- THE SECOND FORM's CARD OF 'laws.FnExactPassesAudit'. -/
def fnExactPassesAuditUptoCard : Claim7 := { stood := { row := fnExactPassesAuditUptoRow, standIns := [], harness := (true, "5c5989d885cac9a2a98694f0c4ce4a16a7b01362ebbef6456930f7214f9e7b6b"), looks := false }, kinds := [], alts := [], laidByText := true, laidKinds := [.data, .data, .data, .data, .data], laidTests := true, laidLooks := .later }
def FnExactPassesAuditUptoCardSaid : Prop := Claim7.holds Tryz.pinned (.plain (OpenSpec.upto fnExactPassesAuditSpec)) fnExactPassesAuditUptoCard
end Rows
end Go.Proofs.YtieiboeboejmkaaGreatDoor
