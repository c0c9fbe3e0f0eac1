/-
  DERIVED. GIVEN WITH THE SEED: THE CARDS: each row of YtlkjechbejfnhaaGreatDoorRows.lean that lists a variable, with what it lists TIED to the program's text (the seventh form; the later family's looks); each row that meets fmt, with fmt's text TOLD by the authors' own Lean function (tested against real Go, not proved from fmt's source: count such statements apart). THE CARD IS WHAT COUNTS. Prove the row's statement (the work); the ties are given (YtlkjechbejfnhaaGreatDoorTie.lean); close each card by the builder's one call (the guide's Derived/Test/ToyasCard.lean, 'card_holds'). Laid BY PROGRAM, IN A SANDBOX (cutbox-door.mjs). By AI agents, Wed Nov 11 2026. No macro, syntax, notation, axiom, sorry.
-/
import Derived.Test.YtlkjechbejfnhaaGreatDoorRows
import GoSem.ClaimSeven
namespace Go.Proofs.YtlkjechbejfnhaaGreatDoor
namespace Rows

/-- THE TIED CARD OF 'laws.FnExactNewDesk'. -/
def fnExactNewDeskCard : Claim7 := { stood := { row := fnExactNewDeskRow, standIns := [], harness := (true, "d3bece393a5e94225d6fc76cc99bf5e3452a6ba7b817dbc85866b1ae31c9d740"), looks := true }, kinds := [], alts := [], laidByText := true, laidKinds := [.data, .data, .data, .data, .sentinel, .sentinel, .pinned], laidTests := true, laidLooks := .later }
def FnExactNewDeskCardSaid : Prop := Claim7.holds Tryz.pinned (.plain (OpenSpec.ofChange fnExactNewDeskSpec)) fnExactNewDeskCard

/-- THE TIED CARD OF 'laws.FnExactMediaFindings'. -/
def fnExactMediaFindingsCard : Claim7 := { stood := { row := fnExactMediaFindingsRow, standIns := [], harness := (true, "d3bece393a5e94225d6fc76cc99bf5e3452a6ba7b817dbc85866b1ae31c9d740"), looks := true }, kinds := [], alts := [], laidByText := true, laidKinds := [.data, .data, .data], laidTests := true, laidLooks := .later }
def FnExactMediaFindingsCardSaid : Prop := Claim7.holds Tryz.pinned (.plain (OpenSpec.ofChange fnExactMediaFindingsSpec)) fnExactMediaFindingsCard

/-- THE TIED CARD OF 'laws.FnExactValidDesk'. -/
def fnExactValidDeskCard : Claim7 := { stood := { row := fnExactValidDeskRow, standIns := [], harness := (true, "d3bece393a5e94225d6fc76cc99bf5e3452a6ba7b817dbc85866b1ae31c9d740"), looks := true }, kinds := [], alts := [], laidByText := true, laidKinds := [.data, .pinned, .pinned], laidTests := true, laidLooks := .later }
def FnExactValidDeskCardSaid : Prop := Claim7.holds Tryz.pinned (.plain (OpenSpec.ofChange fnExactValidDeskSpec)) fnExactValidDeskCard

/-- THE SECOND FORM's CARD OF 'laws.FnExactNewDesk'. -/
def fnExactNewDeskUptoCard : Claim7 := { stood := { row := fnExactNewDeskUptoRow, standIns := [], harness := (true, "d3bece393a5e94225d6fc76cc99bf5e3452a6ba7b817dbc85866b1ae31c9d740"), looks := true }, kinds := [], alts := [], laidByText := true, laidKinds := [.data, .data, .data, .data, .sentinel, .sentinel, .pinned], laidTests := true, laidLooks := .later }
def FnExactNewDeskUptoCardSaid : Prop := Claim7.holds Tryz.pinned (.plain (OpenSpec.upto fnExactNewDeskSpec)) fnExactNewDeskUptoCard

/-- THE SECOND FORM's CARD OF 'laws.FnExactMediaFindings'. -/
def fnExactMediaFindingsUptoCard : Claim7 := { stood := { row := fnExactMediaFindingsUptoRow, standIns := [], harness := (true, "d3bece393a5e94225d6fc76cc99bf5e3452a6ba7b817dbc85866b1ae31c9d740"), looks := true }, kinds := [], alts := [], laidByText := true, laidKinds := [.data, .data, .data], laidTests := true, laidLooks := .later }
def FnExactMediaFindingsUptoCardSaid : Prop := Claim7.holds Tryz.pinned (.plain (OpenSpec.upto fnExactMediaFindingsSpec)) fnExactMediaFindingsUptoCard

/-- THE SECOND FORM's CARD OF 'laws.FnExactValidDesk'. -/
def fnExactValidDeskUptoCard : Claim7 := { stood := { row := fnExactValidDeskUptoRow, standIns := [], harness := (true, "d3bece393a5e94225d6fc76cc99bf5e3452a6ba7b817dbc85866b1ae31c9d740"), looks := true }, kinds := [], alts := [], laidByText := true, laidKinds := [.data, .pinned, .pinned], laidTests := true, laidLooks := .later }
def FnExactValidDeskUptoCardSaid : Prop := Claim7.holds Tryz.pinned (.plain (OpenSpec.upto fnExactValidDeskSpec)) fnExactValidDeskUptoCard
end Rows
end Go.Proofs.YtlkjechbejfnhaaGreatDoor
