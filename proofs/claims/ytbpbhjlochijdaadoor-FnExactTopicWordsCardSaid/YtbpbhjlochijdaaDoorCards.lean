/-
  DERIVED. GIVEN WITH THE SEED: THE CARDS: each row of YtbpbhjlochijdaaDoorRows.lean that lists a variable, with what it lists TIED to the program's text (the seventh form; the later family's looks); each row that meets fmt, with fmt's text TOLD by the authors' own Lean function (tested against real Go, not proved from fmt's source: count such statements apart). THE CARD IS WHAT COUNTS. Prove the row's statement (the work); the ties are given (YtbpbhjlochijdaaDoorTie.lean); close each card by the builder's one call (the guide's Derived/Test/ToyasCard.lean, 'card_holds'). Laid BY PROGRAM, IN A SANDBOX (cutbox-door.mjs). By AI agents, Wed Nov 11 2026. No macro, syntax, notation, axiom, sorry.
-/
import Derived.Test.YtbpbhjlochijdaaDoorRows
import GoSem.ClaimSeven
namespace Go.Proofs.YtbpbhjlochijdaaDoor
namespace Rows

/-- THE TIED CARD OF 'laws.FnSalvage'. -/
def fnSalvageCard : Claim7 := { stood := { row := fnSalvageRow, standIns := [], harness := (true, "d49123f4c0eb8564b088493bc211969c6647daa9241c44fea6f077524014869d"), looks := false }, kinds := [], alts := [], laidByText := true, laidKinds := [.data, .data, .data, .data, .pinned], laidTests := true, laidLooks := .later }
def FnSalvageCardSaid : Prop := Claim7.holds Tryd.pinned (.plain (OpenSpec.ofChange fnSalvageSpec)) fnSalvageCard

/-- THE TIED CARD OF 'laws.FnExactTopicWords'. -/
def fnExactTopicWordsCard : Claim7 := { stood := { row := fnExactTopicWordsRow, standIns := [], harness := (true, "d49123f4c0eb8564b088493bc211969c6647daa9241c44fea6f077524014869d"), looks := false }, kinds := [], alts := [], laidByText := true, laidKinds := [.data, .pinned, .pinned], laidTests := true, laidLooks := .later }
def FnExactTopicWordsCardSaid : Prop := Claim7.holds Tryd.pinned (.plain (OpenSpec.ofChange fnExactTopicWordsSpec)) fnExactTopicWordsCard

/-- THE SECOND FORM's CARD OF 'laws.FnSalvage'. -/
def fnSalvageUptoCard : Claim7 := { stood := { row := fnSalvageUptoRow, standIns := [], harness := (true, "d49123f4c0eb8564b088493bc211969c6647daa9241c44fea6f077524014869d"), looks := false }, kinds := [], alts := [], laidByText := true, laidKinds := [.data, .data, .data, .data, .pinned], laidTests := true, laidLooks := .later }
def FnSalvageUptoCardSaid : Prop := Claim7.holds Tryd.pinned (.plain (OpenSpec.upto fnSalvageSpec)) fnSalvageUptoCard

/-- THE SECOND FORM's CARD OF 'laws.FnExactTopicWords'. -/
def fnExactTopicWordsUptoCard : Claim7 := { stood := { row := fnExactTopicWordsUptoRow, standIns := [], harness := (true, "d49123f4c0eb8564b088493bc211969c6647daa9241c44fea6f077524014869d"), looks := false }, kinds := [], alts := [], laidByText := true, laidKinds := [.data, .pinned, .pinned], laidTests := true, laidLooks := .later }
def FnExactTopicWordsUptoCardSaid : Prop := Claim7.holds Tryd.pinned (.plain (OpenSpec.upto fnExactTopicWordsSpec)) fnExactTopicWordsUptoCard
end Rows
end Go.Proofs.YtbpbhjlochijdaaDoor
