/-
  DERIVED. GIVEN WITH THE SEED: THE CARDS: each row of YtlmekceabmannaaDoorRows.lean that lists a variable, with what it lists TIED to the program's text (the seventh form; the later family's looks); each row that meets fmt, with fmt's text TOLD by the authors' own Lean function (tested against real Go, not proved from fmt's source: count such statements apart). THE CARD IS WHAT COUNTS. Prove the row's statement (the work); the ties are given (YtlmekceabmannaaDoorTie.lean); close each card by the builder's one call (the guide's Derived/Test/ToyasCard.lean, 'card_holds'). Laid BY PROGRAM, IN A SANDBOX (cutbox-door.mjs). By AI agents, Wed Nov 11 2026. No macro, syntax, notation, axiom, sorry.
-/
import Derived.Test.YtlmekceabmannaaDoorRows
import GoSem.ClaimSeven
namespace Go.Proofs.YtlmekceabmannaaDoor
namespace Rows

/-- THE TIED CARD OF 'laws.FnExactCommandNames'. -/
def fnExactCommandNamesCard : Claim7 := { stood := { row := fnExactCommandNamesRow, standIns := [], harness := (true, "b72e51722eb8145963955a28c157cdec0e57c0f2c23bfc404f05c9610c648864"), looks := true }, kinds := [], alts := [], laidByText := true, laidKinds := [.listed, .data], laidTests := true, laidLooks := .later }
def FnExactCommandNamesCardSaid : Prop := Claim7.holds Tryd.pinned (.plain (OpenSpec.ofChange fnExactCommandNamesSpec)) fnExactCommandNamesCard

/-- THE TIED CARD OF 'laws.FnExactMeanError'. -/
def fnExactMeanErrorCard : Claim7 := { stood := { row := fnExactMeanErrorRow, standIns := [], harness := (true, "b72e51722eb8145963955a28c157cdec0e57c0f2c23bfc404f05c9610c648864"), looks := true }, kinds := [], alts := [], laidByText := true, laidKinds := [.data], laidTests := true, laidLooks := .later }
def FnExactMeanErrorCardSaid : Prop := Claim7.holds Tryd.pinned (.plain (OpenSpec.ofChange fnExactMeanErrorSpec)) fnExactMeanErrorCard

/-- THE TIED CARD OF 'laws.FnExactWorstMark'. -/
def fnExactWorstMarkCard : Claim7 := { stood := { row := fnExactWorstMarkRow, standIns := [], harness := (true, "b72e51722eb8145963955a28c157cdec0e57c0f2c23bfc404f05c9610c648864"), looks := true }, kinds := [], alts := [], laidByText := true, laidKinds := [.data], laidTests := true, laidLooks := .later }
def FnExactWorstMarkCardSaid : Prop := Claim7.holds Tryd.pinned (.plain (OpenSpec.ofChange fnExactWorstMarkSpec)) fnExactWorstMarkCard

/-- THE TIED CARD OF 'laws.FnExactSessionOf'. -/
def fnExactSessionOfCard : Claim7 := { stood := { row := fnExactSessionOfRow, standIns := [], harness := (true, "b72e51722eb8145963955a28c157cdec0e57c0f2c23bfc404f05c9610c648864"), looks := true }, kinds := [], alts := [], laidByText := true, laidKinds := [.data], laidTests := true, laidLooks := .later }
def FnExactSessionOfCardSaid : Prop := Claim7.holds Tryd.pinned (.plain (OpenSpec.ofChange fnExactSessionOfSpec)) fnExactSessionOfCard

/-- THE TIED CARD OF 'laws.FnExactSaveBlocks'. -/
def fnExactSaveBlocksCard : Claim7 := { stood := { row := fnExactSaveBlocksRow, standIns := [], harness := (true, "b72e51722eb8145963955a28c157cdec0e57c0f2c23bfc404f05c9610c648864"), looks := true }, kinds := [], alts := [], laidByText := true, laidKinds := [.data, .data, .data], laidTests := true, laidLooks := .later }
def FnExactSaveBlocksCardSaid : Prop := Claim7.holds Tryd.pinned (.plain (OpenSpec.ofChange fnExactSaveBlocksSpec)) fnExactSaveBlocksCard

/-- THE TIED CARD OF 'laws.FnExactDamagedLines'. -/
def fnExactDamagedLinesCard : Claim7 := { stood := { row := fnExactDamagedLinesRow, standIns := [], harness := (true, "b72e51722eb8145963955a28c157cdec0e57c0f2c23bfc404f05c9610c648864"), looks := true }, kinds := [], alts := [], laidByText := true, laidKinds := [.data, .data, .data, .data, .pinned], laidTests := true, laidLooks := .later }
def FnExactDamagedLinesCardSaid : Prop := Claim7.holds Tryd.pinned (.plain (OpenSpec.ofChange fnExactDamagedLinesSpec)) fnExactDamagedLinesCard

/-- THE TIED CARD OF 'laws.FnExactReadSession'. -/
def fnExactReadSessionCard : Claim7 := { stood := { row := fnExactReadSessionRow, standIns := [], harness := (true, "b72e51722eb8145963955a28c157cdec0e57c0f2c23bfc404f05c9610c648864"), looks := true }, kinds := [], alts := [], laidByText := true, laidKinds := [.data, .data, .data, .data, .sentinel, .sentinel, .pinned], laidTests := true, laidLooks := .later }
def FnExactReadSessionCardSaid : Prop := Claim7.holds Tryd.pinned (.plain (OpenSpec.ofChange fnExactReadSessionSpec)) fnExactReadSessionCard

/-- THE TIED CARD OF 'laws.FnExactSalvageBlocks'. -/
def fnExactSalvageBlocksCard : Claim7 := { stood := { row := fnExactSalvageBlocksRow, standIns := [], harness := (true, "b72e51722eb8145963955a28c157cdec0e57c0f2c23bfc404f05c9610c648864"), looks := true }, kinds := [], alts := [], laidByText := true, laidKinds := [.data, .data, .data, .data, .pinned], laidTests := true, laidLooks := .later }
def FnExactSalvageBlocksCardSaid : Prop := Claim7.holds Tryd.pinned (.plain (OpenSpec.ofChange fnExactSalvageBlocksSpec)) fnExactSalvageBlocksCard

/-- THE TIED CARD OF 'laws.FnSalvage'. -/
def fnSalvageCard : Claim7 := { stood := { row := fnSalvageRow, standIns := [], harness := (true, "b72e51722eb8145963955a28c157cdec0e57c0f2c23bfc404f05c9610c648864"), looks := true }, kinds := [], alts := [], laidByText := true, laidKinds := [.data, .data, .data, .data, .pinned], laidTests := true, laidLooks := .later }
def FnSalvageCardSaid : Prop := Claim7.holds Tryd.pinned (.plain (OpenSpec.ofChange fnSalvageSpec)) fnSalvageCard

/-- THE TIED CARD OF 'laws.FnExactLoadBlocks'. -/
def fnExactLoadBlocksCard : Claim7 := { stood := { row := fnExactLoadBlocksRow, standIns := [], harness := (true, "b72e51722eb8145963955a28c157cdec0e57c0f2c23bfc404f05c9610c648864"), looks := true }, kinds := [], alts := [], laidByText := true, laidKinds := [.data, .data, .data, .data, .sentinel, .sentinel, .pinned], laidTests := true, laidLooks := .later }
def FnExactLoadBlocksCardSaid : Prop := Claim7.holds Tryd.pinned (.plain (OpenSpec.ofChange fnExactLoadBlocksSpec)) fnExactLoadBlocksCard

/-- THE TIED CARD OF 'laws.FnExactStarsOfBlocks'. -/
def fnExactStarsOfBlocksCard : Claim7 := { stood := { row := fnExactStarsOfBlocksRow, standIns := [], harness := (true, "b72e51722eb8145963955a28c157cdec0e57c0f2c23bfc404f05c9610c648864"), looks := true }, kinds := [], alts := [], laidByText := true, laidKinds := [.data, .data, .data, .data, .sentinel, .sentinel, .pinned], laidTests := true, laidLooks := .later }
def FnExactStarsOfBlocksCardSaid : Prop := Claim7.holds Tryd.pinned (.plain (OpenSpec.ofChange fnExactStarsOfBlocksSpec)) fnExactStarsOfBlocksCard

/-- THE SECOND FORM's CARD OF 'laws.FnExactCommandNames'. -/
def fnExactCommandNamesUptoCard : Claim7 := { stood := { row := fnExactCommandNamesUptoRow, standIns := [], harness := (true, "b72e51722eb8145963955a28c157cdec0e57c0f2c23bfc404f05c9610c648864"), looks := true }, kinds := [], alts := [], laidByText := true, laidKinds := [.listed, .data], laidTests := true, laidLooks := .later }
def FnExactCommandNamesUptoCardSaid : Prop := Claim7.holds Tryd.pinned (.plain (OpenSpec.upto fnExactCommandNamesSpec)) fnExactCommandNamesUptoCard

/-- THE SECOND FORM's CARD OF 'laws.FnExactMeanError'. -/
def fnExactMeanErrorUptoCard : Claim7 := { stood := { row := fnExactMeanErrorUptoRow, standIns := [], harness := (true, "b72e51722eb8145963955a28c157cdec0e57c0f2c23bfc404f05c9610c648864"), looks := true }, kinds := [], alts := [], laidByText := true, laidKinds := [.data], laidTests := true, laidLooks := .later }
def FnExactMeanErrorUptoCardSaid : Prop := Claim7.holds Tryd.pinned (.plain (OpenSpec.upto fnExactMeanErrorSpec)) fnExactMeanErrorUptoCard

/-- THE SECOND FORM's CARD OF 'laws.FnExactWorstMark'. -/
def fnExactWorstMarkUptoCard : Claim7 := { stood := { row := fnExactWorstMarkUptoRow, standIns := [], harness := (true, "b72e51722eb8145963955a28c157cdec0e57c0f2c23bfc404f05c9610c648864"), looks := true }, kinds := [], alts := [], laidByText := true, laidKinds := [.data], laidTests := true, laidLooks := .later }
def FnExactWorstMarkUptoCardSaid : Prop := Claim7.holds Tryd.pinned (.plain (OpenSpec.upto fnExactWorstMarkSpec)) fnExactWorstMarkUptoCard

/-- THE SECOND FORM's CARD OF 'laws.FnExactSessionOf'. -/
def fnExactSessionOfUptoCard : Claim7 := { stood := { row := fnExactSessionOfUptoRow, standIns := [], harness := (true, "b72e51722eb8145963955a28c157cdec0e57c0f2c23bfc404f05c9610c648864"), looks := true }, kinds := [], alts := [], laidByText := true, laidKinds := [.data], laidTests := true, laidLooks := .later }
def FnExactSessionOfUptoCardSaid : Prop := Claim7.holds Tryd.pinned (.plain (OpenSpec.upto fnExactSessionOfSpec)) fnExactSessionOfUptoCard

/-- THE SECOND FORM's CARD OF 'laws.FnExactSaveBlocks'. -/
def fnExactSaveBlocksUptoCard : Claim7 := { stood := { row := fnExactSaveBlocksUptoRow, standIns := [], harness := (true, "b72e51722eb8145963955a28c157cdec0e57c0f2c23bfc404f05c9610c648864"), looks := true }, kinds := [], alts := [], laidByText := true, laidKinds := [.data, .data, .data], laidTests := true, laidLooks := .later }
def FnExactSaveBlocksUptoCardSaid : Prop := Claim7.holds Tryd.pinned (.plain (OpenSpec.upto fnExactSaveBlocksSpec)) fnExactSaveBlocksUptoCard

/-- THE SECOND FORM's CARD OF 'laws.FnExactDamagedLines'. -/
def fnExactDamagedLinesUptoCard : Claim7 := { stood := { row := fnExactDamagedLinesUptoRow, standIns := [], harness := (true, "b72e51722eb8145963955a28c157cdec0e57c0f2c23bfc404f05c9610c648864"), looks := true }, kinds := [], alts := [], laidByText := true, laidKinds := [.data, .data, .data, .data, .pinned], laidTests := true, laidLooks := .later }
def FnExactDamagedLinesUptoCardSaid : Prop := Claim7.holds Tryd.pinned (.plain (OpenSpec.upto fnExactDamagedLinesSpec)) fnExactDamagedLinesUptoCard

/-- THE SECOND FORM's CARD OF 'laws.FnExactReadSession'. -/
def fnExactReadSessionUptoCard : Claim7 := { stood := { row := fnExactReadSessionUptoRow, standIns := [], harness := (true, "b72e51722eb8145963955a28c157cdec0e57c0f2c23bfc404f05c9610c648864"), looks := true }, kinds := [], alts := [], laidByText := true, laidKinds := [.data, .data, .data, .data, .sentinel, .sentinel, .pinned], laidTests := true, laidLooks := .later }
def FnExactReadSessionUptoCardSaid : Prop := Claim7.holds Tryd.pinned (.plain (OpenSpec.upto fnExactReadSessionSpec)) fnExactReadSessionUptoCard

/-- THE SECOND FORM's CARD OF 'laws.FnExactSalvageBlocks'. -/
def fnExactSalvageBlocksUptoCard : Claim7 := { stood := { row := fnExactSalvageBlocksUptoRow, standIns := [], harness := (true, "b72e51722eb8145963955a28c157cdec0e57c0f2c23bfc404f05c9610c648864"), looks := true }, kinds := [], alts := [], laidByText := true, laidKinds := [.data, .data, .data, .data, .pinned], laidTests := true, laidLooks := .later }
def FnExactSalvageBlocksUptoCardSaid : Prop := Claim7.holds Tryd.pinned (.plain (OpenSpec.upto fnExactSalvageBlocksSpec)) fnExactSalvageBlocksUptoCard

/-- THE SECOND FORM's CARD OF 'laws.FnSalvage'. -/
def fnSalvageUptoCard : Claim7 := { stood := { row := fnSalvageUptoRow, standIns := [], harness := (true, "b72e51722eb8145963955a28c157cdec0e57c0f2c23bfc404f05c9610c648864"), looks := true }, kinds := [], alts := [], laidByText := true, laidKinds := [.data, .data, .data, .data, .pinned], laidTests := true, laidLooks := .later }
def FnSalvageUptoCardSaid : Prop := Claim7.holds Tryd.pinned (.plain (OpenSpec.upto fnSalvageSpec)) fnSalvageUptoCard

/-- THE SECOND FORM's CARD OF 'laws.FnExactLoadBlocks'. -/
def fnExactLoadBlocksUptoCard : Claim7 := { stood := { row := fnExactLoadBlocksUptoRow, standIns := [], harness := (true, "b72e51722eb8145963955a28c157cdec0e57c0f2c23bfc404f05c9610c648864"), looks := true }, kinds := [], alts := [], laidByText := true, laidKinds := [.data, .data, .data, .data, .sentinel, .sentinel, .pinned], laidTests := true, laidLooks := .later }
def FnExactLoadBlocksUptoCardSaid : Prop := Claim7.holds Tryd.pinned (.plain (OpenSpec.upto fnExactLoadBlocksSpec)) fnExactLoadBlocksUptoCard

/-- THE SECOND FORM's CARD OF 'laws.FnExactStarsOfBlocks'. -/
def fnExactStarsOfBlocksUptoCard : Claim7 := { stood := { row := fnExactStarsOfBlocksUptoRow, standIns := [], harness := (true, "b72e51722eb8145963955a28c157cdec0e57c0f2c23bfc404f05c9610c648864"), looks := true }, kinds := [], alts := [], laidByText := true, laidKinds := [.data, .data, .data, .data, .sentinel, .sentinel, .pinned], laidTests := true, laidLooks := .later }
def FnExactStarsOfBlocksUptoCardSaid : Prop := Claim7.holds Tryd.pinned (.plain (OpenSpec.upto fnExactStarsOfBlocksSpec)) fnExactStarsOfBlocksUptoCard
end Rows
end Go.Proofs.YtlmekceabmannaaDoor
