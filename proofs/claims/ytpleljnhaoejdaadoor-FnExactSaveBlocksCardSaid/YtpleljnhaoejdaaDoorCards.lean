/-
  DERIVED. GIVEN WITH THE SEED: THE CARDS: each row of YtpleljnhaoejdaaDoorRows.lean that lists a variable, with what it lists TIED to the program's text (the seventh form; the later family's looks); each row that meets fmt, with fmt's text TOLD by the authors' own Lean function (tested against real Go, not proved from fmt's source: count such statements apart). THE CARD IS WHAT COUNTS. Prove the row's statement (the work); the ties are given (YtpleljnhaoejdaaDoorTie.lean); close each card by the builder's one call (the guide's Derived/Test/ToyasCard.lean, 'card_holds'). Laid BY PROGRAM, IN A SANDBOX (cutbox-door.mjs). By AI agents, Wed Nov 11 2026. No macro, syntax, notation, axiom, sorry.
-/
import Derived.Test.YtpleljnhaoejdaaDoorRows
import GoSem.ClaimSeven
namespace Go.Proofs.YtpleljnhaoejdaaDoor
namespace Rows

/-- THE TIED CARD OF 'laws.FnExactSaveBlocks'. -/
def fnExactSaveBlocksCard : Claim7 := { stood := { row := fnExactSaveBlocksRow, standIns := [], harness := (true, "abd8e8a9dac39337ba73691bb59e1e309c45a959ad44f68e8dd74339382a0569"), looks := false }, kinds := [], alts := [], laidByText := true, laidKinds := [.data, .data, .data], laidTests := true, laidLooks := .later }
def FnExactSaveBlocksCardSaid : Prop := Claim7.holds Tryd.pinned (.plain (OpenSpec.ofChange fnExactSaveBlocksSpec)) fnExactSaveBlocksCard

/-- THE TIED CARD OF 'laws.FnExactWordsOf'. -/
def fnExactWordsOfCard : Claim7 := { stood := { row := fnExactWordsOfRow, standIns := [], harness := (true, "abd8e8a9dac39337ba73691bb59e1e309c45a959ad44f68e8dd74339382a0569"), looks := false }, kinds := [], alts := [], laidByText := true, laidKinds := [.data, .pinned, .pinned], laidTests := true, laidLooks := .later }
def FnExactWordsOfCardSaid : Prop := Claim7.holds Tryd.pinned (.plain (OpenSpec.ofChange fnExactWordsOfSpec)) fnExactWordsOfCard

/-- THE TIED CARD OF 'laws.FnExactValidNotes'. -/
def fnExactValidNotesCard : Claim7 := { stood := { row := fnExactValidNotesRow, standIns := [], harness := (true, "abd8e8a9dac39337ba73691bb59e1e309c45a959ad44f68e8dd74339382a0569"), looks := false }, kinds := [], alts := [], laidByText := true, laidKinds := [.data, .pinned, .pinned], laidTests := true, laidLooks := .later }
def FnExactValidNotesCardSaid : Prop := Claim7.holds Tryd.pinned (.plain (OpenSpec.ofChange fnExactValidNotesSpec)) fnExactValidNotesCard

/-- THE TIED CARD OF 'laws.FnExactNotesText'. -/
def fnExactNotesTextCard : Claim7 := { stood := { row := fnExactNotesTextRow, standIns := [], harness := (true, "abd8e8a9dac39337ba73691bb59e1e309c45a959ad44f68e8dd74339382a0569"), looks := false }, kinds := [], alts := [], laidByText := true, laidKinds := [.data, .pinned, .pinned], laidTests := true, laidLooks := .later }
def FnExactNotesTextCardSaid : Prop := Claim7.holds Tryd.pinned (.plain (OpenSpec.ofChange fnExactNotesTextSpec)) fnExactNotesTextCard

/-- THE TIED CARD OF 'laws.FnSalvage'. -/
def fnSalvageCard : Claim7 := { stood := { row := fnSalvageRow, standIns := [], harness := (true, "abd8e8a9dac39337ba73691bb59e1e309c45a959ad44f68e8dd74339382a0569"), looks := false }, kinds := [], alts := [], laidByText := true, laidKinds := [.data, .data, .data, .data, .pinned], laidTests := true, laidLooks := .later }
def FnSalvageCardSaid : Prop := Claim7.holds Tryd.pinned (.plain (OpenSpec.ofChange fnSalvageSpec)) fnSalvageCard

/-- THE TIED CARD OF 'laws.FnExactWordWeight'. -/
def fnExactWordWeightCard : Claim7 := { stood := { row := fnExactWordWeightRow, standIns := [], harness := (true, "abd8e8a9dac39337ba73691bb59e1e309c45a959ad44f68e8dd74339382a0569"), looks := false }, kinds := [], alts := [], laidByText := true, laidKinds := [.data, .pinned, .pinned], laidTests := true, laidLooks := .later }
def FnExactWordWeightCardSaid : Prop := Claim7.holds Tryd.pinned (.plain (OpenSpec.ofChange fnExactWordWeightSpec)) fnExactWordWeightCard

/-- THE TIED CARD OF 'laws.FnExactDropNote'. -/
def fnExactDropNoteCard : Claim7 := { stood := { row := fnExactDropNoteRow, standIns := [], harness := (true, "abd8e8a9dac39337ba73691bb59e1e309c45a959ad44f68e8dd74339382a0569"), looks := false }, kinds := [], alts := [], laidByText := true, laidKinds := [.data, .pinned, .pinned], laidTests := true, laidLooks := .later }
def FnExactDropNoteCardSaid : Prop := Claim7.holds Tryd.pinned (.plain (OpenSpec.ofChange fnExactDropNoteSpec)) fnExactDropNoteCard

/-- THE TIED CARD OF 'laws.FnExactNoteScore'. -/
def fnExactNoteScoreCard : Claim7 := { stood := { row := fnExactNoteScoreRow, standIns := [], harness := (true, "abd8e8a9dac39337ba73691bb59e1e309c45a959ad44f68e8dd74339382a0569"), looks := false }, kinds := [], alts := [], laidByText := true, laidKinds := [.data, .pinned, .pinned], laidTests := true, laidLooks := .later }
def FnExactNoteScoreCardSaid : Prop := Claim7.holds Tryd.pinned (.plain (OpenSpec.ofChange fnExactNoteScoreSpec)) fnExactNoteScoreCard

/-- THE TIED CARD OF 'laws.FnExactNotesWith'. -/
def fnExactNotesWithCard : Claim7 := { stood := { row := fnExactNotesWithRow, standIns := [], harness := (true, "abd8e8a9dac39337ba73691bb59e1e309c45a959ad44f68e8dd74339382a0569"), looks := false }, kinds := [], alts := [], laidByText := true, laidKinds := [.data, .pinned, .pinned], laidTests := true, laidLooks := .later }
def FnExactNotesWithCardSaid : Prop := Claim7.holds Tryd.pinned (.plain (OpenSpec.ofChange fnExactNotesWithSpec)) fnExactNotesWithCard

/-- THE TIED CARD OF 'laws.FnExactUnknownWords'. -/
def fnExactUnknownWordsCard : Claim7 := { stood := { row := fnExactUnknownWordsRow, standIns := [], harness := (true, "abd8e8a9dac39337ba73691bb59e1e309c45a959ad44f68e8dd74339382a0569"), looks := false }, kinds := [], alts := [], laidByText := true, laidKinds := [.data, .pinned, .pinned], laidTests := true, laidLooks := .later }
def FnExactUnknownWordsCardSaid : Prop := Claim7.holds Tryd.pinned (.plain (OpenSpec.ofChange fnExactUnknownWordsSpec)) fnExactUnknownWordsCard

/-- THE TIED CARD OF 'laws.FnExactAddNote'. -/
def fnExactAddNoteCard : Claim7 := { stood := { row := fnExactAddNoteRow, standIns := [], harness := (true, "abd8e8a9dac39337ba73691bb59e1e309c45a959ad44f68e8dd74339382a0569"), looks := false }, kinds := [], alts := [], laidByText := true, laidKinds := [.data, .pinned, .pinned], laidTests := true, laidLooks := .later }
def FnExactAddNoteCardSaid : Prop := Claim7.holds Tryd.pinned (.plain (OpenSpec.ofChange fnExactAddNoteSpec)) fnExactAddNoteCard

/-- THE TIED CARD OF 'laws.FnExactReadNotes'. -/
def fnExactReadNotesCard : Claim7 := { stood := { row := fnExactReadNotesRow, standIns := [], harness := (true, "abd8e8a9dac39337ba73691bb59e1e309c45a959ad44f68e8dd74339382a0569"), looks := false }, kinds := [], alts := [], laidByText := true, laidKinds := [.data, .pinned, .pinned], laidTests := true, laidLooks := .later }
def FnExactReadNotesCardSaid : Prop := Claim7.holds Tryd.pinned (.plain (OpenSpec.ofChange fnExactReadNotesSpec)) fnExactReadNotesCard

/-- THE TIED CARD OF 'laws.FnExactRankNotes'. -/
def fnExactRankNotesCard : Claim7 := { stood := { row := fnExactRankNotesRow, standIns := [], harness := (true, "abd8e8a9dac39337ba73691bb59e1e309c45a959ad44f68e8dd74339382a0569"), looks := false }, kinds := [], alts := [], laidByText := true, laidKinds := [.data, .pinned, .pinned], laidTests := true, laidLooks := .later }
def FnExactRankNotesCardSaid : Prop := Claim7.holds Tryd.pinned (.plain (OpenSpec.ofChange fnExactRankNotesSpec)) fnExactRankNotesCard

/-- THE SECOND FORM's CARD OF 'laws.FnExactSaveBlocks'. -/
def fnExactSaveBlocksUptoCard : Claim7 := { stood := { row := fnExactSaveBlocksUptoRow, standIns := [], harness := (true, "abd8e8a9dac39337ba73691bb59e1e309c45a959ad44f68e8dd74339382a0569"), looks := false }, kinds := [], alts := [], laidByText := true, laidKinds := [.data, .data, .data], laidTests := true, laidLooks := .later }
def FnExactSaveBlocksUptoCardSaid : Prop := Claim7.holds Tryd.pinned (.plain (OpenSpec.upto fnExactSaveBlocksSpec)) fnExactSaveBlocksUptoCard

/-- THE SECOND FORM's CARD OF 'laws.FnExactWordsOf'. -/
def fnExactWordsOfUptoCard : Claim7 := { stood := { row := fnExactWordsOfUptoRow, standIns := [], harness := (true, "abd8e8a9dac39337ba73691bb59e1e309c45a959ad44f68e8dd74339382a0569"), looks := false }, kinds := [], alts := [], laidByText := true, laidKinds := [.data, .pinned, .pinned], laidTests := true, laidLooks := .later }
def FnExactWordsOfUptoCardSaid : Prop := Claim7.holds Tryd.pinned (.plain (OpenSpec.upto fnExactWordsOfSpec)) fnExactWordsOfUptoCard

/-- THE SECOND FORM's CARD OF 'laws.FnExactValidNotes'. -/
def fnExactValidNotesUptoCard : Claim7 := { stood := { row := fnExactValidNotesUptoRow, standIns := [], harness := (true, "abd8e8a9dac39337ba73691bb59e1e309c45a959ad44f68e8dd74339382a0569"), looks := false }, kinds := [], alts := [], laidByText := true, laidKinds := [.data, .pinned, .pinned], laidTests := true, laidLooks := .later }
def FnExactValidNotesUptoCardSaid : Prop := Claim7.holds Tryd.pinned (.plain (OpenSpec.upto fnExactValidNotesSpec)) fnExactValidNotesUptoCard

/-- THE SECOND FORM's CARD OF 'laws.FnExactNotesText'. -/
def fnExactNotesTextUptoCard : Claim7 := { stood := { row := fnExactNotesTextUptoRow, standIns := [], harness := (true, "abd8e8a9dac39337ba73691bb59e1e309c45a959ad44f68e8dd74339382a0569"), looks := false }, kinds := [], alts := [], laidByText := true, laidKinds := [.data, .pinned, .pinned], laidTests := true, laidLooks := .later }
def FnExactNotesTextUptoCardSaid : Prop := Claim7.holds Tryd.pinned (.plain (OpenSpec.upto fnExactNotesTextSpec)) fnExactNotesTextUptoCard

/-- THE SECOND FORM's CARD OF 'laws.FnSalvage'. -/
def fnSalvageUptoCard : Claim7 := { stood := { row := fnSalvageUptoRow, standIns := [], harness := (true, "abd8e8a9dac39337ba73691bb59e1e309c45a959ad44f68e8dd74339382a0569"), looks := false }, kinds := [], alts := [], laidByText := true, laidKinds := [.data, .data, .data, .data, .pinned], laidTests := true, laidLooks := .later }
def FnSalvageUptoCardSaid : Prop := Claim7.holds Tryd.pinned (.plain (OpenSpec.upto fnSalvageSpec)) fnSalvageUptoCard

/-- THE SECOND FORM's CARD OF 'laws.FnExactWordWeight'. -/
def fnExactWordWeightUptoCard : Claim7 := { stood := { row := fnExactWordWeightUptoRow, standIns := [], harness := (true, "abd8e8a9dac39337ba73691bb59e1e309c45a959ad44f68e8dd74339382a0569"), looks := false }, kinds := [], alts := [], laidByText := true, laidKinds := [.data, .pinned, .pinned], laidTests := true, laidLooks := .later }
def FnExactWordWeightUptoCardSaid : Prop := Claim7.holds Tryd.pinned (.plain (OpenSpec.upto fnExactWordWeightSpec)) fnExactWordWeightUptoCard

/-- THE SECOND FORM's CARD OF 'laws.FnExactDropNote'. -/
def fnExactDropNoteUptoCard : Claim7 := { stood := { row := fnExactDropNoteUptoRow, standIns := [], harness := (true, "abd8e8a9dac39337ba73691bb59e1e309c45a959ad44f68e8dd74339382a0569"), looks := false }, kinds := [], alts := [], laidByText := true, laidKinds := [.data, .pinned, .pinned], laidTests := true, laidLooks := .later }
def FnExactDropNoteUptoCardSaid : Prop := Claim7.holds Tryd.pinned (.plain (OpenSpec.upto fnExactDropNoteSpec)) fnExactDropNoteUptoCard

/-- THE SECOND FORM's CARD OF 'laws.FnExactNoteScore'. -/
def fnExactNoteScoreUptoCard : Claim7 := { stood := { row := fnExactNoteScoreUptoRow, standIns := [], harness := (true, "abd8e8a9dac39337ba73691bb59e1e309c45a959ad44f68e8dd74339382a0569"), looks := false }, kinds := [], alts := [], laidByText := true, laidKinds := [.data, .pinned, .pinned], laidTests := true, laidLooks := .later }
def FnExactNoteScoreUptoCardSaid : Prop := Claim7.holds Tryd.pinned (.plain (OpenSpec.upto fnExactNoteScoreSpec)) fnExactNoteScoreUptoCard

/-- THE SECOND FORM's CARD OF 'laws.FnExactNotesWith'. -/
def fnExactNotesWithUptoCard : Claim7 := { stood := { row := fnExactNotesWithUptoRow, standIns := [], harness := (true, "abd8e8a9dac39337ba73691bb59e1e309c45a959ad44f68e8dd74339382a0569"), looks := false }, kinds := [], alts := [], laidByText := true, laidKinds := [.data, .pinned, .pinned], laidTests := true, laidLooks := .later }
def FnExactNotesWithUptoCardSaid : Prop := Claim7.holds Tryd.pinned (.plain (OpenSpec.upto fnExactNotesWithSpec)) fnExactNotesWithUptoCard

/-- THE SECOND FORM's CARD OF 'laws.FnExactUnknownWords'. -/
def fnExactUnknownWordsUptoCard : Claim7 := { stood := { row := fnExactUnknownWordsUptoRow, standIns := [], harness := (true, "abd8e8a9dac39337ba73691bb59e1e309c45a959ad44f68e8dd74339382a0569"), looks := false }, kinds := [], alts := [], laidByText := true, laidKinds := [.data, .pinned, .pinned], laidTests := true, laidLooks := .later }
def FnExactUnknownWordsUptoCardSaid : Prop := Claim7.holds Tryd.pinned (.plain (OpenSpec.upto fnExactUnknownWordsSpec)) fnExactUnknownWordsUptoCard

/-- THE SECOND FORM's CARD OF 'laws.FnExactAddNote'. -/
def fnExactAddNoteUptoCard : Claim7 := { stood := { row := fnExactAddNoteUptoRow, standIns := [], harness := (true, "abd8e8a9dac39337ba73691bb59e1e309c45a959ad44f68e8dd74339382a0569"), looks := false }, kinds := [], alts := [], laidByText := true, laidKinds := [.data, .pinned, .pinned], laidTests := true, laidLooks := .later }
def FnExactAddNoteUptoCardSaid : Prop := Claim7.holds Tryd.pinned (.plain (OpenSpec.upto fnExactAddNoteSpec)) fnExactAddNoteUptoCard

/-- THE SECOND FORM's CARD OF 'laws.FnExactReadNotes'. -/
def fnExactReadNotesUptoCard : Claim7 := { stood := { row := fnExactReadNotesUptoRow, standIns := [], harness := (true, "abd8e8a9dac39337ba73691bb59e1e309c45a959ad44f68e8dd74339382a0569"), looks := false }, kinds := [], alts := [], laidByText := true, laidKinds := [.data, .pinned, .pinned], laidTests := true, laidLooks := .later }
def FnExactReadNotesUptoCardSaid : Prop := Claim7.holds Tryd.pinned (.plain (OpenSpec.upto fnExactReadNotesSpec)) fnExactReadNotesUptoCard

/-- THE SECOND FORM's CARD OF 'laws.FnExactRankNotes'. -/
def fnExactRankNotesUptoCard : Claim7 := { stood := { row := fnExactRankNotesUptoRow, standIns := [], harness := (true, "abd8e8a9dac39337ba73691bb59e1e309c45a959ad44f68e8dd74339382a0569"), looks := false }, kinds := [], alts := [], laidByText := true, laidKinds := [.data, .pinned, .pinned], laidTests := true, laidLooks := .later }
def FnExactRankNotesUptoCardSaid : Prop := Claim7.holds Tryd.pinned (.plain (OpenSpec.upto fnExactRankNotesSpec)) fnExactRankNotesUptoCard
end Rows
end Go.Proofs.YtpleljnhaoejdaaDoor
