/-
  NARROWER THAN 'FOR EVERY INPUT', by the rows' own cells (each row's printed sentence says how): FnExactSaveBlocks: laid · FnExactWordsOf: laid · FnExactValidNotes: laid · FnExactNotesText: laid · FnSalvage: laid · FnExactWordWeight: laid · FnExactDropNote: laid · FnExactNoteScore: laid · FnExactNotesWith: laid · FnExactUnknownWords: laid · FnExactAddNote: laid · FnExactReadNotes: laid · FnExactRankNotes: laid.
  DERIVED. THE GIVEN ROWS OF THIS SEAT. 13 by the template 'for every input the law returns true; each argument reads behind the call as it read before'; 0 by the template 'total and deterministic' (their statements: YtpleljnhaoejdaaDoorTotals.lean).
  GIVEN WITH THE SEED: the statements are not yours to turn. If you find one false, say at which input.
  Laid BY PROGRAM, IN A SANDBOX (cutbox-rows.mjs): the forced cells as the released guide's own fill.sh prints them over the translation 3f7121d5ff261771… (all of the seat's roots in one cut). By AI agents, Wed Nov 11 2026. No macro, syntax, notation, axiom, sorry.
-/
import Derived.Test.YtpleljnhaoejdaaDoorChecked
import GoSem.PinnedTables
import GoSem.Claim
import GoSem.ClaimJoined
import GoSem.ClaimMapViews
import Derived.JoinedTies
import Derived.KernelRfl
namespace Go.Proofs.YtpleljnhaoejdaaDoor
/- THE CELL 'sum', in the pinned program and in every row, IS THE sha256 OF THE DUMP (.gsa) THAT YtpleljnhaoejdaaDoorProg.lean LOADS. Nothing in Lean hashes anything: it is a label: what it is worth is what the hold of that sum in a sandbox is worth. -/
noncomputable def Tryd.pinned : Pinned := { name := "ytpleljnhaoejdaadoor", sum := "3f7121d5ff26177107bffdc7ff82a8d2a689721de0bc4ef581dcaba0a45d31e4", checked := Tryd.checked }
namespace Rows
def none {H : Type} : Left H := { results := [], args := [] }

/- WHAT THE LISTED PACKAGE-LEVEL VARIABLES READ AS WHEN THE CALL BEGINS. Each datum BY PROGRAM (the guide's laid-datum.mjs) off the statement by which the dump's own 'gosem.cut.vars' lays the variable. In a bare row this is a premise. The card (YtpleljnhaoejdaaDoorCards.lean) ties it to the program's text. -/
def laid_math_bits_deBruijn32tab {H : Type} : DataW H := .agg [.lit (.int .u8 0), .lit (.int .u8 1), .lit (.int .u8 28), .lit (.int .u8 2), .lit (.int .u8 29), .lit (.int .u8 14), .lit (.int .u8 24), .lit (.int .u8 3), .lit (.int .u8 30), .lit (.int .u8 22), .lit (.int .u8 20), .lit (.int .u8 15), .lit (.int .u8 25), .lit (.int .u8 17), .lit (.int .u8 4), .lit (.int .u8 8), .lit (.int .u8 31), .lit (.int .u8 27), .lit (.int .u8 13), .lit (.int .u8 23), .lit (.int .u8 21), .lit (.int .u8 19), .lit (.int .u8 16), .lit (.int .u8 7), .lit (.int .u8 26), .lit (.int .u8 12), .lit (.int .u8 18), .lit (.int .u8 6), .lit (.int .u8 11), .lit (.int .u8 5), .lit (.int .u8 10), .lit (.int .u8 9)]
def laid_math_bits_deBruijn64tab {H : Type} : DataW H := .agg [.lit (.int .u8 0), .lit (.int .u8 1), .lit (.int .u8 56), .lit (.int .u8 2), .lit (.int .u8 57), .lit (.int .u8 49), .lit (.int .u8 28), .lit (.int .u8 3), .lit (.int .u8 61), .lit (.int .u8 58), .lit (.int .u8 42), .lit (.int .u8 50), .lit (.int .u8 38), .lit (.int .u8 29), .lit (.int .u8 17), .lit (.int .u8 4), .lit (.int .u8 62), .lit (.int .u8 47), .lit (.int .u8 59), .lit (.int .u8 36), .lit (.int .u8 45), .lit (.int .u8 43), .lit (.int .u8 51), .lit (.int .u8 22), .lit (.int .u8 53), .lit (.int .u8 39), .lit (.int .u8 33), .lit (.int .u8 30), .lit (.int .u8 24), .lit (.int .u8 18), .lit (.int .u8 12), .lit (.int .u8 5), .lit (.int .u8 63), .lit (.int .u8 55), .lit (.int .u8 48), .lit (.int .u8 27), .lit (.int .u8 60), .lit (.int .u8 41), .lit (.int .u8 37), .lit (.int .u8 16), .lit (.int .u8 46), .lit (.int .u8 35), .lit (.int .u8 44), .lit (.int .u8 21), .lit (.int .u8 52), .lit (.int .u8 32), .lit (.int .u8 23), .lit (.int .u8 11), .lit (.int .u8 54), .lit (.int .u8 26), .lit (.int .u8 40), .lit (.int .u8 15), .lit (.int .u8 34), .lit (.int .u8 20), .lit (.int .u8 31), .lit (.int .u8 10), .lit (.int .u8 25), .lit (.int .u8 14), .lit (.int .u8 19), .lit (.int .u8 9), .lit (.int .u8 13), .lit (.int .u8 8), .lit (.int .u8 7), .lit (.int .u8 6)]
def laid_internal_strconv_uint64pow10 {H : Type} : DataW H := .agg [.lit (.int .u64 1), .lit (.int .u64 10), .lit (.int .u64 100), .lit (.int .u64 1000), .lit (.int .u64 10000), .lit (.int .u64 100000), .lit (.int .u64 1000000), .lit (.int .u64 10000000), .lit (.int .u64 100000000), .lit (.int .u64 1000000000), .lit (.int .u64 10000000000), .lit (.int .u64 100000000000), .lit (.int .u64 1000000000000), .lit (.int .u64 10000000000000), .lit (.int .u64 100000000000000), .lit (.int .u64 1000000000000000), .lit (.int .u64 10000000000000000), .lit (.int .u64 100000000000000000), .lit (.int .u64 1000000000000000000), .lit (.int .u64 10000000000000000000)]
def laid_unicode_utf8_acceptRanges {H : Type} : DataW H := .agg [.agg [.lit (.int .u8 128), .lit (.int .u8 191)], .agg [.lit (.int .u8 160), .lit (.int .u8 191)], .agg [.lit (.int .u8 128), .lit (.int .u8 159)], .agg [.lit (.int .u8 144), .lit (.int .u8 191)], .agg [.lit (.int .u8 128), .lit (.int .u8 143)], .agg [.lit (.int .u8 0), .lit (.int .u8 0)], .agg [.lit (.int .u8 0), .lit (.int .u8 0)], .agg [.lit (.int .u8 0), .lit (.int .u8 0)], .agg [.lit (.int .u8 0), .lit (.int .u8 0)], .agg [.lit (.int .u8 0), .lit (.int .u8 0)], .agg [.lit (.int .u8 0), .lit (.int .u8 0)], .agg [.lit (.int .u8 0), .lit (.int .u8 0)], .agg [.lit (.int .u8 0), .lit (.int .u8 0)], .agg [.lit (.int .u8 0), .lit (.int .u8 0)], .agg [.lit (.int .u8 0), .lit (.int .u8 0)], .agg [.lit (.int .u8 0), .lit (.int .u8 0)]]
/-- One of Go's own tables, pinned by name: the form's constant. -/
def laid_unicode_CaseRanges : DataW Unit := Go.Pinned.caseRanges
/-- One of Go's own tables, pinned by name: the form's constant. -/
def laid_unicode_utf8_first : DataW Unit := Go.Pinned.utf8First

/-- 'laws.FnExactSaveBlocks': WHATEVER THE INPUT: true; the input reads as it did. -/
def fnExactSaveBlocksSpec : ChangeSpec := { name := "fnExactSaveBlocks", fn := fun _ => fun
  | [d] => { results := [.lit (.bool true)], args := [d] }
  | _ => none }
def fnExactSaveBlocksRow : OpenClaim := { program := "ytpleljnhaoejdaadoor", sum := "3f7121d5ff26177107bffdc7ff82a8d2a689721de0bc4ef581dcaba0a45d31e4", func := "loop.example/g00955/laws.FnExactSaveBlocks", spec := "fnExactSaveBlocks", inPlace := ["internal/bytealg.IndexByteString", "internal/bytealg.IndexString", "internal/bytealg.abigen_runtime_cmpstring", "internal/abi.NoEscape"], named := ["internal/bytealg.MaxLen", "internal/strconv.uint64pow10", "math/bits.deBruijn32tab", "math/bits.deBruijn64tab"], apart := false, laid := [("math/bits.deBruijn32tab", laid_math_bits_deBruijn32tab), ("math/bits.deBruijn64tab", laid_math_bits_deBruijn64tab), ("internal/strconv.uint64pow10", laid_internal_strconv_uint64pow10)] }
def FnExactSaveBlocksSaid : Prop := fnExactSaveBlocksRow.holds Tryd.pinned (OpenSpec.ofChange fnExactSaveBlocksSpec)

/-- ITS FALSE NEIGHBOUR: 'it returns false'. Refute it at one input. -/
def fnExactSaveBlocksWrong : ChangeSpec := { name := "fnExactSaveBlocks", fn := fun _ => fun
  | [d] => { results := [.lit (.bool false)], args := [d] }
  | _ => none }
def FnExactSaveBlocksWrongFalsely : Prop := fnExactSaveBlocksRow.holds Tryd.pinned (OpenSpec.ofChange fnExactSaveBlocksWrong)

/-- 'laws.FnExactWordsOf': WHATEVER THE INPUT: true; the input reads as it did. -/
def fnExactWordsOfSpec : ChangeSpec := { name := "fnExactWordsOf", fn := fun _ => fun
  | [d] => { results := [.lit (.bool true)], args := [d] }
  | _ => none }
def fnExactWordsOfRow : OpenClaim := { program := "ytpleljnhaoejdaadoor", sum := "3f7121d5ff26177107bffdc7ff82a8d2a689721de0bc4ef581dcaba0a45d31e4", func := "loop.example/g00955/laws.FnExactWordsOf", spec := "fnExactWordsOf", inPlace := ["internal/abi.NoEscape", "internal/bytealg.MakeNoZero"], unfollowed := true, recurses := true, named := ["unicode/utf8.first", "unicode/utf8.acceptRanges", "unicode.CaseRanges"], apart := false, laid := [("unicode/utf8.acceptRanges", laid_unicode_utf8_acceptRanges), ("unicode.CaseRanges", laid_unicode_CaseRanges), ("unicode/utf8.first", laid_unicode_utf8_first)] }
def FnExactWordsOfSaid : Prop := fnExactWordsOfRow.holds Tryd.pinned (OpenSpec.ofChange fnExactWordsOfSpec)

/-- ITS FALSE NEIGHBOUR: 'it returns false'. Refute it at one input. -/
def fnExactWordsOfWrong : ChangeSpec := { name := "fnExactWordsOf", fn := fun _ => fun
  | [d] => { results := [.lit (.bool false)], args := [d] }
  | _ => none }
def FnExactWordsOfWrongFalsely : Prop := fnExactWordsOfRow.holds Tryd.pinned (OpenSpec.ofChange fnExactWordsOfWrong)

/-- 'laws.FnExactValidNotes': WHATEVER THE INPUT: true; the input reads as it did. -/
def fnExactValidNotesSpec : ChangeSpec := { name := "fnExactValidNotes", fn := fun _ => fun
  | [d] => { results := [.lit (.bool true)], args := [d] }
  | _ => none }
def fnExactValidNotesRow : OpenClaim := { program := "ytpleljnhaoejdaadoor", sum := "3f7121d5ff26177107bffdc7ff82a8d2a689721de0bc4ef581dcaba0a45d31e4", func := "loop.example/g00955/laws.FnExactValidNotes", spec := "fnExactValidNotes", inPlace := ["internal/abi.NoEscape", "internal/bytealg.MakeNoZero"], unfollowed := true, recurses := true, named := ["unicode/utf8.first", "unicode/utf8.acceptRanges", "unicode.CaseRanges"], apart := false, laid := [("unicode/utf8.acceptRanges", laid_unicode_utf8_acceptRanges), ("unicode.CaseRanges", laid_unicode_CaseRanges), ("unicode/utf8.first", laid_unicode_utf8_first)] }
def FnExactValidNotesSaid : Prop := fnExactValidNotesRow.holds Tryd.pinned (OpenSpec.ofChange fnExactValidNotesSpec)

/-- ITS FALSE NEIGHBOUR: 'it returns false'. Refute it at one input. -/
def fnExactValidNotesWrong : ChangeSpec := { name := "fnExactValidNotes", fn := fun _ => fun
  | [d] => { results := [.lit (.bool false)], args := [d] }
  | _ => none }
def FnExactValidNotesWrongFalsely : Prop := fnExactValidNotesRow.holds Tryd.pinned (OpenSpec.ofChange fnExactValidNotesWrong)

/-- 'laws.FnExactNotesText': WHATEVER THE INPUT: true; the input reads as it did. -/
def fnExactNotesTextSpec : ChangeSpec := { name := "fnExactNotesText", fn := fun _ => fun
  | [d] => { results := [.lit (.bool true)], args := [d] }
  | _ => none }
def fnExactNotesTextRow : OpenClaim := { program := "ytpleljnhaoejdaadoor", sum := "3f7121d5ff26177107bffdc7ff82a8d2a689721de0bc4ef581dcaba0a45d31e4", func := "loop.example/g00955/laws.FnExactNotesText", spec := "fnExactNotesText", inPlace := ["internal/abi.NoEscape", "internal/bytealg.MakeNoZero"], unfollowed := true, recurses := true, named := ["unicode/utf8.first", "unicode/utf8.acceptRanges", "unicode.CaseRanges"], apart := false, laid := [("unicode/utf8.acceptRanges", laid_unicode_utf8_acceptRanges), ("unicode.CaseRanges", laid_unicode_CaseRanges), ("unicode/utf8.first", laid_unicode_utf8_first)] }
def FnExactNotesTextSaid : Prop := fnExactNotesTextRow.holds Tryd.pinned (OpenSpec.ofChange fnExactNotesTextSpec)

/-- ITS FALSE NEIGHBOUR: 'it returns false'. Refute it at one input. -/
def fnExactNotesTextWrong : ChangeSpec := { name := "fnExactNotesText", fn := fun _ => fun
  | [d] => { results := [.lit (.bool false)], args := [d] }
  | _ => none }
def FnExactNotesTextWrongFalsely : Prop := fnExactNotesTextRow.holds Tryd.pinned (OpenSpec.ofChange fnExactNotesTextWrong)

/-- 'laws.FnSalvage': WHATEVER THE INPUT: true; the input reads as it did. -/
def fnSalvageSpec : ChangeSpec := { name := "fnSalvage", fn := fun _ => fun
  | [d1, d2] => { results := [.lit (.bool true)], args := [d1, d2] }
  | _ => none }
def fnSalvageRow : OpenClaim := { program := "ytpleljnhaoejdaadoor", sum := "3f7121d5ff26177107bffdc7ff82a8d2a689721de0bc4ef581dcaba0a45d31e4", func := "loop.example/g00955/laws.FnSalvage", spec := "fnSalvage", inPlace := ["internal/bytealg.CountString", "internal/bytealg.IndexByteString", "internal/bytealg.IndexString", "internal/bytealg.abigen_runtime_cmpstring", "slices.overlaps[loop.example/g00955/impl.Block]"], unfollowed := true, recurses := true, named := ["unicode/utf8.first", "unicode/utf8.acceptRanges", "internal/bytealg.MaxLen", "internal/strconv.uint64pow10", "math/bits.deBruijn32tab", "math/bits.deBruijn64tab"], apart := false, laid := [("math/bits.deBruijn32tab", laid_math_bits_deBruijn32tab), ("math/bits.deBruijn64tab", laid_math_bits_deBruijn64tab), ("internal/strconv.uint64pow10", laid_internal_strconv_uint64pow10), ("unicode/utf8.acceptRanges", laid_unicode_utf8_acceptRanges), ("unicode/utf8.first", laid_unicode_utf8_first)] }
def FnSalvageSaid : Prop := fnSalvageRow.holds Tryd.pinned (OpenSpec.ofChange fnSalvageSpec)

/-- ITS FALSE NEIGHBOUR: 'it returns false'. Refute it at one input. -/
def fnSalvageWrong : ChangeSpec := { name := "fnSalvage", fn := fun _ => fun
  | [d1, d2] => { results := [.lit (.bool false)], args := [d1, d2] }
  | _ => none }
def FnSalvageWrongFalsely : Prop := fnSalvageRow.holds Tryd.pinned (OpenSpec.ofChange fnSalvageWrong)

/-- 'laws.FnExactWordWeight': WHATEVER THE INPUT: true; the input reads as it did. -/
def fnExactWordWeightSpec : ChangeSpec := { name := "fnExactWordWeight", fn := fun _ => fun
  | [d1, d2] => { results := [.lit (.bool true)], args := [d1, d2] }
  | _ => none }
def fnExactWordWeightRow : OpenClaim := { program := "ytpleljnhaoejdaadoor", sum := "3f7121d5ff26177107bffdc7ff82a8d2a689721de0bc4ef581dcaba0a45d31e4", func := "loop.example/g00955/laws.FnExactWordWeight", spec := "fnExactWordWeight", inPlace := ["internal/abi.NoEscape", "internal/bytealg.MakeNoZero"], unfollowed := true, recurses := true, named := ["unicode/utf8.first", "unicode/utf8.acceptRanges", "unicode.CaseRanges"], apart := false, laid := [("unicode/utf8.acceptRanges", laid_unicode_utf8_acceptRanges), ("unicode.CaseRanges", laid_unicode_CaseRanges), ("unicode/utf8.first", laid_unicode_utf8_first)] }
def FnExactWordWeightSaid : Prop := fnExactWordWeightRow.holds Tryd.pinned (OpenSpec.ofChange fnExactWordWeightSpec)

/-- ITS FALSE NEIGHBOUR: 'it returns false'. Refute it at one input. -/
def fnExactWordWeightWrong : ChangeSpec := { name := "fnExactWordWeight", fn := fun _ => fun
  | [d1, d2] => { results := [.lit (.bool false)], args := [d1, d2] }
  | _ => none }
def FnExactWordWeightWrongFalsely : Prop := fnExactWordWeightRow.holds Tryd.pinned (OpenSpec.ofChange fnExactWordWeightWrong)

/-- 'laws.FnExactDropNote': WHATEVER THE INPUT: true; the input reads as it did. -/
def fnExactDropNoteSpec : ChangeSpec := { name := "fnExactDropNote", fn := fun _ => fun
  | [d1, d2] => { results := [.lit (.bool true)], args := [d1, d2] }
  | _ => none }
def fnExactDropNoteRow : OpenClaim := { program := "ytpleljnhaoejdaadoor", sum := "3f7121d5ff26177107bffdc7ff82a8d2a689721de0bc4ef581dcaba0a45d31e4", func := "loop.example/g00955/laws.FnExactDropNote", spec := "fnExactDropNote", inPlace := ["internal/abi.NoEscape", "internal/bytealg.MakeNoZero"], unfollowed := true, recurses := true, named := ["unicode/utf8.first", "unicode/utf8.acceptRanges", "unicode.CaseRanges"], apart := false, laid := [("unicode/utf8.acceptRanges", laid_unicode_utf8_acceptRanges), ("unicode.CaseRanges", laid_unicode_CaseRanges), ("unicode/utf8.first", laid_unicode_utf8_first)] }
def FnExactDropNoteSaid : Prop := fnExactDropNoteRow.holds Tryd.pinned (OpenSpec.ofChange fnExactDropNoteSpec)

/-- ITS FALSE NEIGHBOUR: 'it returns false'. Refute it at one input. -/
def fnExactDropNoteWrong : ChangeSpec := { name := "fnExactDropNote", fn := fun _ => fun
  | [d1, d2] => { results := [.lit (.bool false)], args := [d1, d2] }
  | _ => none }
def FnExactDropNoteWrongFalsely : Prop := fnExactDropNoteRow.holds Tryd.pinned (OpenSpec.ofChange fnExactDropNoteWrong)

/-- 'laws.FnExactNoteScore': WHATEVER THE INPUT: true; the input reads as it did. -/
def fnExactNoteScoreSpec : ChangeSpec := { name := "fnExactNoteScore", fn := fun _ => fun
  | [d1, d2, d3] => { results := [.lit (.bool true)], args := [d1, d2, d3] }
  | _ => none }
def fnExactNoteScoreRow : OpenClaim := { program := "ytpleljnhaoejdaadoor", sum := "3f7121d5ff26177107bffdc7ff82a8d2a689721de0bc4ef581dcaba0a45d31e4", func := "loop.example/g00955/laws.FnExactNoteScore", spec := "fnExactNoteScore", inPlace := ["internal/abi.NoEscape", "internal/bytealg.MakeNoZero"], unfollowed := true, recurses := true, named := ["unicode/utf8.first", "unicode/utf8.acceptRanges", "unicode.CaseRanges"], apart := false, laid := [("unicode/utf8.acceptRanges", laid_unicode_utf8_acceptRanges), ("unicode.CaseRanges", laid_unicode_CaseRanges), ("unicode/utf8.first", laid_unicode_utf8_first)] }
def FnExactNoteScoreSaid : Prop := fnExactNoteScoreRow.holds Tryd.pinned (OpenSpec.ofChange fnExactNoteScoreSpec)

/-- ITS FALSE NEIGHBOUR: 'it returns false'. Refute it at one input. -/
def fnExactNoteScoreWrong : ChangeSpec := { name := "fnExactNoteScore", fn := fun _ => fun
  | [d1, d2, d3] => { results := [.lit (.bool false)], args := [d1, d2, d3] }
  | _ => none }
def FnExactNoteScoreWrongFalsely : Prop := fnExactNoteScoreRow.holds Tryd.pinned (OpenSpec.ofChange fnExactNoteScoreWrong)

/-- 'laws.FnExactNotesWith': WHATEVER THE INPUT: true; the input reads as it did. -/
def fnExactNotesWithSpec : ChangeSpec := { name := "fnExactNotesWith", fn := fun _ => fun
  | [d1, d2] => { results := [.lit (.bool true)], args := [d1, d2] }
  | _ => none }
def fnExactNotesWithRow : OpenClaim := { program := "ytpleljnhaoejdaadoor", sum := "3f7121d5ff26177107bffdc7ff82a8d2a689721de0bc4ef581dcaba0a45d31e4", func := "loop.example/g00955/laws.FnExactNotesWith", spec := "fnExactNotesWith", inPlace := ["internal/abi.NoEscape", "internal/bytealg.MakeNoZero"], unfollowed := true, recurses := true, named := ["unicode/utf8.first", "unicode/utf8.acceptRanges", "unicode.CaseRanges"], apart := false, laid := [("unicode/utf8.acceptRanges", laid_unicode_utf8_acceptRanges), ("unicode.CaseRanges", laid_unicode_CaseRanges), ("unicode/utf8.first", laid_unicode_utf8_first)] }
def FnExactNotesWithSaid : Prop := fnExactNotesWithRow.holds Tryd.pinned (OpenSpec.ofChange fnExactNotesWithSpec)

/-- ITS FALSE NEIGHBOUR: 'it returns false'. Refute it at one input. -/
def fnExactNotesWithWrong : ChangeSpec := { name := "fnExactNotesWith", fn := fun _ => fun
  | [d1, d2] => { results := [.lit (.bool false)], args := [d1, d2] }
  | _ => none }
def FnExactNotesWithWrongFalsely : Prop := fnExactNotesWithRow.holds Tryd.pinned (OpenSpec.ofChange fnExactNotesWithWrong)

/-- 'laws.FnExactUnknownWords': WHATEVER THE INPUT: true; the input reads as it did. -/
def fnExactUnknownWordsSpec : ChangeSpec := { name := "fnExactUnknownWords", fn := fun _ => fun
  | [d1, d2] => { results := [.lit (.bool true)], args := [d1, d2] }
  | _ => none }
def fnExactUnknownWordsRow : OpenClaim := { program := "ytpleljnhaoejdaadoor", sum := "3f7121d5ff26177107bffdc7ff82a8d2a689721de0bc4ef581dcaba0a45d31e4", func := "loop.example/g00955/laws.FnExactUnknownWords", spec := "fnExactUnknownWords", inPlace := ["internal/abi.NoEscape", "internal/bytealg.MakeNoZero"], unfollowed := true, recurses := true, named := ["unicode/utf8.first", "unicode/utf8.acceptRanges", "unicode.CaseRanges"], apart := false, laid := [("unicode/utf8.acceptRanges", laid_unicode_utf8_acceptRanges), ("unicode.CaseRanges", laid_unicode_CaseRanges), ("unicode/utf8.first", laid_unicode_utf8_first)] }
def FnExactUnknownWordsSaid : Prop := fnExactUnknownWordsRow.holds Tryd.pinned (OpenSpec.ofChange fnExactUnknownWordsSpec)

/-- ITS FALSE NEIGHBOUR: 'it returns false'. Refute it at one input. -/
def fnExactUnknownWordsWrong : ChangeSpec := { name := "fnExactUnknownWords", fn := fun _ => fun
  | [d1, d2] => { results := [.lit (.bool false)], args := [d1, d2] }
  | _ => none }
def FnExactUnknownWordsWrongFalsely : Prop := fnExactUnknownWordsRow.holds Tryd.pinned (OpenSpec.ofChange fnExactUnknownWordsWrong)

/-- 'laws.FnExactAddNote': WHATEVER THE INPUT: true; the input reads as it did. -/
def fnExactAddNoteSpec : ChangeSpec := { name := "fnExactAddNote", fn := fun _ => fun
  | [d1, d2] => { results := [.lit (.bool true)], args := [d1, d2] }
  | _ => none }
def fnExactAddNoteRow : OpenClaim := { program := "ytpleljnhaoejdaadoor", sum := "3f7121d5ff26177107bffdc7ff82a8d2a689721de0bc4ef581dcaba0a45d31e4", func := "loop.example/g00955/laws.FnExactAddNote", spec := "fnExactAddNote", inPlace := ["internal/abi.NoEscape", "internal/bytealg.MakeNoZero", "slices.overlaps[loop.example/g00955/impl.Note]"], unfollowed := true, recurses := true, named := ["unicode/utf8.first", "unicode/utf8.acceptRanges", "unicode.CaseRanges"], apart := false, laid := [("unicode/utf8.acceptRanges", laid_unicode_utf8_acceptRanges), ("unicode.CaseRanges", laid_unicode_CaseRanges), ("unicode/utf8.first", laid_unicode_utf8_first)] }
def FnExactAddNoteSaid : Prop := fnExactAddNoteRow.holds Tryd.pinned (OpenSpec.ofChange fnExactAddNoteSpec)

/-- ITS FALSE NEIGHBOUR: 'it returns false'. Refute it at one input. -/
def fnExactAddNoteWrong : ChangeSpec := { name := "fnExactAddNote", fn := fun _ => fun
  | [d1, d2] => { results := [.lit (.bool false)], args := [d1, d2] }
  | _ => none }
def FnExactAddNoteWrongFalsely : Prop := fnExactAddNoteRow.holds Tryd.pinned (OpenSpec.ofChange fnExactAddNoteWrong)

/-- 'laws.FnExactReadNotes': WHATEVER THE INPUT: true; the input reads as it did. -/
def fnExactReadNotesSpec : ChangeSpec := { name := "fnExactReadNotes", fn := fun _ => fun
  | [d] => { results := [.lit (.bool true)], args := [d] }
  | _ => none }
def fnExactReadNotesRow : OpenClaim := { program := "ytpleljnhaoejdaadoor", sum := "3f7121d5ff26177107bffdc7ff82a8d2a689721de0bc4ef581dcaba0a45d31e4", func := "loop.example/g00955/laws.FnExactReadNotes", spec := "fnExactReadNotes", inPlace := ["internal/bytealg.CountString", "internal/bytealg.IndexByteString", "internal/bytealg.IndexString", "internal/abi.NoEscape", "internal/bytealg.MakeNoZero"], unfollowed := true, recurses := true, named := ["unicode/utf8.first", "unicode/utf8.acceptRanges", "internal/bytealg.MaxLen", "unicode.CaseRanges"], apart := false, laid := [("unicode/utf8.acceptRanges", laid_unicode_utf8_acceptRanges), ("unicode.CaseRanges", laid_unicode_CaseRanges), ("unicode/utf8.first", laid_unicode_utf8_first)] }
def FnExactReadNotesSaid : Prop := fnExactReadNotesRow.holds Tryd.pinned (OpenSpec.ofChange fnExactReadNotesSpec)

/-- ITS FALSE NEIGHBOUR: 'it returns false'. Refute it at one input. -/
def fnExactReadNotesWrong : ChangeSpec := { name := "fnExactReadNotes", fn := fun _ => fun
  | [d] => { results := [.lit (.bool false)], args := [d] }
  | _ => none }
def FnExactReadNotesWrongFalsely : Prop := fnExactReadNotesRow.holds Tryd.pinned (OpenSpec.ofChange fnExactReadNotesWrong)

/-- 'laws.FnExactRankNotes': WHATEVER THE INPUT: true; the input reads as it did. -/
def fnExactRankNotesSpec : ChangeSpec := { name := "fnExactRankNotes", fn := fun _ => fun
  | [d1, d2] => { results := [.lit (.bool true)], args := [d1, d2] }
  | _ => none }
def fnExactRankNotesRow : OpenClaim := { program := "ytpleljnhaoejdaadoor", sum := "3f7121d5ff26177107bffdc7ff82a8d2a689721de0bc4ef581dcaba0a45d31e4", func := "loop.example/g00955/laws.FnExactRankNotes", spec := "fnExactRankNotes", inPlace := ["internal/abi.NoEscape", "internal/bytealg.MakeNoZero"], unfollowed := true, recurses := true, named := ["unicode/utf8.first", "unicode/utf8.acceptRanges", "unicode.CaseRanges"], apart := false, laid := [("unicode/utf8.acceptRanges", laid_unicode_utf8_acceptRanges), ("unicode.CaseRanges", laid_unicode_CaseRanges), ("unicode/utf8.first", laid_unicode_utf8_first)] }
def FnExactRankNotesSaid : Prop := fnExactRankNotesRow.holds Tryd.pinned (OpenSpec.ofChange fnExactRankNotesSpec)

/-- ITS FALSE NEIGHBOUR: 'it returns false'. Refute it at one input. -/
def fnExactRankNotesWrong : ChangeSpec := { name := "fnExactRankNotes", fn := fun _ => fun
  | [d1, d2] => { results := [.lit (.bool false)], args := [d1, d2] }
  | _ => none }
def FnExactRankNotesWrongFalsely : Prop := fnExactRankNotesRow.holds Tryd.pinned (OpenSpec.ofChange fnExactRankNotesWrong)

/- THE SECOND FORM. 'bulk': how many values and letters a reading holds, each counted each time it is reached (what is shared counts as often as it is met; a slice's spare places count too). A statement '..UptoSaid' is the law's where the arguments, and the package variables that the reading takes, are together of bulk at most 1048576: NARROWER than '..Said'. Prove '..Said' where nothing that the law and all that it calls make is longer than what came in: it says more and counts as full. Else prove '..UptoSaid'. A law counts once. -/
mutual
def uptoBulk {H : Type} : DataW H → Nat
  | .lit (.string bytes) => bytes.length + 1
  | .lit _ => 1
  | .nil => 1
  | .ptr d => uptoBulk d + 1
  | .slice elems spare => uptoBulkAll elems + uptoBulkAll spare + 1
  | .agg parts => uptoBulkAll parts + 1
  | .iface _ d => uptoBulk d + 1
  | .map entries => uptoBulkEntries entries + 1
  | .held _ => 1
def uptoBulkAll {H : Type} : List (DataW H) → Nat
  | [] => 0
  | d :: r => uptoBulk d + uptoBulkAll r
def uptoBulkEntries {H : Type} : List (Lit × DataW H) → Nat
  | [] => 0
  | x :: r => uptoBulkEntry x + uptoBulkEntries r
def uptoBulkEntry {H : Type} : Lit × DataW H → Nat
  | (.string bytes, d) => bytes.length + uptoBulk d + 1
  | (_, d) => uptoBulk d + 1
 end
def uptoSmall : (H : Type) → List (DataW H) → Bool := fun _ ds => decide (uptoBulkAll ds ≤ 1048576)
def OpenSpec.upto (s : _root_.Go.ChangeSpec) : _root_.Go.OpenSpec := { _root_.Go.OpenSpec.ofChange s with cond := some uptoSmall }

/-- 'laws.FnExactSaveBlocks', WHERE WHAT IT READS IS OF BULK AT MOST 1048576: true; the input reads as it did. -/
def fnExactSaveBlocksUptoRow : OpenClaim := { program := "ytpleljnhaoejdaadoor", sum := "3f7121d5ff26177107bffdc7ff82a8d2a689721de0bc4ef581dcaba0a45d31e4", func := "loop.example/g00955/laws.FnExactSaveBlocks", spec := "fnExactSaveBlocks", inPlace := ["internal/bytealg.IndexByteString", "internal/bytealg.IndexString", "internal/bytealg.abigen_runtime_cmpstring", "internal/abi.NoEscape"], named := ["internal/bytealg.MaxLen", "internal/strconv.uint64pow10", "math/bits.deBruijn32tab", "math/bits.deBruijn64tab"], apart := false, laid := [("math/bits.deBruijn32tab", laid_math_bits_deBruijn32tab), ("math/bits.deBruijn64tab", laid_math_bits_deBruijn64tab), ("internal/strconv.uint64pow10", laid_internal_strconv_uint64pow10)], narrowed := true }
def FnExactSaveBlocksUptoSaid : Prop := fnExactSaveBlocksUptoRow.holds Tryd.pinned (OpenSpec.upto fnExactSaveBlocksSpec)

/-- 'laws.FnExactWordsOf', WHERE WHAT IT READS IS OF BULK AT MOST 1048576: true; the input reads as it did. -/
def fnExactWordsOfUptoRow : OpenClaim := { program := "ytpleljnhaoejdaadoor", sum := "3f7121d5ff26177107bffdc7ff82a8d2a689721de0bc4ef581dcaba0a45d31e4", func := "loop.example/g00955/laws.FnExactWordsOf", spec := "fnExactWordsOf", inPlace := ["internal/abi.NoEscape", "internal/bytealg.MakeNoZero"], unfollowed := true, recurses := true, named := ["unicode/utf8.first", "unicode/utf8.acceptRanges", "unicode.CaseRanges"], apart := false, laid := [("unicode/utf8.acceptRanges", laid_unicode_utf8_acceptRanges), ("unicode.CaseRanges", laid_unicode_CaseRanges), ("unicode/utf8.first", laid_unicode_utf8_first)], narrowed := true }
def FnExactWordsOfUptoSaid : Prop := fnExactWordsOfUptoRow.holds Tryd.pinned (OpenSpec.upto fnExactWordsOfSpec)

/-- 'laws.FnExactValidNotes', WHERE WHAT IT READS IS OF BULK AT MOST 1048576: true; the input reads as it did. -/
def fnExactValidNotesUptoRow : OpenClaim := { program := "ytpleljnhaoejdaadoor", sum := "3f7121d5ff26177107bffdc7ff82a8d2a689721de0bc4ef581dcaba0a45d31e4", func := "loop.example/g00955/laws.FnExactValidNotes", spec := "fnExactValidNotes", inPlace := ["internal/abi.NoEscape", "internal/bytealg.MakeNoZero"], unfollowed := true, recurses := true, named := ["unicode/utf8.first", "unicode/utf8.acceptRanges", "unicode.CaseRanges"], apart := false, laid := [("unicode/utf8.acceptRanges", laid_unicode_utf8_acceptRanges), ("unicode.CaseRanges", laid_unicode_CaseRanges), ("unicode/utf8.first", laid_unicode_utf8_first)], narrowed := true }
def FnExactValidNotesUptoSaid : Prop := fnExactValidNotesUptoRow.holds Tryd.pinned (OpenSpec.upto fnExactValidNotesSpec)

/-- 'laws.FnExactNotesText', WHERE WHAT IT READS IS OF BULK AT MOST 1048576: true; the input reads as it did. -/
def fnExactNotesTextUptoRow : OpenClaim := { program := "ytpleljnhaoejdaadoor", sum := "3f7121d5ff26177107bffdc7ff82a8d2a689721de0bc4ef581dcaba0a45d31e4", func := "loop.example/g00955/laws.FnExactNotesText", spec := "fnExactNotesText", inPlace := ["internal/abi.NoEscape", "internal/bytealg.MakeNoZero"], unfollowed := true, recurses := true, named := ["unicode/utf8.first", "unicode/utf8.acceptRanges", "unicode.CaseRanges"], apart := false, laid := [("unicode/utf8.acceptRanges", laid_unicode_utf8_acceptRanges), ("unicode.CaseRanges", laid_unicode_CaseRanges), ("unicode/utf8.first", laid_unicode_utf8_first)], narrowed := true }
def FnExactNotesTextUptoSaid : Prop := fnExactNotesTextUptoRow.holds Tryd.pinned (OpenSpec.upto fnExactNotesTextSpec)

/-- 'laws.FnSalvage', WHERE WHAT IT READS IS OF BULK AT MOST 1048576: true; the input reads as it did. -/
def fnSalvageUptoRow : OpenClaim := { program := "ytpleljnhaoejdaadoor", sum := "3f7121d5ff26177107bffdc7ff82a8d2a689721de0bc4ef581dcaba0a45d31e4", func := "loop.example/g00955/laws.FnSalvage", spec := "fnSalvage", inPlace := ["internal/bytealg.CountString", "internal/bytealg.IndexByteString", "internal/bytealg.IndexString", "internal/bytealg.abigen_runtime_cmpstring", "slices.overlaps[loop.example/g00955/impl.Block]"], unfollowed := true, recurses := true, named := ["unicode/utf8.first", "unicode/utf8.acceptRanges", "internal/bytealg.MaxLen", "internal/strconv.uint64pow10", "math/bits.deBruijn32tab", "math/bits.deBruijn64tab"], apart := false, laid := [("math/bits.deBruijn32tab", laid_math_bits_deBruijn32tab), ("math/bits.deBruijn64tab", laid_math_bits_deBruijn64tab), ("internal/strconv.uint64pow10", laid_internal_strconv_uint64pow10), ("unicode/utf8.acceptRanges", laid_unicode_utf8_acceptRanges), ("unicode/utf8.first", laid_unicode_utf8_first)], narrowed := true }
def FnSalvageUptoSaid : Prop := fnSalvageUptoRow.holds Tryd.pinned (OpenSpec.upto fnSalvageSpec)

/-- 'laws.FnExactWordWeight', WHERE WHAT IT READS IS OF BULK AT MOST 1048576: true; the input reads as it did. -/
def fnExactWordWeightUptoRow : OpenClaim := { program := "ytpleljnhaoejdaadoor", sum := "3f7121d5ff26177107bffdc7ff82a8d2a689721de0bc4ef581dcaba0a45d31e4", func := "loop.example/g00955/laws.FnExactWordWeight", spec := "fnExactWordWeight", inPlace := ["internal/abi.NoEscape", "internal/bytealg.MakeNoZero"], unfollowed := true, recurses := true, named := ["unicode/utf8.first", "unicode/utf8.acceptRanges", "unicode.CaseRanges"], apart := false, laid := [("unicode/utf8.acceptRanges", laid_unicode_utf8_acceptRanges), ("unicode.CaseRanges", laid_unicode_CaseRanges), ("unicode/utf8.first", laid_unicode_utf8_first)], narrowed := true }
def FnExactWordWeightUptoSaid : Prop := fnExactWordWeightUptoRow.holds Tryd.pinned (OpenSpec.upto fnExactWordWeightSpec)

/-- 'laws.FnExactDropNote', WHERE WHAT IT READS IS OF BULK AT MOST 1048576: true; the input reads as it did. -/
def fnExactDropNoteUptoRow : OpenClaim := { program := "ytpleljnhaoejdaadoor", sum := "3f7121d5ff26177107bffdc7ff82a8d2a689721de0bc4ef581dcaba0a45d31e4", func := "loop.example/g00955/laws.FnExactDropNote", spec := "fnExactDropNote", inPlace := ["internal/abi.NoEscape", "internal/bytealg.MakeNoZero"], unfollowed := true, recurses := true, named := ["unicode/utf8.first", "unicode/utf8.acceptRanges", "unicode.CaseRanges"], apart := false, laid := [("unicode/utf8.acceptRanges", laid_unicode_utf8_acceptRanges), ("unicode.CaseRanges", laid_unicode_CaseRanges), ("unicode/utf8.first", laid_unicode_utf8_first)], narrowed := true }
def FnExactDropNoteUptoSaid : Prop := fnExactDropNoteUptoRow.holds Tryd.pinned (OpenSpec.upto fnExactDropNoteSpec)

/-- 'laws.FnExactNoteScore', WHERE WHAT IT READS IS OF BULK AT MOST 1048576: true; the input reads as it did. -/
def fnExactNoteScoreUptoRow : OpenClaim := { program := "ytpleljnhaoejdaadoor", sum := "3f7121d5ff26177107bffdc7ff82a8d2a689721de0bc4ef581dcaba0a45d31e4", func := "loop.example/g00955/laws.FnExactNoteScore", spec := "fnExactNoteScore", inPlace := ["internal/abi.NoEscape", "internal/bytealg.MakeNoZero"], unfollowed := true, recurses := true, named := ["unicode/utf8.first", "unicode/utf8.acceptRanges", "unicode.CaseRanges"], apart := false, laid := [("unicode/utf8.acceptRanges", laid_unicode_utf8_acceptRanges), ("unicode.CaseRanges", laid_unicode_CaseRanges), ("unicode/utf8.first", laid_unicode_utf8_first)], narrowed := true }
def FnExactNoteScoreUptoSaid : Prop := fnExactNoteScoreUptoRow.holds Tryd.pinned (OpenSpec.upto fnExactNoteScoreSpec)

/-- 'laws.FnExactNotesWith', WHERE WHAT IT READS IS OF BULK AT MOST 1048576: true; the input reads as it did. -/
def fnExactNotesWithUptoRow : OpenClaim := { program := "ytpleljnhaoejdaadoor", sum := "3f7121d5ff26177107bffdc7ff82a8d2a689721de0bc4ef581dcaba0a45d31e4", func := "loop.example/g00955/laws.FnExactNotesWith", spec := "fnExactNotesWith", inPlace := ["internal/abi.NoEscape", "internal/bytealg.MakeNoZero"], unfollowed := true, recurses := true, named := ["unicode/utf8.first", "unicode/utf8.acceptRanges", "unicode.CaseRanges"], apart := false, laid := [("unicode/utf8.acceptRanges", laid_unicode_utf8_acceptRanges), ("unicode.CaseRanges", laid_unicode_CaseRanges), ("unicode/utf8.first", laid_unicode_utf8_first)], narrowed := true }
def FnExactNotesWithUptoSaid : Prop := fnExactNotesWithUptoRow.holds Tryd.pinned (OpenSpec.upto fnExactNotesWithSpec)

/-- 'laws.FnExactUnknownWords', WHERE WHAT IT READS IS OF BULK AT MOST 1048576: true; the input reads as it did. -/
def fnExactUnknownWordsUptoRow : OpenClaim := { program := "ytpleljnhaoejdaadoor", sum := "3f7121d5ff26177107bffdc7ff82a8d2a689721de0bc4ef581dcaba0a45d31e4", func := "loop.example/g00955/laws.FnExactUnknownWords", spec := "fnExactUnknownWords", inPlace := ["internal/abi.NoEscape", "internal/bytealg.MakeNoZero"], unfollowed := true, recurses := true, named := ["unicode/utf8.first", "unicode/utf8.acceptRanges", "unicode.CaseRanges"], apart := false, laid := [("unicode/utf8.acceptRanges", laid_unicode_utf8_acceptRanges), ("unicode.CaseRanges", laid_unicode_CaseRanges), ("unicode/utf8.first", laid_unicode_utf8_first)], narrowed := true }
def FnExactUnknownWordsUptoSaid : Prop := fnExactUnknownWordsUptoRow.holds Tryd.pinned (OpenSpec.upto fnExactUnknownWordsSpec)

/-- 'laws.FnExactAddNote', WHERE WHAT IT READS IS OF BULK AT MOST 1048576: true; the input reads as it did. -/
def fnExactAddNoteUptoRow : OpenClaim := { program := "ytpleljnhaoejdaadoor", sum := "3f7121d5ff26177107bffdc7ff82a8d2a689721de0bc4ef581dcaba0a45d31e4", func := "loop.example/g00955/laws.FnExactAddNote", spec := "fnExactAddNote", inPlace := ["internal/abi.NoEscape", "internal/bytealg.MakeNoZero", "slices.overlaps[loop.example/g00955/impl.Note]"], unfollowed := true, recurses := true, named := ["unicode/utf8.first", "unicode/utf8.acceptRanges", "unicode.CaseRanges"], apart := false, laid := [("unicode/utf8.acceptRanges", laid_unicode_utf8_acceptRanges), ("unicode.CaseRanges", laid_unicode_CaseRanges), ("unicode/utf8.first", laid_unicode_utf8_first)], narrowed := true }
def FnExactAddNoteUptoSaid : Prop := fnExactAddNoteUptoRow.holds Tryd.pinned (OpenSpec.upto fnExactAddNoteSpec)

/-- 'laws.FnExactReadNotes', WHERE WHAT IT READS IS OF BULK AT MOST 1048576: true; the input reads as it did. -/
def fnExactReadNotesUptoRow : OpenClaim := { program := "ytpleljnhaoejdaadoor", sum := "3f7121d5ff26177107bffdc7ff82a8d2a689721de0bc4ef581dcaba0a45d31e4", func := "loop.example/g00955/laws.FnExactReadNotes", spec := "fnExactReadNotes", inPlace := ["internal/bytealg.CountString", "internal/bytealg.IndexByteString", "internal/bytealg.IndexString", "internal/abi.NoEscape", "internal/bytealg.MakeNoZero"], unfollowed := true, recurses := true, named := ["unicode/utf8.first", "unicode/utf8.acceptRanges", "internal/bytealg.MaxLen", "unicode.CaseRanges"], apart := false, laid := [("unicode/utf8.acceptRanges", laid_unicode_utf8_acceptRanges), ("unicode.CaseRanges", laid_unicode_CaseRanges), ("unicode/utf8.first", laid_unicode_utf8_first)], narrowed := true }
def FnExactReadNotesUptoSaid : Prop := fnExactReadNotesUptoRow.holds Tryd.pinned (OpenSpec.upto fnExactReadNotesSpec)

/-- 'laws.FnExactRankNotes', WHERE WHAT IT READS IS OF BULK AT MOST 1048576: true; the input reads as it did. -/
def fnExactRankNotesUptoRow : OpenClaim := { program := "ytpleljnhaoejdaadoor", sum := "3f7121d5ff26177107bffdc7ff82a8d2a689721de0bc4ef581dcaba0a45d31e4", func := "loop.example/g00955/laws.FnExactRankNotes", spec := "fnExactRankNotes", inPlace := ["internal/abi.NoEscape", "internal/bytealg.MakeNoZero"], unfollowed := true, recurses := true, named := ["unicode/utf8.first", "unicode/utf8.acceptRanges", "unicode.CaseRanges"], apart := false, laid := [("unicode/utf8.acceptRanges", laid_unicode_utf8_acceptRanges), ("unicode.CaseRanges", laid_unicode_CaseRanges), ("unicode/utf8.first", laid_unicode_utf8_first)], narrowed := true }
def FnExactRankNotesUptoSaid : Prop := fnExactRankNotesUptoRow.holds Tryd.pinned (OpenSpec.upto fnExactRankNotesSpec)

end Rows
end Go.Proofs.YtpleljnhaoejdaaDoor
