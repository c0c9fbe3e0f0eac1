/-
  Names, and blocks that are valid: the contracts of the program's functions and of the reference's.
  No conditions.
-/
import Derived.Test.YtocoppijdodffaaGreatDoorV0
import Derived.Test.YtocoppijdodffaaGreatDoorTX
set_option linter.unusedVariables false
set_option linter.unusedSimpArgs false
namespace Go.Eng
open Go Go.RowKit Go.Proofs
set_option maxRecDepth 100000
end Go.Eng
