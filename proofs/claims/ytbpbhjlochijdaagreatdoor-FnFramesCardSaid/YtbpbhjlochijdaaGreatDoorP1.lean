/-
  Marks of texts, lists of numbers and of texts: what the scaffolding functions do.
  No conditions.
-/
import Derived.Test.YtbpbhjlochijdaaGreatDoorEC
import Derived.Test.YtbpbhjlochijdaaGreatDoorProg
set_option linter.unusedVariables false
set_option linter.unusedSimpArgs false
namespace Go.Eng
open Go Go.RowKit Go.Proofs
set_option maxRecDepth 100000

end Go.Eng
