/-
  The angle of a direction, by the reference.
  No conditions.
-/
import Derived.Test.YtaijhjhhpdkhcaaGreatDoorA6
set_option linter.unusedVariables false
set_option linter.unusedSimpArgs false
namespace Go.Eng
open Go Go.RowKit Go.Proofs
set_option maxRecDepth 100000
end Go.Eng
