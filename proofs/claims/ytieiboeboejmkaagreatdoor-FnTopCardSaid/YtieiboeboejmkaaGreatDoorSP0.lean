/-
  Plain laws: a text divided at each occurrence of a byte, and at the first one.
  No conditions.
-/
import Derived.Test.YtieiboeboejmkaaGreatDoorED
set_option linter.unusedVariables false
set_option linter.unusedSimpArgs false
namespace Go.Eng
open Go Go.RowKit

end Go.Eng
