/-
  Blocks dropped.
  No conditions.
-/
import Derived.Test.YtpleljnhaoejdaaDoorEC
import Derived.Test.YtpleljnhaoejdaaDoorB2
set_option linter.unusedVariables false
set_option linter.unusedSimpArgs false
namespace Go.Eng
open Go Go.RowKit Go.Proofs
set_option maxRecDepth 100000
end Go.Eng
