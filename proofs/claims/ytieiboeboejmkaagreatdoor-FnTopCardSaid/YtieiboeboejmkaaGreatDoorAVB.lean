/-
  Contracts of functions of the program and of the reference, and plain laws: a bundle of texts.
  No conditions.
-/
import Derived.Test.YtieiboeboejmkaaGreatDoorED
import Derived.Test.YtieiboeboejmkaaGreatDoorMF0
import Derived.Test.YtieiboeboejmkaaGreatDoorW1
import Derived.Test.YtieiboeboejmkaaGreatDoorP1
import Derived.Test.YtieiboeboejmkaaGreatDoorAU
set_option linter.unusedVariables false
set_option linter.unusedSimpArgs false
set_option maxHeartbeats 4000000
namespace Go.Eng
open Go Go.RowKit Go.Proofs
set_option maxRecDepth 100000
end Go.Eng

namespace Go.Eng
open Go Go.RowKit Go.Proofs
set_option maxRecDepth 100000
end Go.Eng
