/-
  Contracts of functions of the program and of the reference, and plain laws: a bundle of texts.
  No conditions.
-/
import Derived.Test.YtieiboeboejmkaaGreatDoorED
import Derived.Test.YtieiboeboejmkaaGreatDoorDR1
import Derived.Test.YtieiboeboejmkaaGreatDoorDT
import Derived.Test.YtieiboeboejmkaaGreatDoorAX
import Derived.Test.YtieiboeboejmkaaGreatDoorTX
import Derived.Test.YtieiboeboejmkaaGreatDoorSP1
set_option linter.unusedVariables false
set_option linter.unusedSimpArgs false
set_option maxHeartbeats 4000000
namespace Go.Eng
open Go Go.RowKit Go.Proofs
set_option maxRecDepth 100000
def srcO (code : List UInt8) (q : Int × Int) : Obj := .box [.sl 1 (code.map byteE), .int .i64 q.1, .int .u64 q.2]
end Go.Eng

namespace Go.Eng
open Go Go.RowKit Go.Proofs
set_option maxRecDepth 100000
end Go.Eng
