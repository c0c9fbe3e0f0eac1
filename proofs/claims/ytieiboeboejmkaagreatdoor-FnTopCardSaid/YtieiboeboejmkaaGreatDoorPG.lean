/-
  Closed facts of the seat's program, more of them.
  No conditions.
-/
import Derived.Test.YtieiboeboejmkaaGreatDoorRows
import Derived.Test.YtieiboeboejmkaaGreatDoorChecked
import Derived.ProofKit
import Derived.Stop.Joined
import Derived.SevenTiedAt
set_option linter.unusedVariables false
set_option linter.unusedSimpArgs false
namespace Go.Proofs.YtieiboeboejmkaaGreatDoor
open Go Go.ChangeShapes Go.WideShapes Go.ChangeAt Go.WideMaps Go.WideElems Go.RowKit
theorem f_main : Tryz.prog.mainIs = some (true, "5c5989d885cac9a2a98694f0c4ce4a16a7b01362ebbef6456930f7214f9e7b6b".toList) := by kernel_rfl
theorem f_looks : false = Tryz.prog.looks [] := by kernel_rfl
end Go.Proofs.YtieiboeboejmkaaGreatDoor
