/-
  Closed facts of the seat's program, more of them.
  No conditions.
-/
import Derived.Test.YtigdnelbanaieaaGreatDoorRows
import Derived.Test.YtigdnelbanaieaaGreatDoorChecked
import Derived.ProofKit
import Derived.Stop.Joined
import Derived.SevenTiedAt
set_option linter.unusedVariables false
set_option linter.unusedSimpArgs false
namespace Go.Proofs.YtigdnelbanaieaaGreatDoor
open Go Go.ChangeShapes Go.WideShapes Go.ChangeAt Go.WideMaps Go.WideElems Go.RowKit
theorem f_main : Tryz.prog.mainIs = some (true, "caafab46dda20c949aaa177730065b95ff85f3dfe961ba62ced6596ba136bb70".toList) := by kernel_rfl
theorem f_looks : false = Tryz.prog.looks [] := by kernel_rfl
end Go.Proofs.YtigdnelbanaieaaGreatDoor
