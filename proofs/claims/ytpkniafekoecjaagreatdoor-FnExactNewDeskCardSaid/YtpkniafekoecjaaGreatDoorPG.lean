/-
  Closed facts of the seat's program, more of them.
  No conditions.
-/
import Derived.Test.YtpkniafekoecjaaGreatDoorRows
import Derived.Test.YtpkniafekoecjaaGreatDoorChecked
import Derived.ProofKit
import Derived.Stop.Joined
import Derived.SevenTiedAt
set_option linter.unusedVariables false
set_option linter.unusedSimpArgs false
namespace Go.Proofs.YtpkniafekoecjaaGreatDoor
open Go Go.ChangeShapes Go.WideShapes Go.ChangeAt Go.WideMaps Go.WideElems Go.RowKit
theorem f_main : Tryz.prog.mainIs = some (true, "fe9ba87416a6368f3f2829743b288d67b141afcc601b9c3322e2b8ee78bc0e39".toList) := by kernel_rfl
theorem f_looks : true = Tryz.prog.looks [] := by kernel_rfl
end Go.Proofs.YtpkniafekoecjaaGreatDoor
