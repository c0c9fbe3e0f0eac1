/-
  Closed facts of the seat's program, more of them.
  No conditions.
-/
import Derived.Test.YtlkjechbejfnhaaGreatDoorRows
import Derived.Test.YtlkjechbejfnhaaGreatDoorChecked
import Derived.ProofKit
import Derived.Stop.Joined
import Derived.SevenTiedAt
set_option linter.unusedVariables false
set_option linter.unusedSimpArgs false
namespace Go.Proofs.YtlkjechbejfnhaaGreatDoor
open Go Go.ChangeShapes Go.WideShapes Go.ChangeAt Go.WideMaps Go.WideElems Go.RowKit
theorem f_main : Tryz.prog.mainIs = some (true, "d3bece393a5e94225d6fc76cc99bf5e3452a6ba7b817dbc85866b1ae31c9d740".toList) := by kernel_rfl
theorem f_looks : true = Tryz.prog.looks [] := by kernel_rfl
end Go.Proofs.YtlkjechbejfnhaaGreatDoor
