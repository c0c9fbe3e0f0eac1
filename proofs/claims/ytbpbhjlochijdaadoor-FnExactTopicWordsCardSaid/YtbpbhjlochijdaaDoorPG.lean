/-
  Closed facts of the seat's program, more of them.
  No conditions.
-/
import Derived.Test.YtbpbhjlochijdaaDoorRows
import Derived.Test.YtbpbhjlochijdaaDoorChecked
import Derived.ProofKit
import Derived.Stop.Joined
import Derived.SevenTiedAt
set_option linter.unusedVariables false
set_option linter.unusedSimpArgs false
namespace Go.Proofs.YtbpbhjlochijdaaDoor
open Go Go.ChangeShapes Go.WideShapes Go.ChangeAt Go.WideMaps Go.WideElems Go.RowKit
theorem f_main : Tryd.prog.mainIs = some (true, "d49123f4c0eb8564b088493bc211969c6647daa9241c44fea6f077524014869d".toList) := by kernel_rfl
theorem f_looks : false = Tryd.prog.looks [] := by kernel_rfl
end Go.Proofs.YtbpbhjlochijdaaDoor
