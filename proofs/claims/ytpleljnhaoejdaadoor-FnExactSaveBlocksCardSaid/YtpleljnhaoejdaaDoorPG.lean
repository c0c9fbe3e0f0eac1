/-
  Closed facts of the seat's program, more of them.
  No conditions.
-/
import Derived.Test.YtpleljnhaoejdaaDoorRows
import Derived.Test.YtpleljnhaoejdaaDoorChecked
import Derived.ProofKit
import Derived.Stop.Joined
import Derived.SevenTiedAt
set_option linter.unusedVariables false
set_option linter.unusedSimpArgs false
namespace Go.Proofs.YtpleljnhaoejdaaDoor
open Go Go.ChangeShapes Go.WideShapes Go.ChangeAt Go.WideMaps Go.WideElems Go.RowKit
theorem f_main : Tryd.prog.mainIs = some (true, "abd8e8a9dac39337ba73691bb59e1e309c45a959ad44f68e8dd74339382a0569".toList) := by kernel_rfl
theorem f_looks : false = Tryd.prog.looks [] := by kernel_rfl
end Go.Proofs.YtpleljnhaoejdaaDoor
