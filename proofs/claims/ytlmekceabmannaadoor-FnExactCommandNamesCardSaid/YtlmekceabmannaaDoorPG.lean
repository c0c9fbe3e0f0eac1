/-
  Closed facts of the seat's program, more of them.
  No conditions.
-/
import Derived.Test.YtlmekceabmannaaDoorRows
import Derived.Test.YtlmekceabmannaaDoorChecked
import Derived.ProofKit
import Derived.Stop.Joined
import Derived.SevenTiedAt
set_option linter.unusedVariables false
set_option linter.unusedSimpArgs false
namespace Go.Proofs.YtlmekceabmannaaDoor
open Go Go.ChangeShapes Go.WideShapes Go.ChangeAt Go.WideMaps Go.WideElems Go.RowKit
theorem f_main : Tryd.prog.mainIs = some (true, "b72e51722eb8145963955a28c157cdec0e57c0f2c23bfc404f05c9610c648864".toList) := by kernel_rfl
theorem f_looks : true = Tryd.prog.looks [] := by kernel_rfl
end Go.Proofs.YtlmekceabmannaaDoor
