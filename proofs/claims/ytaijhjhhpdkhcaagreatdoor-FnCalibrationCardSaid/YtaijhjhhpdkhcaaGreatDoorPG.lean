/-
  Closed facts of the seat's program, more of them.
  No conditions.
-/
import Derived.Test.YtaijhjhhpdkhcaaGreatDoorRows
import Derived.Test.YtaijhjhhpdkhcaaGreatDoorChecked
import Derived.ProofKit
import Derived.Stop.Joined
import Derived.SevenTiedAt
set_option linter.unusedVariables false
set_option linter.unusedSimpArgs false
namespace Go.Proofs.YtaijhjhhpdkhcaaGreatDoor
open Go Go.ChangeShapes Go.WideShapes Go.ChangeAt Go.WideMaps Go.WideElems Go.RowKit
theorem f_main : Tryz.prog.mainIs = some (true, "7648dead9bd9d49a8dbe4c91ec5bde219f7256870cdb2f9b37f4e1aeb48d1679".toList) := by kernel_rfl
theorem f_looks : true = Tryz.prog.looks [] := by kernel_rfl
end Go.Proofs.YtaijhjhhpdkhcaaGreatDoor
