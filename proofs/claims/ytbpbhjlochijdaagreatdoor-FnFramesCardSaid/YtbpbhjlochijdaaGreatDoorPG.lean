/-
  Closed facts of the seat's program, more of them.
  No conditions.
-/
import Derived.Test.YtbpbhjlochijdaaGreatDoorRows
import Derived.Test.YtbpbhjlochijdaaGreatDoorChecked
import Derived.ProofKit
import Derived.Stop.Joined
import Derived.SevenTiedAt
set_option linter.unusedVariables false
set_option linter.unusedSimpArgs false
namespace Go.Proofs.YtbpbhjlochijdaaGreatDoor
open Go Go.ChangeShapes Go.WideShapes Go.ChangeAt Go.WideMaps Go.WideElems Go.RowKit
theorem f_main : Tryz.prog.mainIs = some (true, "f8f512eb652ad9f0759406da4141ed9f0c35bdb8fe5bbc56633f02bfd411eb73".toList) := by kernel_rfl
theorem f_looks : true = Tryz.prog.looks [] := by kernel_rfl
end Go.Proofs.YtbpbhjlochijdaaGreatDoor
