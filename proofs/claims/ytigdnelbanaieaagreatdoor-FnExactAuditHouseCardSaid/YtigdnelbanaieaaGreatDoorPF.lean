/-
  Closed facts of the seat's program.
  No conditions.
-/
import Derived.Test.YtigdnelbanaieaaGreatDoorRows
import Derived.Test.YtigdnelbanaieaaGreatDoorChecked
import Derived.ProofKit
import Derived.Stop.Joined
set_option linter.unusedVariables false
set_option linter.unusedSimpArgs false
namespace Go.Proofs.YtigdnelbanaieaaGreatDoor
open Go Go.ChangeShapes Go.WideShapes Go.ChangeAt Go.WideMaps Go.WideElems Go.RowKit
theorem own : ownKnob Tryz.prog.godebug = none := by kernel_rfl
theorem laidOut : laidOutB Tryz.prog = true := by kernel_rfl
theorem f_mapsRowed : mapsRowed Tryz.prog = true := by kernel_rfl
theorem f_stops : Tryz.prog.stops = [] := by kernel_rfl
theorem f_stopKnobs : Tryz.prog.stopKnobs = [] := by kernel_rfl
theorem f_stopsHeard : Tryz.prog.stopsHeard = true := by kernel_rfl
theorem f_plainKeys : Tryz.prog.plainKeys = true := by kernel_rfl
end Go.Proofs.YtigdnelbanaieaaGreatDoor
