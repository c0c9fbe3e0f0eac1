/-
  Closed facts of the seat's program.
  No conditions.
-/
import Derived.Test.YtbpbhjlochijdaaDoorRows
import Derived.Test.YtbpbhjlochijdaaDoorChecked
import Derived.ProofKit
import Derived.Stop.Joined
set_option linter.unusedVariables false
set_option linter.unusedSimpArgs false
namespace Go.Proofs.YtbpbhjlochijdaaDoor
open Go Go.ChangeShapes Go.WideShapes Go.ChangeAt Go.WideMaps Go.WideElems Go.RowKit
theorem own : ownKnob Tryd.prog.godebug = none := by kernel_rfl
theorem laidOut : laidOutB Tryd.prog = true := by kernel_rfl
theorem f_mapsRowed : mapsRowed Tryd.prog = true := by kernel_rfl
theorem f_stops : Tryd.prog.stops = [] := by kernel_rfl
theorem f_stopKnobs : Tryd.prog.stopKnobs = [] := by kernel_rfl
theorem f_stopsHeard : Tryd.prog.stopsHeard = true := by kernel_rfl
theorem f_plainKeys : Tryd.prog.plainKeys = true := by kernel_rfl
end Go.Proofs.YtbpbhjlochijdaaDoor
