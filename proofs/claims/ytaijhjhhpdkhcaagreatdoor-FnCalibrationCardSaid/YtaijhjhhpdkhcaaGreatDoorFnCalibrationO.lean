/-
  The correction of marks leaves no correction but rounding, and no mark is odd by more than the greatest limit that it needs.
  No conditions.
-/
import Derived.Test.YtaijhjhhpdkhcaaGreatDoorFC
import Derived.Test.YtaijhjhhpdkhcaaGreatDoorOB
import Derived.Test.YtaijhjhhpdkhcaaGreatDoorRows
import Derived.Test.YtaijhjhhpdkhcaaGreatDoorCards
import Derived.Test.YtaijhjhhpdkhcaaGreatDoorTie
import Derived.Test.YtaijhjhhpdkhcaaGreatDoorChecked
import Derived.ProofKit
import Derived.OpenShut
import Derived.ShutString
import Derived.ChangeOld
import Derived.LaidMore
import Derived.Lay
import Derived.LaidHandle
import Derived.MakeChecks
import Derived.OpenVars
import Derived.SevenTiedAt
import Derived.Stop.Joined
import Derived.Test.YtaijhjhhpdkhcaaGreatDoorFnCalibrationL
set_option linter.unusedVariables false
set_option linter.unusedSimpArgs false
namespace Go.Proofs.YtaijhjhhpdkhcaaGreatDoor
open Go Go.ChangeShapes Go.WideShapes Go.ChangeAt Go.WideMaps Go.WideElems Go.RowKit Go.Eng

theorem closed : joinedFacts Tryz.prog 4 Tryz.f4 Rows.fnCalibrationSpec Rows.fnCalibrationRow = true := by
  unfold joinedFacts
  rw [laidOut, f_mapsRowed, f_stops, f_stopKnobs, f_plainKeys, f_stopsHeard]
  kernel_rfl
theorem over : Rows.FnCalibrationSaid :=
  OpenClaim.holds_of_wide 4 Tryz.f4 rfl rfl rfl rfl rfl rfl rfl ⟨rfl, rfl, rfl, rfl, rfl⟩ rfl rfl rfl rfl rfl (by kernel_rfl) Tryz.func4 closed
    (of_decide_eq_true (by kernel_rfl)) (by unfold Func.isWrapper; first | (rw [if_pos (by decide +kernel)]; kernel_rfl) | (rw [if_neg (by decide +kernel)]; exact ⟨rfl, rfl⟩))
    (fun os started H enc _ => lifted os started H enc)

end Go.Proofs.YtaijhjhhpdkhcaaGreatDoor
