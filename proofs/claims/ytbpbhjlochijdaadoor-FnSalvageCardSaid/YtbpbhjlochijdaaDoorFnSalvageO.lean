/-
  If a byte of a line changes, and no newline comes or goes, just the block of this line is lost.
  No conditions.
-/
import Derived.Test.YtbpbhjlochijdaaDoorSX
import Derived.Test.YtbpbhjlochijdaaDoorOB
import Derived.Test.YtbpbhjlochijdaaDoorRows
import Derived.Test.YtbpbhjlochijdaaDoorCards
import Derived.Test.YtbpbhjlochijdaaDoorTie
import Derived.Test.YtbpbhjlochijdaaDoorChecked
import Derived.ProofKit
import Derived.OpenShut
import Derived.ShutString
import Derived.ChangeOld
import Derived.LaidMore
import Derived.Lay
import Derived.LaidHandle
import Derived.MakeChecks
import Derived.OpenVars
import Derived.SevenTiedAt
import Derived.Stop.Joined
import Derived.Test.YtbpbhjlochijdaaDoorFnSalvageL
set_option linter.unusedVariables false
set_option linter.unusedSimpArgs false
namespace Go.Proofs.YtbpbhjlochijdaaDoor
open Go Go.ChangeShapes Go.WideShapes Go.ChangeAt Go.WideMaps Go.WideElems Go.RowKit Go.Eng

theorem closed : joinedFacts Tryd.prog 3 Tryd.f3 Rows.fnSalvageSpec Rows.fnSalvageRow = true := by
  unfold joinedFacts
  rw [laidOut, f_mapsRowed, f_stops, f_stopKnobs, f_plainKeys, f_stopsHeard]
  kernel_rfl
theorem over : Rows.FnSalvageSaid :=
  OpenClaim.holds_of_wide 3 Tryd.f3 rfl rfl rfl rfl rfl rfl rfl ⟨rfl, rfl, rfl, rfl, rfl⟩ rfl rfl rfl rfl rfl (by kernel_rfl) Tryd.func3 closed
    (of_decide_eq_true (by kernel_rfl)) (by unfold Func.isWrapper; first | (rw [if_pos (by decide +kernel)]; kernel_rfl) | (rw [if_neg (by decide +kernel)]; exact ⟨rfl, rfl⟩))
    (fun os started H enc _ => lifted os started H enc)

end Go.Proofs.YtbpbhjlochijdaaDoor
