/-
  The program's AuditHouse returns what the reference's returns, for all arguments.
  No conditions.
-/
import Derived.Test.YtigdnelbanaieaaGreatDoorED
import Derived.Test.YtigdnelbanaieaaGreatDoorAU
import Derived.Test.YtigdnelbanaieaaGreatDoorHM
import Derived.Test.YtigdnelbanaieaaGreatDoorHX
import Derived.Test.YtigdnelbanaieaaGreatDoorHO
import Derived.Test.YtigdnelbanaieaaGreatDoorRows
import Derived.Test.YtigdnelbanaieaaGreatDoorCards
import Derived.Test.YtigdnelbanaieaaGreatDoorTie
import Derived.Test.YtigdnelbanaieaaGreatDoorChecked
import Derived.ProofKit
import Derived.OpenShut
import Derived.ShutString
import Derived.ChangeOld
import Derived.LaidMore
import Derived.Lay
import Derived.LaidHandle
import Derived.MakeChecks
import Derived.OpenVars
import Derived.SevenTiedAt
import Derived.Stop.Joined
import Derived.Test.YtigdnelbanaieaaGreatDoorAuditHouseL
set_option linter.unusedVariables false
set_option linter.unusedSimpArgs false
namespace Go.Proofs.YtigdnelbanaieaaGreatDoor
open Go Go.ChangeShapes Go.WideShapes Go.ChangeAt Go.WideMaps Go.WideElems Go.RowKit Go.Eng

theorem closed : joinedFacts Tryz.prog 3 Tryz.f3 Rows.fnExactAuditHouseSpec Rows.fnExactAuditHouseRow = true := by
  unfold joinedFacts
  rw [laidOut, f_mapsRowed, f_stops, f_stopKnobs, f_plainKeys, f_stopsHeard]
  kernel_rfl
theorem over : Rows.FnExactAuditHouseSaid :=
  OpenClaim.holds_of_wide 3 Tryz.f3 rfl rfl rfl rfl rfl rfl rfl ⟨rfl, rfl, rfl, rfl, rfl⟩ rfl rfl rfl rfl rfl (by kernel_rfl) Tryz.func3 closed
    (of_decide_eq_true (by kernel_rfl)) (by unfold Func.isWrapper; first | (rw [if_pos (by decide +kernel)]; kernel_rfl) | (rw [if_neg (by decide +kernel)]; exact ⟨rfl, rfl⟩))
    (fun os started H enc _ => lifted os started H enc)

end Go.Proofs.YtigdnelbanaieaaGreatDoor
