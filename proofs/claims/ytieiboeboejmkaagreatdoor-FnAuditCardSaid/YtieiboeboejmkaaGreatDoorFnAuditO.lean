/-
  All findings are those of the parts, a house passes exactly if there are none, and without fixtures all cues miss their targets.
  No conditions.
-/
import Derived.Test.YtieiboeboejmkaaGreatDoorAUD
import Derived.Test.YtieiboeboejmkaaGreatDoorOB
import Derived.Test.YtieiboeboejmkaaGreatDoorRows
import Derived.Test.YtieiboeboejmkaaGreatDoorCards
import Derived.Test.YtieiboeboejmkaaGreatDoorTie
import Derived.Test.YtieiboeboejmkaaGreatDoorChecked
import Derived.ProofKit
import Derived.OpenShut
import Derived.ShutString
import Derived.ChangeOld
import Derived.LaidMore
import Derived.Lay
import Derived.LaidHandle
import Derived.MakeChecks
import Derived.OpenVars
import Derived.SevenTiedAt
import Derived.Stop.Joined
import Derived.Test.YtieiboeboejmkaaGreatDoorFnAuditL
set_option linter.unusedVariables false
set_option linter.unusedSimpArgs false
namespace Go.Proofs.YtieiboeboejmkaaGreatDoor
open Go Go.ChangeShapes Go.WideShapes Go.ChangeAt Go.WideMaps Go.WideElems Go.RowKit Go.Eng

theorem closed : joinedFacts Tryz.prog 4 Tryz.f4 Rows.fnAuditSpec Rows.fnAuditRow = true := by
  unfold joinedFacts
  rw [laidOut, f_mapsRowed, f_stops, f_stopKnobs, f_plainKeys, f_stopsHeard]
  kernel_rfl
theorem over : Rows.FnAuditSaid :=
  OpenClaim.holds_of_wide 4 Tryz.f4 rfl rfl rfl rfl rfl rfl rfl ⟨rfl, rfl, rfl, rfl, rfl⟩ rfl rfl rfl rfl rfl (by kernel_rfl) Tryz.func4 closed
    (of_decide_eq_true (by kernel_rfl)) (by unfold Func.isWrapper; first | (rw [if_pos (by decide +kernel)]; kernel_rfl) | (rw [if_neg (by decide +kernel)]; exact ⟨rfl, rfl⟩))
    (fun os started H enc _ => lifted os started H enc)

end Go.Proofs.YtieiboeboejmkaaGreatDoor
