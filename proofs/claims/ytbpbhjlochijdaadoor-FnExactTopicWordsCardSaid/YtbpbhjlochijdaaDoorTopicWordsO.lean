/-
  The program's TopicWords returns what the reference's returns, for all arguments.
  No conditions.
-/
import Derived.Test.YtbpbhjlochijdaaDoorED
import Derived.Test.YtbpbhjlochijdaaDoorTW4
import Derived.Test.YtbpbhjlochijdaaDoorNS
import Derived.Test.YtbpbhjlochijdaaDoorRows
import Derived.Test.YtbpbhjlochijdaaDoorCards
import Derived.Test.YtbpbhjlochijdaaDoorTie
import Derived.Test.YtbpbhjlochijdaaDoorChecked
import Derived.ProofKit
import Derived.OpenShut
import Derived.ShutString
import Derived.ChangeOld
import Derived.LaidMore
import Derived.Lay
import Derived.LaidHandle
import Derived.MakeChecks
import Derived.OpenVars
import Derived.SevenTiedAt
import Derived.Stop.Joined
import Derived.Test.YtbpbhjlochijdaaDoorTopicWordsL
set_option linter.unusedVariables false
set_option linter.unusedSimpArgs false
namespace Go.Proofs.YtbpbhjlochijdaaDoor
open Go Go.ChangeShapes Go.WideShapes Go.ChangeAt Go.WideMaps Go.WideElems Go.RowKit Go.Eng

theorem closed : joinedFacts Tryd.prog 4 Tryd.f4 Rows.fnExactTopicWordsSpec Rows.fnExactTopicWordsRow = true := by
  unfold joinedFacts
  rw [laidOut, f_mapsRowed, f_stops, f_stopKnobs, f_plainKeys, f_stopsHeard]
  kernel_rfl
theorem over : Rows.FnExactTopicWordsSaid :=
  OpenClaim.holds_of_wide 4 Tryd.f4 rfl rfl rfl rfl rfl rfl rfl ⟨rfl, rfl, rfl, rfl, rfl⟩ rfl rfl rfl rfl rfl (by kernel_rfl) Tryd.func4 closed
    (of_decide_eq_true (by kernel_rfl)) (by unfold Func.isWrapper; first | (rw [if_pos (by decide +kernel)]; kernel_rfl) | (rw [if_neg (by decide +kernel)]; exact ⟨rfl, rfl⟩))
    (fun os started H enc _ => lifted os started H enc)

end Go.Proofs.YtbpbhjlochijdaaDoor
