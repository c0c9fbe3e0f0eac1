/-
  The program's SaveBlocks returns what the reference's returns, for all arguments.
  No conditions.
-/
import Derived.Test.YtpleljnhaoejdaaDoorED
import Derived.Test.YtpleljnhaoejdaaDoorBP
import Derived.Test.YtpleljnhaoejdaaDoorBS
import Derived.Test.YtpleljnhaoejdaaDoorRows
import Derived.Test.YtpleljnhaoejdaaDoorCards
import Derived.Test.YtpleljnhaoejdaaDoorTie
import Derived.Test.YtpleljnhaoejdaaDoorChecked
import Derived.ProofKit
import Derived.OpenShut
import Derived.ShutString
import Derived.ChangeOld
import Derived.LaidMore
import Derived.Lay
import Derived.LaidHandle
import Derived.MakeChecks
import Derived.OpenVars
import Derived.SevenTiedAt
import Derived.Stop.Joined
import Derived.Test.YtpleljnhaoejdaaDoorSaveBlocksL
set_option linter.unusedVariables false
set_option linter.unusedSimpArgs false
namespace Go.Proofs.YtpleljnhaoejdaaDoor
open Go Go.ChangeShapes Go.WideShapes Go.ChangeAt Go.WideMaps Go.WideElems Go.RowKit Go.Eng

theorem closed : joinedFacts Tryd.prog 3 Tryd.f3 Rows.fnExactSaveBlocksSpec Rows.fnExactSaveBlocksRow = true := by
  unfold joinedFacts
  rw [laidOut, f_mapsRowed, f_stops, f_stopKnobs, f_plainKeys, f_stopsHeard]
  kernel_rfl
theorem over : Rows.FnExactSaveBlocksSaid :=
  OpenClaim.holds_of_wide 3 Tryd.f3 rfl rfl rfl rfl rfl rfl rfl ⟨rfl, rfl, rfl, rfl, rfl⟩ rfl rfl rfl rfl rfl (by kernel_rfl) Tryd.func3 closed
    (of_decide_eq_true (by kernel_rfl)) (by unfold Func.isWrapper; first | (rw [if_pos (by decide +kernel)]; kernel_rfl) | (rw [if_neg (by decide +kernel)]; exact ⟨rfl, rfl⟩))
    (fun os started H enc _ => lifted os started H enc)

end Go.Proofs.YtpleljnhaoejdaaDoor
