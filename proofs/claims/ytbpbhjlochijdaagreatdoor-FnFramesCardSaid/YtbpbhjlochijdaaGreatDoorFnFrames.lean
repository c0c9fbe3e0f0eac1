/-
  Blocks are read back from their bytes, and a changed byte is noticed.
  No conditions.
-/
import Derived.Test.YtbpbhjlochijdaaGreatDoorFF
import Derived.Test.YtbpbhjlochijdaaGreatDoorOB
import Derived.Test.YtbpbhjlochijdaaGreatDoorRows
import Derived.Test.YtbpbhjlochijdaaGreatDoorCards
import Derived.Test.YtbpbhjlochijdaaGreatDoorTie
import Derived.Test.YtbpbhjlochijdaaGreatDoorChecked
import Derived.ProofKit
import Derived.OpenShut
import Derived.ShutString
import Derived.ChangeOld
import Derived.LaidMore
import Derived.Lay
import Derived.LaidHandle
import Derived.MakeChecks
import Derived.OpenVars
import Derived.SevenTiedAt
import Derived.Stop.Joined
import Derived.Test.YtbpbhjlochijdaaGreatDoorFnFramesO
set_option linter.unusedVariables false
set_option linter.unusedSimpArgs false
namespace Go.Proofs.YtbpbhjlochijdaaGreatDoor
open Go Go.ChangeShapes Go.WideShapes Go.ChangeAt Go.WideMaps Go.WideElems Go.RowKit Go.Eng

theorem frames : Rows.FnFramesCardSaid :=
  Claim7.holds_tied_plain_at .later [] _ true _ _
    over (fun _ h => by cases h) (by kernel_rfl) (fun _ h => by cases h) fnFrames_row_tie rfl ⟨rfl, rfl⟩ f_main rfl
    (fun f fn hf hfn => by
      obtain rfl : f = 4 := Option.some.inj ((show Tryz.prog.funcNamed "loop.example/g00955/laws.FnFrames" = some 4 by kernel_rfl).symm.trans hf) |>.symm
      obtain rfl : fn = Tryz.f4 := (Option.some.inj (Tryz.func4.symm.trans hfn)).symm
      exact ⟨f_looks, fun j t ht => by
        rw [Tryz.params4] at ht
        have hall : (#[22, 22] : Array TypeId).toList.all (fun t => !Tryz.prog.wantsStandIn t) = true := by kernel_rfl
        have hm : t ∈ (#[22, 22] : Array TypeId).toList := by
          rw [← Array.getElem?_toList] at ht
          exact List.mem_of_getElem? ht
        have h := List.all_eq_true.1 hall t hm
        show Tryz.prog.wantsStandIn t = false
        simpa using h⟩)
    (by kernel_rfl)
#print axioms frames
end Go.Proofs.YtbpbhjlochijdaaGreatDoor
