/-
  The program's SeatFindings returns what the reference's returns, for all arguments.
  No conditions.
-/
import Derived.Test.YtieiboeboejmkaaGreatDoorED
import Derived.Test.YtieiboeboejmkaaGreatDoorFU
import Derived.Test.YtieiboeboejmkaaGreatDoorHM
import Derived.Test.YtieiboeboejmkaaGreatDoorHX
import Derived.Test.YtieiboeboejmkaaGreatDoorHO
import Derived.Test.YtieiboeboejmkaaGreatDoorRows
import Derived.Test.YtieiboeboejmkaaGreatDoorCards
import Derived.Test.YtieiboeboejmkaaGreatDoorTie
import Derived.Test.YtieiboeboejmkaaGreatDoorChecked
import Derived.ProofKit
import Derived.OpenShut
import Derived.ShutString
import Derived.ChangeOld
import Derived.LaidMore
import Derived.Lay
import Derived.LaidHandle
import Derived.MakeChecks
import Derived.OpenVars
import Derived.SevenTiedAt
import Derived.Stop.Joined
import Derived.Test.YtieiboeboejmkaaGreatDoorSeatFindingsO
set_option linter.unusedVariables false
set_option linter.unusedSimpArgs false
namespace Go.Proofs.YtieiboeboejmkaaGreatDoor
open Go Go.ChangeShapes Go.WideShapes Go.ChangeAt Go.WideMaps Go.WideElems Go.RowKit Go.Eng

theorem seatFindings : Rows.FnExactSeatFindingsCardSaid :=
  Claim7.holds_tied_plain_at .later [] _ true _ _
    over (fun _ h => by cases h) (by kernel_rfl) (fun _ h => by cases h) fnExactSeatFindings_row_tie rfl ⟨rfl, rfl⟩ f_main rfl
    (fun f fn hf hfn => by
      obtain rfl : f = 6 := Option.some.inj ((show Tryz.prog.funcNamed "loop.example/g00955/laws.FnExactSeatFindings" = some 6 by kernel_rfl).symm.trans hf) |>.symm
      obtain rfl : fn = Tryz.f6 := (Option.some.inj (Tryz.func6.symm.trans hfn)).symm
      exact ⟨f_looks, fun j t ht => by
        rw [Tryz.params6] at ht
        have hall : (#[87] : Array TypeId).toList.all (fun t => !Tryz.prog.wantsStandIn t) = true := by kernel_rfl
        have hm : t ∈ (#[87] : Array TypeId).toList := by
          rw [← Array.getElem?_toList] at ht
          exact List.mem_of_getElem? ht
        have h := List.all_eq_true.1 hall t hm
        show Tryz.prog.wantsStandIn t = false
        simpa using h⟩)
    (by kernel_rfl)
#print axioms seatFindings
end Go.Proofs.YtieiboeboejmkaaGreatDoor
