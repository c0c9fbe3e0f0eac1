/-
  The program's AuditHouse returns what the reference's returns, for all arguments.
  No conditions.
-/
import Derived.Test.YtigdnelbanaieaaGreatDoorED
import Derived.Test.YtigdnelbanaieaaGreatDoorAU
import Derived.Test.YtigdnelbanaieaaGreatDoorHM
import Derived.Test.YtigdnelbanaieaaGreatDoorHX
import Derived.Test.YtigdnelbanaieaaGreatDoorHO
import Derived.Test.YtigdnelbanaieaaGreatDoorRows
import Derived.Test.YtigdnelbanaieaaGreatDoorCards
import Derived.Test.YtigdnelbanaieaaGreatDoorTie
import Derived.Test.YtigdnelbanaieaaGreatDoorChecked
import Derived.ProofKit
import Derived.OpenShut
import Derived.ShutString
import Derived.ChangeOld
import Derived.LaidMore
import Derived.Lay
import Derived.LaidHandle
import Derived.MakeChecks
import Derived.OpenVars
import Derived.SevenTiedAt
import Derived.Stop.Joined
import Derived.Test.YtigdnelbanaieaaGreatDoorAuditHouseO
set_option linter.unusedVariables false
set_option linter.unusedSimpArgs false
namespace Go.Proofs.YtigdnelbanaieaaGreatDoor
open Go Go.ChangeShapes Go.WideShapes Go.ChangeAt Go.WideMaps Go.WideElems Go.RowKit Go.Eng

theorem auditHouse : Rows.FnExactAuditHouseCardSaid :=
  Claim7.holds_tied_plain_at .later [] _ true _ _
    over (fun _ h => by cases h) (by kernel_rfl) (fun _ h => by cases h) fnExactAuditHouse_row_tie rfl ⟨rfl, rfl⟩ f_main rfl
    (fun f fn hf hfn => by
      obtain rfl : f = 3 := Option.some.inj ((show Tryz.prog.funcNamed "loop.example/g00955/laws.FnExactAuditHouse" = some 3 by kernel_rfl).symm.trans hf) |>.symm
      obtain rfl : fn = Tryz.f3 := (Option.some.inj (Tryz.func3.symm.trans hfn)).symm
      exact ⟨f_looks, fun j t ht => by
        rw [Tryz.params3] at ht
        have hall : (#[33] : Array TypeId).toList.all (fun t => !Tryz.prog.wantsStandIn t) = true := by kernel_rfl
        have hm : t ∈ (#[33] : Array TypeId).toList := by
          rw [← Array.getElem?_toList] at ht
          exact List.mem_of_getElem? ht
        have h := List.all_eq_true.1 hall t hm
        show Tryz.prog.wantsStandIn t = false
        simpa using h⟩)
    (by kernel_rfl)
#print axioms auditHouse
end Go.Proofs.YtigdnelbanaieaaGreatDoor
