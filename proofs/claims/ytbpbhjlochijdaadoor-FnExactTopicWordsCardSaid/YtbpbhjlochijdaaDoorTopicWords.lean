/-
  The program's TopicWords returns what the reference's returns, for all arguments.
  No conditions.
-/
import Derived.Test.YtbpbhjlochijdaaDoorED
import Derived.Test.YtbpbhjlochijdaaDoorTW4
import Derived.Test.YtbpbhjlochijdaaDoorNS
import Derived.Test.YtbpbhjlochijdaaDoorRows
import Derived.Test.YtbpbhjlochijdaaDoorCards
import Derived.Test.YtbpbhjlochijdaaDoorTie
import Derived.Test.YtbpbhjlochijdaaDoorChecked
import Derived.ProofKit
import Derived.OpenShut
import Derived.ShutString
import Derived.ChangeOld
import Derived.LaidMore
import Derived.Lay
import Derived.LaidHandle
import Derived.MakeChecks
import Derived.OpenVars
import Derived.SevenTiedAt
import Derived.Stop.Joined
import Derived.Test.YtbpbhjlochijdaaDoorTopicWordsO
set_option linter.unusedVariables false
set_option linter.unusedSimpArgs false
namespace Go.Proofs.YtbpbhjlochijdaaDoor
open Go Go.ChangeShapes Go.WideShapes Go.ChangeAt Go.WideMaps Go.WideElems Go.RowKit Go.Eng

theorem topicWords : Rows.FnExactTopicWordsCardSaid :=
  Claim7.holds_tied_plain_at .later [] _ true _ _
    over (fun _ h => by cases h) (by kernel_rfl) (fun _ h => by cases h) fnExactTopicWords_row_tie rfl ⟨rfl, rfl⟩ f_main rfl
    (fun f fn hf hfn => by
      obtain rfl : f = 4 := Option.some.inj ((show Tryd.prog.funcNamed "loop.example/g00955/laws.FnExactTopicWords" = some 4 by kernel_rfl).symm.trans hf) |>.symm
      obtain rfl : fn = Tryd.f4 := (Option.some.inj (Tryd.func4.symm.trans hfn)).symm
      exact ⟨f_looks, fun j t ht => by
        rw [Tryd.params4] at ht
        have hall : (#[34] : Array TypeId).toList.all (fun t => !Tryd.prog.wantsStandIn t) = true := by kernel_rfl
        have hm : t ∈ (#[34] : Array TypeId).toList := by
          rw [← Array.getElem?_toList] at ht
          exact List.mem_of_getElem? ht
        have h := List.all_eq_true.1 hall t hm
        show Tryd.prog.wantsStandIn t = false
        simpa using h⟩)
    (by kernel_rfl)
#print axioms topicWords
end Go.Proofs.YtbpbhjlochijdaaDoor
