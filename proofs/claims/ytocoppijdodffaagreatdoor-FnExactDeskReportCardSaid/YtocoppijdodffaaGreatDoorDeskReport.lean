/-
  The program's DeskReport returns what the reference's returns, for all arguments.
  No conditions.
-/
import Derived.Test.YtocoppijdodffaaGreatDoorDeskReportO
set_option linter.unusedVariables false
set_option linter.unusedSimpArgs false
namespace Go.Proofs.YtocoppijdodffaaGreatDoor
open Go Go.ChangeShapes Go.WideShapes Go.ChangeAt Go.WideMaps Go.WideElems Go.RowKit Go.Eng
theorem deskReport:Rows.FnExactDeskReportCardSaid:=
 Claim7.holds_tied_plain_at .later [] _ true _ _
  over (fun _ h=>by cases h) k_text (fun _ h=>by cases h) fnExactDeskReport_row_tie rfl ⟨rfl,rfl⟩ acZ rfl
  (fun f fn hf hfn=>by
    obtain rfl:f=3:=Option.some.inj (k_named.symm.trans hf) |>.symm
    obtain rfl:fn=Tryz.f3:=(Option.some.inj (Tryz.func3.symm.trans hfn)).symm
    exact⟨acY,fun j t ht=>by
     rw[Tryz.params3] at ht
     have hall:(#[41]:Array TypeId).toList.all (fun t=> !Tryz.prog.wantsStandIn t)=true:=by kernel_rfl
     have hm:t∈(#[41]:Array TypeId).toList:=by
      rw[←Array.getElem?_toList] at ht
      exact List.mem_of_getElem? ht
     have h:=List.all_eq_true.1 hall t hm
     show Tryz.prog.wantsStandIn t=false
     simpa using h⟩)
  k_goes
#print axioms deskReport
end Go.Proofs.YtocoppijdodffaaGreatDoor
