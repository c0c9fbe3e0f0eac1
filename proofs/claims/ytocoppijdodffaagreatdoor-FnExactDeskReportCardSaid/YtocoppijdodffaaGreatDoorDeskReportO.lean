/-
  The program's DeskReport returns what the reference's returns, for all arguments.
  No conditions.
-/
import Derived.Test.YtocoppijdodffaaGreatDoorDeskReportL
set_option linter.unusedVariables false
set_option linter.unusedSimpArgs false
namespace Go.Proofs.YtocoppijdodffaaGreatDoor
open Go Go.ChangeShapes Go.WideShapes Go.ChangeAt Go.WideMaps Go.WideElems Go.RowKit Go.Eng
theorem g_inPlace:(Rows.fnExactDeskReportRow.inPlace==Tryz.prog.inPlace 3)=true:=by kernel_rfl
theorem g_unfollowed:(Rows.fnExactDeskReportRow.unfollowed==Tryz.prog.unfollowed 3)=true:=by kernel_rfl
theorem g_recurses:(Rows.fnExactDeskReportRow.recurses==Tryz.prog.recurses 3)=true:=by kernel_rfl
theorem g_named:(Rows.fnExactDeskReportRow.named==Tryz.prog.varsNamed 3)=true:=by kernel_rfl
theorem g_tie:namedTie Tryz.prog Rows.fnExactDeskReportRow.named Rows.fnExactDeskReportSpec.vars=true:=by kernel_rfl
theorem g_wf:Rows.fnExactDeskReportRow.wf (OpenSpec.ofChange Rows.fnExactDeskReportSpec)=true:=by kernel_rfl
theorem closed:joinedFacts Tryz.prog 3 Tryz.f3 Rows.fnExactDeskReportSpec Rows.fnExactDeskReportRow=true:=by
 unfold joinedFacts
 rw[laidOut,ac0,ac3,ac2,ac1,ac4,g_inPlace,g_unfollowed,g_recurses,g_named,g_tie,g_wf]
 kernel_rfl
theorem over:Rows.FnExactDeskReportSaid:=
 OpenClaim.holds_of_wide 3 Tryz.f3 rfl rfl rfl rfl rfl rfl rfl ⟨rfl,rfl,rfl,rfl,rfl⟩ rfl rfl rfl rfl rfl dA Tryz.func3 closed
  (of_decide_eq_true dA) (by unfold Func.isWrapper;first|(rw[if_pos aB];kernel_rfl)|(rw[if_neg aB];exact⟨rfl,rfl⟩))
  (fun os started H enc _=>lifted os started H enc)
theorem k_goes:false=Rows.fnExactDeskReportRow.goesBy Tryz.prog:=by kernel_rfl
theorem k_text:Rows.fnExactDeskReportRow.wfByText (OpenSpec.ofChange Rows.fnExactDeskReportSpec)=true:=by kernel_rfl
theorem k_named:Tryz.prog.funcNamed "loop.example/g00955/laws.FnExactDeskReport" =some 3:=by kernel_rfl
end Go.Proofs.YtocoppijdodffaaGreatDoor
