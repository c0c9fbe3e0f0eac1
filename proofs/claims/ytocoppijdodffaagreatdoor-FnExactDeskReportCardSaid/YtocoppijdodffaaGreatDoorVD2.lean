/-
  Desks: whether they are valid, by the program and by the reference.
  No conditions.
-/
import Derived.Test.YtocoppijdodffaaGreatDoorVD1
import Derived.Test.YtocoppijdodffaaGreatDoorVY
import Derived.Test.YtocoppijdodffaaGreatDoorNV
set_option linter.unusedVariables false
set_option linter.unusedSimpArgs false
set_option maxHeartbeats 4000000
namespace Go.Eng
open Go Go.RowKit Go.Proofs
set_option maxRecDepth 100000
def pU(d:fG):Bool:=gB d.bJ&&(holdsB d.kD&&(oU d.kF&&(pG d.kE&&(Ez d.kG&&o8 d.kH))))
theorem OG(d:fG):ak Tryz.prog 28 G0 0 [] [.agg (jv d)] (fun e os=>e= .bool (pU d)∧os=[]):=by
 refine aF Tryz.func28 rfl aB rfl (fun w0 F0 lent β0=> ?_)
 repeat'(first|refine sC ?_|((with_reducible refine aj ?_);first|(refine sS ?_;intro Q' hn he hr)|refine sA ?_)|(refine sH ?_;clear hn he hr Q')|((conv=>whnf);first|refine sK ?_|(refine sB ?_;repeat'(first|refine sb0 ?_|(refine aA ?_ ?_<;>intro hb<;>try exact cls)))|((with_reducible refine aH ?_);first|(refine aG (OH d.bJ) rfl rfl ?_)|(refine aG (YW d.kD) rfl rfl ?_)|(refine aG (Y0 d.kF) rfl rfl ?_)|(refine aG (YZ d.kE) rfl rfl ?_)|(refine aG (Y1 d.kG) rfl rfl ?_)|(refine aG (Y3 d.kH) rfl rfl ?_))|(refine au [] rfl rfl rfl ⟨?_,rfl⟩;conv=>lhs;whnf)))
 all_goals first|(simp_all[pU];done)|trace_state
theorem PW(d:fG):ak Tryz.prog 19 G0 0 [] [.rp (jv d)] (fun e os=>e= .bool (pU d)∧os=[]):=by
 refine aF Tryz.func19 rfl aB rfl (fun w0 F0 lent β0=> ?_)
 repeat'(first|refine sC ?_|((with_reducible refine aj ?_);first|(refine sS ?_;intro Q' hn he hr)|refine sA ?_)|(refine sH ?_;clear hn he hr Q')|((conv=>whnf);first|refine sK ?_|(refine sB ?_;repeat'(first|refine sb0 ?_|(refine aA ?_ ?_<;>intro hb<;>try exact cls)))|((with_reducible refine aH ?_);first|(refine aG (I9 d.bJ (agl d)) rfl rfl ?_)|(refine aG (aaz d.kD) rfl rfl ?_)|(refine aG (aaF d.kF) rfl rfl ?_)|(refine aG (aaR d.kE) rfl rfl ?_)|(refine aG (aaf d.kG _) rfl rfl ?_)|(refine aG (aad d.kH) rfl rfl ?_))|(refine au [] rfl rfl rfl ⟨?_,rfl⟩;conv=>lhs;whnf)))
 all_goals first|(simp_all[pU];done)|trace_state
end Go.Eng
