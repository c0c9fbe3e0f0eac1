/-
  The desk's report, by the program and by the reference.
  No conditions.
-/
import Derived.Test.YtocoppijdodffaaGreatDoorAU
import Derived.Test.YtocoppijdodffaaGreatDoorVD2
import Derived.Test.YtocoppijdodffaaGreatDoorDR0
set_option linter.unusedVariables false
set_option linter.unusedSimpArgs false
namespace Go.Eng
open Go Go.RowKit Go.Proofs
set_option maxRecDepth 100000
theorem Vw{d:fG}(hv:pU d=true): ∀z∈rF d (pK d.bJ).length,0≤z∧z≤2000:=by
 simp only[pU,Bool.and_eq_true] at hv
 obtain⟨h1,h2,h3,h4,_,h6⟩:=hv
 have a1:=(MJ (Ku h1).1).1
 have a2:d.bJ.eF.length≤16:=by
  simp only[gB,uI,Bool.and_eq_true,decide_eq_true_eq] at h1
  exact h1.2.2.2.2.1.1
 have a3:=Af (FW h1).1
 have a4:d.kD.length≤16:=by
  simp only[holdsB,Bool.and_eq_true,decide_eq_true_eq] at h2
  exact h2.1
 have a5:d.kF.length≤16:=by
  simp only[oU,Bool.and_eq_true,decide_eq_true_eq] at h3
  exact h3.1
 have a6:d.kE.length≤20:=by
  simp only[pG,Bool.and_eq_true,decide_eq_true_eq] at h4
  exact h4.1
 have a7:d.kH.length≤24:=by
  simp only[o8,Bool.and_eq_true,decide_eq_true_eq] at h6
  exact h6.1
 have a8:=Om h1
 intro z hz
 simp only[rF,List.mem_cons,List.not_mem_nil,or_false] at hz
 omega
noncomputable def ug(d:fG):List (List UInt8):=uT d (pK d.bJ).length
theorem agi(d:fG):(ug d).length=8:=Vx d _
theorem QA{d:fG}(hv:pU d=true):gB d.bJ=true:=by
 simp only[pU,Bool.and_eq_true] at hv
 exact hv.1
theorem YO(d:fG)(hv:pU d=false):ak Tryz.prog 7 G0 0 [] [.agg (jv d)] (fun e os=>e= .aN [.sl 1 [], .int .i64 1]∧os=[]):=
 agb G0 d (by have h:=OG d;rw[hv] at h;exact h)
theorem ZV(d:fG)(hv:pU d=false):ak Tryz.prog 5 G0 0 [] [.agg (jv d)] (fun e os=>e= .aN [.sl 1 [], .int .i64 1]∧os=[]):=
 agd G0 d (by have h:=PW d;rw[hv] at h;exact h)
theorem YP(d:fG)(hv:pU d=true):ak Tryz.prog 7 GA 0 [] [.agg (jv d)] (fun e os=>e= .aN [.h 0, .int .i64 0]∧os=[.row 9 1 ((ug d).map encS)]):=
 aga GA d (pK d.bJ) (Vw hv) (by have h:=(OG d).aU (G:=GA);rw[hv] at h;exact h) (YK d.bJ (QA hv)) (fun n hn=>(CW n hn).aP)
theorem ZW(d:fG)(hv:pU d=true):ak Tryz.prog 5 G0 0 [] [.agg (jv d)] (fun e os=>e= .aN [.h 0, .int .i64 0]∧os=[.row 9 1 ((ug d).map encS)]):=
 agc G0 d (pK d.bJ) (Vw hv) (by have h:=PW d;rw[hv] at h;exact h) (ZR d.bJ (QA hv)) (fun n hn=>CZ n hn)
end Go.Eng
