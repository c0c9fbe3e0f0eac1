/-
  What is known of houses and desks that are handed in.
  No conditions.
-/
import Derived.Test.YtocoppijdodffaaGreatDoorHT
set_option linter.unusedVariables false
set_option linter.unusedSimpArgs false
namespace Go.Eng
open Go Go.RowKit
def UH(x:dn):Prop:=(fun l:List UInt8=>l.length≤maxLen) x.fName∧(fun n:Int=>(Lit.int .i64 n).wf=true) x.bY∧(fun n:Int=>(Lit.int .i64 n).wf=true) x.uH
def LX(x:bW):Prop:=(fun l:List UInt8=>l.length≤maxLen) x.fName∧(fun n:Int=>(Lit.int .i64 n).wf=true) x.jS∧(fun n:Int=>(Lit.int .i64 n).wf=true) x.jR∧(fun n:Int=>(Lit.int .i64 n).wf=true) x.lV∧(fun n:Int=>(Lit.int .i64 n).wf=true) x.xH
def LY(x:bK):Prop:=(fun n:Int=>(Lit.int .i64 n).wf=true) x.bY∧(fun n:Int=>(Lit.int .i64 n).wf=true) x.fCount∧(fun n:Int=>(Lit.int .i64 n).wf=true) x.vH∧(fun n:Int=>(Lit.int .i64 n).wf=true) x.dw∧(fun n:Int=>(Lit.int .i64 n).wf=true) x.Ak
def LK(x:cu):Prop:=(fun l:List UInt8=>l.length≤maxLen) x.fName∧(fun n:Int=>(Lit.int .i64 n).wf=true) x.xJ∧(fun n:Int=>(Lit.int .i64 n).wf=true) x.qU∧(fun n:Int=>(Lit.int .i64 n).wf=true) x.qg
def LJ(x:aV):Prop:=(fun l:List UInt8=>l.length≤maxLen) x.fId∧(fun n:Int=>(Lit.int .i64 n).wf=true) x.dK∧(fun n:Int=>(Lit.int .i64 n).wf=true) x.iZ∧(fun l:List UInt8=>l.length≤maxLen) x.kR∧(fun n:Int=>(Lit.int .i64 n).wf=true) x.xB∧(fun n:Int=>(Lit.int .i64 n).wf=true) x.fValue
def LP(x:aY):Prop:=(fun n:Int=>(Lit.int .i64 n).wf=true) x.bT∧(fun l:List UInt8=>l.length≤maxLen) x.fName∧(fun n:Int=>(Lit.int .i64 n).wf=true) x.fValue
def LQ(x:bC):Prop:=(fun l:List UInt8=>l.length≤maxLen) x.fName∧(fun n:Int=>(Lit.int .i64 n).wf=true) x.xI
def LU(x:bg):Prop:=(fun l:List UInt8=>l.length≤maxLen) x.fName∧(fun n:Int=>(Lit.int .i64 n).wf=true) x.dK
def UJ(x:bM):Prop:=UH x.fP∧(fun l:List (bW)=> ∀x∈l,LX x) x.dU∧(fun n:Int=>(Lit.int .i64 n).wf=true) x.dw∧(fun l:List (bK)=> ∀x∈l,LY x) x.dW∧(fun l:List (Int)=> ∀x∈l,(fun n:Int=>(Lit.int .i64 n).wf=true) x) x.dZ∧(fun n:Int=>(Lit.int .i64 n).wf=true) x.oG∧(fun l:List (cu)=> ∀x∈l,LK x) x.eF∧(fun l:List (aV)=> ∀x∈l,LJ x) x.aX∧(fun l:List (aY)=> ∀x∈l,LP x) x.bD∧(fun n:Int=>(Lit.int .i64 n).wf=true) x.iL∧(fun l:List (bC)=> ∀x∈l,LQ x) x.dJ∧(fun l:List (bg)=> ∀x∈l,LU x) x.dh∧(fun n:Int=>(Lit.int .i64 n).wf=true) x.fK
def LM(x:jh):Prop:=(fun n:Int=>(Lit.int .i64 n).wf=true) x.xC∧(fun n:Int=>(Lit.int .i64 n).wf=true) x.iZ
def LW(x:eP):Prop:=(fun l:List UInt8=>l.length≤maxLen) x.fId∧(fun l:List UInt8=>l.length≤maxLen) x.bT∧(fun n:Int=>(Lit.int .i64 n).wf=true) x.vI∧(fun n:Int=>(Lit.int .i64 n).wf=true) x.iZ∧(fun n:Int=>(Lit.int .i64 n).wf=true) x.Am
def LV(x:eH):Prop:=(fun l:List UInt8=>l.length≤maxLen) x.fId∧(fun l:List UInt8=>l.length≤maxLen) x.fText
def UK(x:mF):Prop:=(fun l:List UInt8=>l.length≤maxLen) x.fName∧(fun n:Int=>(Lit.int .i64 n).wf=true) x.xG∧(fun n:Int=>(Lit.int .i64 n).wf=true) x.xE
def LZ(x:TStar):Prop:=(fun l:List UInt8=>l.length≤maxLen) x.fId∧(fun n:Int=>(Lit.int .i64 n).wf=true) x.fRight∧(fun n:Int=>(Lit.int .i64 n).wf=true) x.fDeclination∧(fun n:Int=>(Lit.int .i64 n).wf=true) x.fMagnitude∧(fun n:Int=>(Lit.int .i64 n).wf=true) x.fColour
def UG(x:fG):Prop:=UJ x.bJ∧(fun l:List (jh)=> ∀x∈l,LM x) x.kD∧(fun l:List (eP)=> ∀x∈l,LW x) x.kF∧(fun l:List (eH)=> ∀x∈l,LV x) x.kE∧UK x.kG∧(fun l:List (TStar)=> ∀x∈l,LZ x) x.kH
end Go.Eng
