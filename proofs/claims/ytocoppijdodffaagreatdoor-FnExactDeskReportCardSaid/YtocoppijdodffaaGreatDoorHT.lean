/-
  Houses and desks as data.
  No conditions.
-/
import Derived.Test.YtocoppijdodffaaGreatDoorST0
set_option linter.unusedVariables false
set_option linter.unusedSimpArgs false
namespace Go.Eng
open Go Go.RowKit
structure dn where
 fName:List UInt8
 bY:Int
 uH:Int
def jE(x:dn):List D:=[.str x.fName, .int .i64 x.bY, .int .i64 x.uH]
def dn.sz(x:dn):Nat:=x.fName.length
def Dt(a b:dn):Bool:=eqStr a.fName b.fName&&(bG a.bY b.bY&&(bG a.uH b.uH))
theorem acJ(x:dn):Dt x x=true:=by simp[Dt,bG,eqStr,gW]
structure bW where
 fName:List UInt8
 jS:Int
 jR:Int
 lV:Int
 xH:Int
def dR(x:bW):List D:=[.str x.fName, .int .i64 x.jS, .int .i64 x.jR, .int .i64 x.lV, .int .i64 x.xH]
def bW.sz(x:bW):Nat:=x.fName.length
def xu(a b:bW):Bool:=eqStr a.fName b.fName&&(bG a.jS b.jS&&(bG a.jR b.jR&&(bG a.lV b.lV&&(bG a.xH b.xH))))
theorem acS(x:bW):xu x x=true:=by simp[xu,bG,eqStr,gW]
structure bK where
 bY:Int
 fCount:Int
 vH:Int
 dw:Int
 Ak:Int
def dS(x:bK):List D:=[.int .i64 x.bY, .int .i64 x.fCount, .int .i64 x.vH, .int .i64 x.dw, .int .i64 x.Ak]
def xw(a b:bK):Bool:=bG a.bY b.bY&&(bG a.fCount b.fCount&&(bG a.vH b.vH&&(bG a.dw b.dw&&(bG a.Ak b.Ak))))
theorem acT(x:bK):xw x x=true:=by simp[xw,bG,eqStr,gW]
structure cu where
 fName:List UInt8
 xJ:Int
 qU:Int
 qg:Int
def dP(x:cu):List D:=[.str x.fName, .int .i64 x.xJ, .int .i64 x.qU, .int .i64 x.qg]
def cu.sz(x:cu):Nat:=x.fName.length
def wW(a b:cu):Bool:=eqStr a.fName b.fName&&(bG a.xJ b.xJ&&(bG a.qU b.qU&&(bG a.qg b.qg)))
theorem acK(x:cu):wW x x=true:=by simp[wW,bG,eqStr,gW]
structure aV where
 fId:List UInt8
 dK:Int
 iZ:Int
 kR:List UInt8
 xB:Int
 fValue:Int
def cO(x:aV):List D:=[.str x.fId, .int .i64 x.dK, .int .i64 x.iZ, .str x.kR, .int .i64 x.xB, .int .i64 x.fValue]
def aV.sz(x:aV):Nat:=x.fId.length+x.kR.length
def wV(a b:aV):Bool:=eqStr a.fId b.fId&&(bG a.dK b.dK&&(bG a.iZ b.iZ&&(eqStr a.kR b.kR&&(bG a.xB b.xB&&(bG a.fValue b.fValue)))))
theorem acI(x:aV):wV x x=true:=by simp[wV,bG,eqStr,gW]
structure aY where
 bT:Int
 fName:List UInt8
 fValue:Int
def dH(x:aY):List D:=[.int .i64 x.bT, .str x.fName, .int .i64 x.fValue]
def aY.sz(x:aY):Nat:=x.fName.length
def wY(a b:aY):Bool:=bG a.bT b.bT&&(eqStr a.fName b.fName&&(bG a.fValue b.fValue))
theorem acN(x:aY):wY x x=true:=by simp[wY,bG,eqStr,gW]
structure bg where
 fName:List UInt8
 dK:Int
def dI(x:bg):List D:=[.str x.fName, .int .i64 x.dK]
def bg.sz(x:bg):Nat:=x.fName.length
def xg(a b:bg):Bool:=eqStr a.fName b.fName&&(bG a.dK b.dK)
theorem acP(x:bg):xg x x=true:=by simp[xg,bG,eqStr,gW]
structure bM where
 fP:dn
 dU:List (bW)
 dw:Int
 dW:List (bK)
 dZ:List (Int)
 oG:Int
 eF:List (cu)
 aX:List (aV)
 bD:List (aY)
 iL:Int
 dJ:List (bC)
 dh:List (bg)
 fK:Int
def jQ(x:bM):List D:=[.str x.fP.fName, .int .i64 x.fP.bY, .int .i64 x.fP.uH, .sl 5 (x.dU.map dR), .int .i64 x.dw, .sl 5 (x.dW.map dS), .sl 1 (x.dZ.map encI), .int .i64 x.oG, .sl 4 (x.eF.map dP), .sl 6 (x.aX.map cO), .sl 3 (x.bD.map dH), .int .i64 x.iL, .sl 2 (x.dJ.map dM), .sl 2 (x.dh.map dI), .int .i64 x.fK]
def bM.sz(x:bM):Nat:=x.fP.sz+dG bW.sz x.dU+dG nT x.dW+dG nT x.dZ+dG cu.sz x.eF+dG aV.sz x.aX+dG aY.sz x.bD+dG bC.sz x.dJ+dG bg.sz x.dh
def Aj(a b:bM):Bool:=Dt a.fP b.fP&&((gX xu) a.dU b.dU&&(bG a.dw b.dw&&((gX xw) a.dW b.dW&&((gX bG) a.dZ b.dZ&&(bG a.oG b.oG&&((gX wW) a.eF b.eF&&((gX wV) a.aX b.aX&&((gX wY) a.bD b.bD&&(bG a.iL b.iL&&((gX wZ) a.dJ b.dJ&&((gX xg) a.dh b.dh&&(bG a.fK b.fK))))))))))))
theorem acM(x:bM):Aj x x=true:=by simp[Aj,bG,eqStr,gW,acJ,oD acS,oD acT,oD acH,oD acK,oD acI,oD acN,oD acO,oD acP]
structure jh where
 xC:Int
 iZ:Int
def iK(x:jh):List D:=[.int .i64 x.xC, .int .i64 x.iZ]
def wX(a b:jh):Bool:=bG a.xC b.xC&&(bG a.iZ b.iZ)
theorem acL(x:jh):wX x x=true:=by simp[wX,bG,eqStr,gW]
structure eP where
 fId:List UInt8
 bT:List UInt8
 vI:Int
 iZ:Int
 Am:Int
def iq(x:eP):List D:=[.str x.fId, .str x.bT, .int .i64 x.vI, .int .i64 x.iZ, .int .i64 x.Am]
def eP.sz(x:eP):Nat:=x.fId.length+x.bT.length
def xq(a b:eP):Bool:=eqStr a.fId b.fId&&(eqStr a.bT b.bT&&(bG a.vI b.vI&&(bG a.iZ b.iZ&&(bG a.Am b.Am))))
theorem acR(x:eP):xq x x=true:=by simp[xq,bG,eqStr,gW]
structure mF where
 fName:List UInt8
 xG:Int
 xE:Int
def wU(x:mF):List D:=[.str x.fName, .int .i64 x.xG, .int .i64 x.xE]
def mF.sz(x:mF):Nat:=x.fName.length
def Du(a b:mF):Bool:=eqStr a.fName b.fName&&(bG a.xG b.xG&&(bG a.xE b.xE))
theorem acU(x:mF):Du x x=true:=by simp[Du,bG,eqStr,gW]
structure fG where
 bJ:bM
 kD:List (jh)
 kF:List (eP)
 kE:List (eH)
 kG:mF
 kH:List (TStar)
def jv(x:fG):List D:=[.str x.bJ.fP.fName, .int .i64 x.bJ.fP.bY, .int .i64 x.bJ.fP.uH, .sl 5 (x.bJ.dU.map dR), .int .i64 x.bJ.dw, .sl 5 (x.bJ.dW.map dS), .sl 1 (x.bJ.dZ.map encI), .int .i64 x.bJ.oG, .sl 4 (x.bJ.eF.map dP), .sl 6 (x.bJ.aX.map cO), .sl 3 (x.bJ.bD.map dH), .int .i64 x.bJ.iL, .sl 2 (x.bJ.dJ.map dM), .sl 2 (x.bJ.dh.map dI), .int .i64 x.bJ.fK, .sl 2 (x.kD.map iK), .sl 5 (x.kF.map iq), .sl 2 (x.kE.map ig), .str x.kG.fName, .int .i64 x.kG.xG, .int .i64 x.kG.xE, .sl 5 (x.kH.map gV)]
def fG.sz(x:fG):Nat:=x.bJ.sz+dG nT x.kD+dG eP.sz x.kF+dG eH.sz x.kE+x.kG.sz+dG TStar.sz x.kH
def Dq(a b:fG):Bool:=Aj a.bJ b.bJ&&((gX wX) a.kD b.kD&&((gX xq) a.kF b.kF&&((gX xk) a.kE b.kE&&(Du a.kG b.kG&&((gX xA) a.kH b.kH)))))
theorem QU(x:fG):Dq x x=true:=by simp[Dq,bG,eqStr,gW,acM,acU,oD acL,oD acR,oD acQ,oD acV]
def agl(x:fG):List D:=[.sl 2 (x.kD.map iK), .sl 5 (x.kF.map iq), .sl 2 (x.kE.map ig), .str x.kG.fName, .int .i64 x.kG.xG, .int .i64 x.kG.xE, .sl 5 (x.kH.map gV)]
def oz(x:bM)(r:List D):List D:= .str x.fP.fName:: .int .i64 x.fP.bY:: .int .i64 x.fP.uH:: .sl 5 (x.dU.map dR):: .int .i64 x.dw:: .sl 5 (x.dW.map dS):: .sl 1 (x.dZ.map encI):: .int .i64 x.oG:: .sl 4 (x.eF.map dP):: .sl 6 (x.aX.map cO):: .sl 3 (x.bD.map dH):: .int .i64 x.iL:: .sl 2 (x.dJ.map dM):: .sl 2 (x.dh.map dI):: .int .i64 x.fK::r
end Go.Eng
