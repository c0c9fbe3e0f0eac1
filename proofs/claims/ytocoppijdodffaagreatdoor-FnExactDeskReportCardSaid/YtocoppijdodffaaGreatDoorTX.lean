/-
  Contracts of functions of the program and of the reference, and plain laws: a bundle of texts.
  No conditions.
-/
import Derived.Test.YtocoppijdodffaaGreatDoorEC
set_option linter.unusedVariables false
set_option linter.unusedSimpArgs false
namespace Go.Eng
open Go Go.RowKit
structure bC where
 fName:List UInt8
 xI:Int
def dM(x:bC):List D:=[.str x.fName, .int .i64 x.xI]
def bC.sz(x:bC):Nat:=x.fName.length
def wZ(a b:bC):Bool:=eqStr a.fName b.fName&&(bG a.xI b.xI)
theorem acO(x:bC):wZ x x=true:=by simp[wZ,bG,eqStr,gW]
end Go.Eng
namespace Go.Eng
open Go Go.RowKit
structure eH where
 fId:List UInt8
 fText:List UInt8
def ig(x:eH):List D:=[.str x.fId, .str x.fText]
def eH.sz(x:eH):Nat:=x.fId.length+x.fText.length
def xk(a b:eH):Bool:=eqStr a.fId b.fId&&(eqStr a.fText b.fText)
theorem acQ(x:eH):xk x x=true:=by simp[xk,bG,eqStr,gW]
end Go.Eng
namespace Go.Eng
open Go Go.RowKit
structure bI where
 fX:Int
 fY:Int
 fZ:Int
def eu(x:bI):List D:=[.int .i64 x.fX, .int .i64 x.fY, .int .i64 x.fZ]
end Go.Eng
namespace Go.Eng
open Go Go.RowKit
structure Oh where
 bT:List UInt8
 fName:List UInt8
 fText:List UInt8
def Oh.sz(x:Oh):Nat:=x.bT.length+x.fName.length+x.fText.length
end Go.Eng
namespace Go.Eng
open Go Go.RowKit
def joinL:List (List UInt8)→List UInt8
 |[]=>[]
 |[p]=>p
 |p::q::r=>p++44::joinL (q::r)
theorem Tv: ∀l:List (List UInt8),(∀x∈l,x.length≤30)→(joinL l).length≤31*l.length:=by
 intro l
 induction l with
 |nil=>intro _;simp[joinL]
 |cons x r ih=>
  intro h
  have h1:=h x fB
  have h2:=ih fun y hy=>h y (by simp[hy])
  cases r with
  |nil=>simp[joinL];omega
  |cons y r=>
   rw[joinL]
   simp only[List.length_append,List.length_cons] at h2⊢
   omega
end Go.Eng
