/-
  What the marking functions of a law do with the parts of houses, and what its scaffolding does with findings.
  No conditions.
-/
import Derived.Test.YtocoppijdodffaaGreatDoorHX
import Derived.Test.YtocoppijdodffaaGreatDoorMF0
set_option linter.unusedVariables false
set_option linter.unusedSimpArgs false
set_option maxHeartbeats 4000000
namespace Go.Eng
open Go Go.RowKit Go.Proofs
set_option maxRecDepth 100000
def Ue(_:bW)(q:Int):bW:= { fName:=kN (q),jS:=q+1,jR:=q+1+1,lV:=q+1+1+1,xH:=q+1+1+1+1 }
def Uf(_:bK)(q:Int):bK:= { bY:=q,fCount:=q+1,vH:=q+1+1,dw:=q+1+1+1,Ak:=q+1+1+1+1 }
def TV(_:cu)(q:Int):cu:= { fName:=kN (q),xJ:=q+1,qU:=q+1+1,qg:=q+1+1+1 }
def TU(_:aV)(q:Int):aV:= { fId:=kN (q),dK:=q+1,iZ:=q+1+1,kR:=kN (q+1+1+1),xB:=q+1+1+1+1,fValue:=q+1+1+1+1+1 }
def TY(_:aY)(q:Int):aY:= { bT:=q,fName:=kN (q+1),fValue:=q+1+1 }
def Ua(_:bC)(q:Int):bC:= { fName:=kN (q),xI:=q+1 }
def Ub(_:bg)(q:Int):bg:= { fName:=kN (q),dK:=q+1 }
theorem Po(a:List (bW))(q:Int)(h0:0≤q∧q+5*a.length≤4611686018427387904):ak Tryz.prog 100 G0 1 [.row 211 5 (a.map dR)] [.h 0, .int .i64 q] (fun d os=>d= .int .i64 (q+5*a.length)∧os=[.row 211 5 ((jk Ue 5 q a).map dR)]):=by
 refine aF Tryz.func100 rfl aB rfl (fun w0 F0 lent β0=> ?_)
 repeat'(first|refine sC ?_|((with_reducible refine aj ?_);first|(refine sS ?_;intro Q' hn he hr)|refine sA ?_)|(refine sH ?_;clear hn he hr Q')|((conv=>whnf);refine sK ?_))
 refine aQ (fun k:Nat=>[(0,.h 0),(1,.int .i64 (q+5*k)),(5,.int .i64 k)]) (fun k=>[.row 211 5 ((bF Ue 5 q a k).map dR)]) (fun k=>k≤a.length) (fun k=>a.length-k) 0 ah qO (fun k hk Q' hn he hr=> ?_)
 repeat'(first|refine sC ?_|((with_reducible refine aj ?_);first|(refine sS ?_;intro Q' hn he hr)|refine sA ?_)|(refine sH ?_;clear hn he hr Q')|((conv=>whnf);first|refine sK ?_|(refine sB ?_;repeat'(refine aA ?_ ?_<;>intro hb<;>try exact cls))|(refine dD.bF fun hlen=> ?_)|(refine aW.bF ah ?_)|(refine aW.set ?_;repeat'(refine aW.set ?_);refine aW.bF ah ?_)|(refine aJ.bF ah fun x hx=> ?_)|(refine aJ.set uy ?_)|((with_reducible refine aH ?_);(refine aG (rY _ ah) rfl rfl ?_))|((with_reducible refine bP ?_);(refine au [0] rfl rfl rfl ⟨?_,?_⟩))|refine sP ?_|(refine sH ?_;clear hn he hr Q')))
 ·refine⟨k+1,by omega,by omega,?_⟩
  refine aC rfl rfl ?_ ⟨rfl,?_,rfl,trivial⟩
  ·rw[←qA hx,List.map_set]
   try simp only[List.set_set]
   rfl
  ·(conv=>rhs;whnf);refine congrArg (D.int _) ?_;omega
 ·have h2:k=a.length:=by omega
  subst h2
  rfl
 ·have h2:k=a.length:=by omega
  subst h2
  rfl
theorem Pq(a:List (bK))(q:Int)(h0:0≤q∧q+5*a.length≤4611686018427387904):ak Tryz.prog 101 G0 1 [.row 214 5 (a.map dS)] [.h 0, .int .i64 q] (fun d os=>d= .int .i64 (q+5*a.length)∧os=[.row 214 5 ((jk Uf 5 q a).map dS)]):=by
 refine aF Tryz.func101 rfl aB rfl (fun w0 F0 lent β0=> ?_)
 repeat'(first|refine sC ?_|((with_reducible refine aj ?_);first|(refine sS ?_;intro Q' hn he hr)|refine sA ?_)|(refine sH ?_;clear hn he hr Q')|((conv=>whnf);refine sK ?_))
 refine aQ (fun k:Nat=>[(0,.h 0),(1,.int .i64 (q+5*k)),(5,.int .i64 k)]) (fun k=>[.row 214 5 ((bF Uf 5 q a k).map dS)]) (fun k=>k≤a.length) (fun k=>a.length-k) 0 ah qO (fun k hk Q' hn he hr=> ?_)
 repeat'(first|refine sC ?_|((with_reducible refine aj ?_);first|(refine sS ?_;intro Q' hn he hr)|refine sA ?_)|(refine sH ?_;clear hn he hr Q')|((conv=>whnf);first|refine sK ?_|(refine sB ?_;repeat'(refine aA ?_ ?_<;>intro hb<;>try exact cls))|(refine dD.bF fun hlen=> ?_)|(refine aW.bF ah ?_)|(refine aW.set ?_;repeat'(refine aW.set ?_);refine aW.bF ah ?_)|(refine aJ.bF ah fun x hx=> ?_)|(refine aJ.set uy ?_)|((with_reducible refine bP ?_);(refine au [0] rfl rfl rfl ⟨?_,?_⟩))|refine sP ?_|(refine sH ?_;clear hn he hr Q')))
 ·refine⟨k+1,by omega,by omega,?_⟩
  refine aC rfl rfl ?_ ⟨rfl,?_,rfl,trivial⟩
  ·rw[←qA hx,List.map_set]
   try simp only[List.set_set]
   rfl
  ·(conv=>rhs;whnf);refine congrArg (D.int _) ?_;omega
 ·have h2:k=a.length:=by omega
  subst h2
  rfl
 ·have h2:k=a.length:=by omega
  subst h2
  rfl
theorem O7(a:List (cu))(q:Int)(h0:0≤q∧q+4*a.length≤4611686018427387904):ak Tryz.prog 103 G0 1 [.row 217 4 (a.map dP)] [.h 0, .int .i64 q] (fun d os=>d= .int .i64 (q+4*a.length)∧os=[.row 217 4 ((jk TV 4 q a).map dP)]):=by
 refine aF Tryz.func103 rfl aB rfl (fun w0 F0 lent β0=> ?_)
 repeat'(first|refine sC ?_|((with_reducible refine aj ?_);first|(refine sS ?_;intro Q' hn he hr)|refine sA ?_)|(refine sH ?_;clear hn he hr Q')|((conv=>whnf);refine sK ?_))
 refine aQ (fun k:Nat=>[(0,.h 0),(1,.int .i64 (q+4*k)),(5,.int .i64 k)]) (fun k=>[.row 217 4 ((bF TV 4 q a k).map dP)]) (fun k=>k≤a.length) (fun k=>a.length-k) 0 ah qO (fun k hk Q' hn he hr=> ?_)
 repeat'(first|refine sC ?_|((with_reducible refine aj ?_);first|(refine sS ?_;intro Q' hn he hr)|refine sA ?_)|(refine sH ?_;clear hn he hr Q')|((conv=>whnf);first|refine sK ?_|(refine sB ?_;repeat'(refine aA ?_ ?_<;>intro hb<;>try exact cls))|(refine dD.bF fun hlen=> ?_)|(refine aW.bF ah ?_)|(refine aW.set ?_;repeat'(refine aW.set ?_);refine aW.bF ah ?_)|(refine aJ.bF ah fun x hx=> ?_)|(refine aJ.set uy ?_)|((with_reducible refine aH ?_);(refine aG (rY _ ah) rfl rfl ?_))|((with_reducible refine bP ?_);(refine au [0] rfl rfl rfl ⟨?_,?_⟩))|refine sP ?_|(refine sH ?_;clear hn he hr Q')))
 ·refine⟨k+1,by omega,by omega,?_⟩
  refine aC rfl rfl ?_ ⟨rfl,?_,rfl,trivial⟩
  ·rw[←qA hx,List.map_set]
   try simp only[List.set_set]
   rfl
  ·(conv=>rhs;whnf);refine congrArg (D.int _) ?_;omega
 ·have h2:k=a.length:=by omega
  subst h2
  rfl
 ·have h2:k=a.length:=by omega
  subst h2
  rfl
theorem O6(a:List (aV))(q:Int)(h0:0≤q∧q+6*a.length≤4611686018427387904):ak Tryz.prog 104 G0 1 [.row 219 6 (a.map cO)] [.h 0, .int .i64 q] (fun d os=>d= .int .i64 (q+6*a.length)∧os=[.row 219 6 ((jk TU 6 q a).map cO)]):=by
 refine aF Tryz.func104 rfl aB rfl (fun w0 F0 lent β0=> ?_)
 repeat'(first|refine sC ?_|((with_reducible refine aj ?_);first|(refine sS ?_;intro Q' hn he hr)|refine sA ?_)|(refine sH ?_;clear hn he hr Q')|((conv=>whnf);refine sK ?_))
 refine aQ (fun k:Nat=>[(0,.h 0),(1,.int .i64 (q+6*k)),(5,.int .i64 k)]) (fun k=>[.row 219 6 ((bF TU 6 q a k).map cO)]) (fun k=>k≤a.length) (fun k=>a.length-k) 0 ah qO (fun k hk Q' hn he hr=> ?_)
 repeat'(first|refine sC ?_|((with_reducible refine aj ?_);first|(refine sS ?_;intro Q' hn he hr)|refine sA ?_)|(refine sH ?_;clear hn he hr Q')|((conv=>whnf);first|refine sK ?_|(refine sB ?_;repeat'(refine aA ?_ ?_<;>intro hb<;>try exact cls))|(refine dD.bF fun hlen=> ?_)|(refine aW.bF ah ?_)|(refine aW.set ?_;repeat'(refine aW.set ?_);refine aW.bF ah ?_)|(refine aJ.bF ah fun x hx=> ?_)|(refine aJ.set uy ?_)|((with_reducible refine aH ?_);(refine aG (rY _ ah) rfl rfl ?_))|((with_reducible refine bP ?_);(refine au [0] rfl rfl rfl ⟨?_,?_⟩))|refine sP ?_|(refine sH ?_;clear hn he hr Q')))
 ·refine⟨k+1,by omega,by omega,?_⟩
  refine aC rfl rfl ?_ ⟨rfl,?_,rfl,trivial⟩
  ·rw[←qA hx,List.map_set]
   try simp only[List.set_set]
   rfl
  ·(conv=>rhs;whnf);refine congrArg (D.int _) ?_;omega
 ·have h2:k=a.length:=by omega
  subst h2
  rfl
 ·have h2:k=a.length:=by omega
  subst h2
  rfl
theorem Pg(a:List (aY))(q:Int)(h0:0≤q∧q+3*a.length≤4611686018427387904):ak Tryz.prog 105 G0 1 [.row 221 3 (a.map dH)] [.h 0, .int .i64 q] (fun d os=>d= .int .i64 (q+3*a.length)∧os=[.row 221 3 ((jk TY 3 q a).map dH)]):=by
 refine aF Tryz.func105 rfl aB rfl (fun w0 F0 lent β0=> ?_)
 repeat'(first|refine sC ?_|((with_reducible refine aj ?_);first|(refine sS ?_;intro Q' hn he hr)|refine sA ?_)|(refine sH ?_;clear hn he hr Q')|((conv=>whnf);refine sK ?_))
 refine aQ (fun k:Nat=>[(0,.h 0),(1,.int .i64 (q+3*k)),(5,.int .i64 k)]) (fun k=>[.row 221 3 ((bF TY 3 q a k).map dH)]) (fun k=>k≤a.length) (fun k=>a.length-k) 0 ah qO (fun k hk Q' hn he hr=> ?_)
 repeat'(first|refine sC ?_|((with_reducible refine aj ?_);first|(refine sS ?_;intro Q' hn he hr)|refine sA ?_)|(refine sH ?_;clear hn he hr Q')|((conv=>whnf);first|refine sK ?_|(refine sB ?_;repeat'(refine aA ?_ ?_<;>intro hb<;>try exact cls))|(refine dD.bF fun hlen=> ?_)|(refine aW.bF ah ?_)|(refine aW.set ?_;repeat'(refine aW.set ?_);refine aW.bF ah ?_)|(refine aJ.bF ah fun x hx=> ?_)|(refine aJ.set uy ?_)|((with_reducible refine aH ?_);(refine aG (rY _ ah) rfl rfl ?_))|((with_reducible refine bP ?_);(refine au [0] rfl rfl rfl ⟨?_,?_⟩))|refine sP ?_|(refine sH ?_;clear hn he hr Q')))
 ·refine⟨k+1,by omega,by omega,?_⟩
  refine aC rfl rfl ?_ ⟨rfl,?_,rfl,trivial⟩
  ·rw[←qA hx,List.map_set]
   try simp only[List.set_set]
   rfl
  ·(conv=>rhs;whnf);refine congrArg (D.int _) ?_;omega
 ·have h2:k=a.length:=by omega
  subst h2
  rfl
 ·have h2:k=a.length:=by omega
  subst h2
  rfl
theorem Ph(a:List (bC))(q:Int)(h0:0≤q∧q+2*a.length≤4611686018427387904):ak Tryz.prog 106 G0 1 [.row 223 2 (a.map dM)] [.h 0, .int .i64 q] (fun d os=>d= .int .i64 (q+2*a.length)∧os=[.row 223 2 ((jk Ua 2 q a).map dM)]):=by
 refine aF Tryz.func106 rfl aB rfl (fun w0 F0 lent β0=> ?_)
 repeat'(first|refine sC ?_|((with_reducible refine aj ?_);first|(refine sS ?_;intro Q' hn he hr)|refine sA ?_)|(refine sH ?_;clear hn he hr Q')|((conv=>whnf);refine sK ?_))
 refine aQ (fun k:Nat=>[(0,.h 0),(1,.int .i64 (q+2*k)),(5,.int .i64 k)]) (fun k=>[.row 223 2 ((bF Ua 2 q a k).map dM)]) (fun k=>k≤a.length) (fun k=>a.length-k) 0 ah qO (fun k hk Q' hn he hr=> ?_)
 repeat'(first|refine sC ?_|((with_reducible refine aj ?_);first|(refine sS ?_;intro Q' hn he hr)|refine sA ?_)|(refine sH ?_;clear hn he hr Q')|((conv=>whnf);first|refine sK ?_|(refine sB ?_;repeat'(refine aA ?_ ?_<;>intro hb<;>try exact cls))|(refine dD.bF fun hlen=> ?_)|(refine aW.bF ah ?_)|(refine aW.set ?_;repeat'(refine aW.set ?_);refine aW.bF ah ?_)|(refine aJ.bF ah fun x hx=> ?_)|(refine aJ.set uy ?_)|((with_reducible refine aH ?_);(refine aG (rY _ ah) rfl rfl ?_))|((with_reducible refine bP ?_);(refine au [0] rfl rfl rfl ⟨?_,?_⟩))|refine sP ?_|(refine sH ?_;clear hn he hr Q')))
 ·refine⟨k+1,by omega,by omega,?_⟩
  refine aC rfl rfl ?_ ⟨rfl,?_,rfl,trivial⟩
  ·rw[←qA hx,List.map_set]
   try simp only[List.set_set]
   rfl
  ·(conv=>rhs;whnf);refine congrArg (D.int _) ?_;omega
 ·have h2:k=a.length:=by omega
  subst h2
  rfl
 ·have h2:k=a.length:=by omega
  subst h2
  rfl
theorem Pj(a:List (bg))(q:Int)(h0:0≤q∧q+2*a.length≤4611686018427387904):ak Tryz.prog 107 G0 1 [.row 225 2 (a.map dI)] [.h 0, .int .i64 q] (fun d os=>d= .int .i64 (q+2*a.length)∧os=[.row 225 2 ((jk Ub 2 q a).map dI)]):=by
 refine aF Tryz.func107 rfl aB rfl (fun w0 F0 lent β0=> ?_)
 repeat'(first|refine sC ?_|((with_reducible refine aj ?_);first|(refine sS ?_;intro Q' hn he hr)|refine sA ?_)|(refine sH ?_;clear hn he hr Q')|((conv=>whnf);refine sK ?_))
 refine aQ (fun k:Nat=>[(0,.h 0),(1,.int .i64 (q+2*k)),(5,.int .i64 k)]) (fun k=>[.row 225 2 ((bF Ub 2 q a k).map dI)]) (fun k=>k≤a.length) (fun k=>a.length-k) 0 ah qO (fun k hk Q' hn he hr=> ?_)
 repeat'(first|refine sC ?_|((with_reducible refine aj ?_);first|(refine sS ?_;intro Q' hn he hr)|refine sA ?_)|(refine sH ?_;clear hn he hr Q')|((conv=>whnf);first|refine sK ?_|(refine sB ?_;repeat'(refine aA ?_ ?_<;>intro hb<;>try exact cls))|(refine dD.bF fun hlen=> ?_)|(refine aW.bF ah ?_)|(refine aW.set ?_;repeat'(refine aW.set ?_);refine aW.bF ah ?_)|(refine aJ.bF ah fun x hx=> ?_)|(refine aJ.set uy ?_)|((with_reducible refine aH ?_);(refine aG (rY _ ah) rfl rfl ?_))|((with_reducible refine bP ?_);(refine au [0] rfl rfl rfl ⟨?_,?_⟩))|refine sP ?_|(refine sH ?_;clear hn he hr Q')))
 ·refine⟨k+1,by omega,by omega,?_⟩
  refine aC rfl rfl ?_ ⟨rfl,?_,rfl,trivial⟩
  ·rw[←qA hx,List.map_set]
   try simp only[List.set_set]
   rfl
  ·(conv=>rhs;whnf);refine congrArg (D.int _) ?_;omega
 ·have h2:k=a.length:=by omega
  subst h2
  rfl
 ·have h2:k=a.length:=by omega
  subst h2
  rfl
end Go.Eng
