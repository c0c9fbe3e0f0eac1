/-
  What the marking functions of a law do with the parts of desks.
  No conditions.
-/
import Derived.Test.YtocoppijdodffaaGreatDoorHM
import Derived.Test.YtocoppijdodffaaGreatDoorDK
set_option linter.unusedVariables false
set_option linter.unusedSimpArgs false
set_option maxHeartbeats 4000000
namespace Go.Eng
open Go Go.RowKit Go.Proofs
set_option maxRecDepth 100000
def TW(_:jh)(q:Int):jh:= { xC:=q,iZ:=q+1 }
def Ud(_:eP)(q:Int):eP:= { fId:=kN (q),bT:=kN (q+1),vI:=q+1+1,iZ:=q+1+1+1,Am:=q+1+1+1+1 }
def Uc(_:eH)(q:Int):eH:= { fId:=kN (q),fText:=kN (q+1) }
def Ug(_:TStar)(q:Int):TStar:= { fId:=kN (q),fRight:=q+1,fDeclination:=q+1+1,fMagnitude:=q+1+1+1,fColour:=q+1+1+1+1 }
theorem O8(a:List (jh))(q:Int)(h0:0≤q∧q+2*a.length≤4611686018427387904):ak Tryz.prog 38 G0 1 [.row 139 2 (a.map iK)] [.h 0, .int .i64 q] (fun d os=>d= .int .i64 (q+2*a.length)∧os=[.row 139 2 ((jk TW 2 q a).map iK)]):=by
 refine aF Tryz.func38 rfl aB rfl (fun w0 F0 lent β0=> ?_)
 repeat'(first|refine sC ?_|((with_reducible refine aj ?_);first|(refine sS ?_;intro Q' hn he hr)|refine sA ?_)|(refine sH ?_;clear hn he hr Q')|((conv=>whnf);refine sK ?_))
 refine aQ (fun k:Nat=>[(0,.h 0),(1,.int .i64 (q+2*k)),(5,.int .i64 k)]) (fun k=>[.row 139 2 ((bF TW 2 q a k).map iK)]) (fun k=>k≤a.length) (fun k=>a.length-k) 0 ah qO (fun k hk Q' hn he hr=> ?_)
 repeat'(first|refine sC ?_|((with_reducible refine aj ?_);first|(refine sS ?_;intro Q' hn he hr)|refine sA ?_)|(refine sH ?_;clear hn he hr Q')|((conv=>whnf);first|refine sK ?_|(refine sB ?_;repeat'(refine aA ?_ ?_<;>intro hb<;>try exact cls))|(refine dD.bF fun hlen=> ?_)|(refine aW.bF ah ?_)|(refine aW.set ?_;repeat'(refine aW.set ?_);refine aW.bF ah ?_)|(refine aJ.bF ah fun x hx=> ?_)|(refine aJ.set uy ?_)|((with_reducible refine bP ?_);(refine au [0] rfl rfl rfl ⟨?_,?_⟩))|refine sP ?_|(refine sH ?_;clear hn he hr Q')))
 ·refine⟨k+1,by omega,by omega,?_⟩
  refine aC rfl rfl ?_ ⟨rfl,?_,rfl,trivial⟩
  ·rw[←qA hx,List.map_set]
   try simp only[List.set_set]
   rfl
  ·(conv=>rhs;whnf);refine congrArg (D.int _) ?_;omega
 ·have h2:k=a.length:=by omega
  subst h2
  rfl
 ·have h2:k=a.length:=by omega
  subst h2
  rfl
theorem Pn(a:List (eP))(q:Int)(h0:0≤q∧q+5*a.length≤4611686018427387904):ak Tryz.prog 39 G0 1 [.row 142 5 (a.map iq)] [.h 0, .int .i64 q] (fun d os=>d= .int .i64 (q+5*a.length)∧os=[.row 142 5 ((jk Ud 5 q a).map iq)]):=by
 refine aF Tryz.func39 rfl aB rfl (fun w0 F0 lent β0=> ?_)
 repeat'(first|refine sC ?_|((with_reducible refine aj ?_);first|(refine sS ?_;intro Q' hn he hr)|refine sA ?_)|(refine sH ?_;clear hn he hr Q')|((conv=>whnf);refine sK ?_))
 refine aQ (fun k:Nat=>[(0,.h 0),(1,.int .i64 (q+5*k)),(5,.int .i64 k)]) (fun k=>[.row 142 5 ((bF Ud 5 q a k).map iq)]) (fun k=>k≤a.length) (fun k=>a.length-k) 0 ah qO (fun k hk Q' hn he hr=> ?_)
 repeat'(first|refine sC ?_|((with_reducible refine aj ?_);first|(refine sS ?_;intro Q' hn he hr)|refine sA ?_)|(refine sH ?_;clear hn he hr Q')|((conv=>whnf);first|refine sK ?_|(refine sB ?_;repeat'(refine aA ?_ ?_<;>intro hb<;>try exact cls))|(refine dD.bF fun hlen=> ?_)|(refine aW.bF ah ?_)|(refine aW.set ?_;repeat'(refine aW.set ?_);refine aW.bF ah ?_)|(refine aJ.bF ah fun x hx=> ?_)|(refine aJ.set uy ?_)|((with_reducible refine aH ?_);(refine aG (rY _ ah) rfl rfl ?_))|((with_reducible refine bP ?_);(refine au [0] rfl rfl rfl ⟨?_,?_⟩))|refine sP ?_|(refine sH ?_;clear hn he hr Q')))
 ·refine⟨k+1,by omega,by omega,?_⟩
  refine aC rfl rfl ?_ ⟨rfl,?_,rfl,trivial⟩
  ·rw[←qA hx,List.map_set]
   try simp only[List.set_set]
   rfl
  ·(conv=>rhs;whnf);refine congrArg (D.int _) ?_;omega
 ·have h2:k=a.length:=by omega
  subst h2
  rfl
 ·have h2:k=a.length:=by omega
  subst h2
  rfl
theorem Pm(a:List (eH))(q:Int)(h0:0≤q∧q+2*a.length≤4611686018427387904):ak Tryz.prog 40 G0 1 [.row 144 2 (a.map ig)] [.h 0, .int .i64 q] (fun d os=>d= .int .i64 (q+2*a.length)∧os=[.row 144 2 ((jk Uc 2 q a).map ig)]):=by
 refine aF Tryz.func40 rfl aB rfl (fun w0 F0 lent β0=> ?_)
 repeat'(first|refine sC ?_|((with_reducible refine aj ?_);first|(refine sS ?_;intro Q' hn he hr)|refine sA ?_)|(refine sH ?_;clear hn he hr Q')|((conv=>whnf);refine sK ?_))
 refine aQ (fun k:Nat=>[(0,.h 0),(1,.int .i64 (q+2*k)),(5,.int .i64 k)]) (fun k=>[.row 144 2 ((bF Uc 2 q a k).map ig)]) (fun k=>k≤a.length) (fun k=>a.length-k) 0 ah qO (fun k hk Q' hn he hr=> ?_)
 repeat'(first|refine sC ?_|((with_reducible refine aj ?_);first|(refine sS ?_;intro Q' hn he hr)|refine sA ?_)|(refine sH ?_;clear hn he hr Q')|((conv=>whnf);first|refine sK ?_|(refine sB ?_;repeat'(refine aA ?_ ?_<;>intro hb<;>try exact cls))|(refine dD.bF fun hlen=> ?_)|(refine aW.bF ah ?_)|(refine aW.set ?_;repeat'(refine aW.set ?_);refine aW.bF ah ?_)|(refine aJ.bF ah fun x hx=> ?_)|(refine aJ.set uy ?_)|((with_reducible refine aH ?_);(refine aG (rY _ ah) rfl rfl ?_))|((with_reducible refine bP ?_);(refine au [0] rfl rfl rfl ⟨?_,?_⟩))|refine sP ?_|(refine sH ?_;clear hn he hr Q')))
 ·refine⟨k+1,by omega,by omega,?_⟩
  refine aC rfl rfl ?_ ⟨rfl,?_,rfl,trivial⟩
  ·rw[←qA hx,List.map_set]
   try simp only[List.set_set]
   rfl
  ·(conv=>rhs;whnf);refine congrArg (D.int _) ?_;omega
 ·have h2:k=a.length:=by omega
  subst h2
  rfl
 ·have h2:k=a.length:=by omega
  subst h2
  rfl
theorem Pv(a:List (TStar))(q:Int)(h0:0≤q∧q+5*a.length≤4611686018427387904):ak Tryz.prog 41 G0 1 [.row 146 5 (a.map gV)] [.h 0, .int .i64 q] (fun d os=>d= .int .i64 (q+5*a.length)∧os=[.row 146 5 ((jk Ug 5 q a).map gV)]):=by
 refine aF Tryz.func41 rfl aB rfl (fun w0 F0 lent β0=> ?_)
 repeat'(first|refine sC ?_|((with_reducible refine aj ?_);first|(refine sS ?_;intro Q' hn he hr)|refine sA ?_)|(refine sH ?_;clear hn he hr Q')|((conv=>whnf);refine sK ?_))
 refine aQ (fun k:Nat=>[(0,.h 0),(1,.int .i64 (q+5*k)),(5,.int .i64 k)]) (fun k=>[.row 146 5 ((bF Ug 5 q a k).map gV)]) (fun k=>k≤a.length) (fun k=>a.length-k) 0 ah qO (fun k hk Q' hn he hr=> ?_)
 repeat'(first|refine sC ?_|((with_reducible refine aj ?_);first|(refine sS ?_;intro Q' hn he hr)|refine sA ?_)|(refine sH ?_;clear hn he hr Q')|((conv=>whnf);first|refine sK ?_|(refine sB ?_;repeat'(refine aA ?_ ?_<;>intro hb<;>try exact cls))|(refine dD.bF fun hlen=> ?_)|(refine aW.bF ah ?_)|(refine aW.set ?_;repeat'(refine aW.set ?_);refine aW.bF ah ?_)|(refine aJ.bF ah fun x hx=> ?_)|(refine aJ.set uy ?_)|((with_reducible refine aH ?_);(refine aG (rY _ ah) rfl rfl ?_))|((with_reducible refine bP ?_);(refine au [0] rfl rfl rfl ⟨?_,?_⟩))|refine sP ?_|(refine sH ?_;clear hn he hr Q')))
 ·refine⟨k+1,by omega,by omega,?_⟩
  refine aC rfl rfl ?_ ⟨rfl,?_,rfl,trivial⟩
  ·rw[←qA hx,List.map_set]
   try simp only[List.set_set]
   rfl
  ·(conv=>rhs;whnf);refine congrArg (D.int _) ?_;omega
 ·have h2:k=a.length:=by omega
  subst h2
  rfl
 ·have h2:k=a.length:=by omega
  subst h2
  rfl
end Go.Eng
