/-
  Stars: validity, texts, blocks of stars.
  No conditions.
-/
import Derived.Test.YtocoppijdodffaaGreatDoorV0
import Derived.Test.YtocoppijdodffaaGreatDoorD1
import Derived.Test.YtocoppijdodffaaGreatDoorTX
set_option linter.unusedVariables false
set_option linter.unusedSimpArgs false
set_option maxHeartbeats 4000000
namespace Go.Eng
open Go Go.RowKit Go.Proofs
set_option maxRecDepth 100000
structure TStar where
 fId:List UInt8
 fRight:Int
 fDeclination:Int
 fMagnitude:Int
 fColour:Int
def gV(x:TStar):List D:=[.str x.fId, .int .i64 x.fRight, .int .i64 x.fDeclination, .int .i64 x.fMagnitude, .int .i64 x.fColour]
def TStar.sz(x:TStar):Nat:=x.fId.length
def xA(a b:TStar):Bool:=eqStr a.fId b.fId&&(bG a.fRight b.fRight&&(bG a.fDeclination b.fDeclination&&(bG a.fMagnitude b.fMagnitude&&(bG a.fColour b.fColour))))
theorem acV(x:TStar):xA x x=true:=by simp[xA,bG,eqStr,gW]
def wR(r d:Int):Bool:=inB r 0 359999&&inB d (-90000) 90000
theorem PY(r d:Int):ak Tryz.prog 222 G0 0 [] [.int .i64 r, .int .i64 d] (fun e os=>e= .bool (wR r d)∧os=[]):=by
 refine aF Tryz.func222 rfl aB rfl (fun w0 F0 lent β0=> ?_)
 repeat'(first|refine sC ?_|((with_reducible refine aj ?_);first|(refine sS ?_;intro Q' hn he hr)|refine sA ?_)|(refine sH ?_;clear hn he hr Q')|((conv=>whnf);first|refine sK ?_|(refine sB ?_;repeat'(first|refine sb0 ?_|(refine aA ?_ ?_<;>intro hb<;>try exact cls)))|((with_reducible refine aH ?_);(refine aG (iQ _ _ _) rfl rfl ?_))|(refine au [] rfl rfl rfl ⟨?_,rfl⟩;conv=>lhs;whnf)))
 all_goals simp_all[wR]
theorem ZE(r:Int):ak Tryz.prog 249 G0 0 [] [.int .i64 r] (fun e os=>e= .bool (inB r 0 359999)∧os=[]):=by
 refine aF Tryz.func249 rfl aB rfl (fun w0 F0 lent β0=> ?_)
 repeat'(first|refine sC ?_|((with_reducible refine aj ?_);first|(refine sS ?_;intro Q' hn he hr)|refine sA ?_)|(refine sH ?_;clear hn he hr Q')|((conv=>whnf);first|refine sK ?_|((with_reducible refine aH ?_);(refine aG (iy _ _ _) rfl rfl ?_))|(refine au [] rfl rfl rfl ⟨?_,rfl⟩;conv=>lhs;whnf)))
theorem ZF(r d:Int):ak Tryz.prog 196 G0 0 [] [.int .i64 r, .int .i64 d] (fun e os=>e= .bool (wR r d)∧os=[]):=by
 refine aF Tryz.func196 rfl aB rfl (fun w0 F0 lent β0=> ?_)
 repeat'(first|refine sC ?_|((with_reducible refine aj ?_);first|(refine sS ?_;intro Q' hn he hr)|refine sA ?_)|(refine sH ?_;clear hn he hr Q')|((conv=>whnf);first|refine sK ?_|(refine sB ?_;repeat'(first|refine sb0 ?_|(refine aA ?_ ?_<;>intro hb<;>try exact cls)))|((with_reducible refine aH ?_);first|(refine aG (ZE _) rfl rfl ?_)|(refine aG (iy _ _ _) rfl rfl ?_))|(refine au [] rfl rfl rfl ⟨?_,rfl⟩;conv=>lhs;whnf)))
 all_goals simp_all[wR]
def starB(x:TStar):Bool:=nameB x.fId&&(wR x.fRight x.fDeclination&&(inB x.fMagnitude (-200) 800&&inB x.fColour (-50) 250))
theorem Y2(x:TStar):ak Tryz.prog 155 G0 0 [] [.agg (gV x)] (fun e os=>e= .bool (starB x)∧os=[]):=by
 refine aF Tryz.func155 rfl aB rfl (fun w0 F0 lent β0=> ?_)
 repeat'(first|refine sC ?_|((with_reducible refine aj ?_);first|(refine sS ?_;intro Q' hn he hr)|refine sA ?_)|(refine sH ?_;clear hn he hr Q')|((conv=>whnf);first|refine sK ?_|(refine sB ?_;repeat'(first|refine sb0 ?_|(refine aA ?_ ?_<;>intro hb<;>try exact cls)))|((with_reducible refine aH ?_);first|(refine aG (rX _) rfl rfl ?_)|(refine aG (PY _ _) rfl rfl ?_)|(refine aG (iQ _ _ _) rfl rfl ?_))|(refine au [] rfl rfl rfl ⟨?_,rfl⟩;conv=>lhs;whnf)))
 all_goals simp_all[starB]
theorem aae(x:TStar):ak Tryz.prog 130 G0 0 [] [.rp (gV x)] (fun e os=>e= .bool (starB x)∧os=[]):=by
 refine aF Tryz.func130 rfl aB rfl (fun w0 F0 lent β0=> ?_)
 repeat'(first|refine sC ?_|((with_reducible refine aj ?_);first|(refine sS ?_;intro Q' hn he hr)|refine sA ?_)|(refine sH ?_;clear hn he hr Q')|refine sO ?_|((conv=>whnf);first|refine sK ?_|(refine sB ?_;repeat'(first|refine sb0 ?_|(refine aA ?_ ?_<;>intro hb<;>try exact cls)))|((with_reducible refine aZ ?_);first|(refine aT (rZ _) rfl rfl ?_)|(refine aT (ZF _ _) rfl rfl ?_)|(refine aT (iy _ _ _) rfl rfl ?_))|refine sD ?_|(refine au [] rfl rfl rfl ⟨?_,rfl⟩;conv=>lhs;whnf)))
 all_goals simp_all[starB]
def zq(a b:TStar):Bool:=Op.bytesLess a.fId b.fId
def o8(a:List TStar):Bool:=decide (a.length≤24)&&jG starB zq a
theorem agO{a:List TStar}(h: ¬a.length≤24):o8 a=false:=by simp[o8,h]
theorem Y3(a:List TStar):ak Tryz.prog 80 G0 0 [] [.sl 5 (a.map gV)] (fun d os=>d= .bool (o8 a)∧os=[]):=by
 refine aF Tryz.func80 rfl aB rfl (fun w0 F0 lent β0=> ?_)
 repeat'(first|refine sC ?_|((with_reducible refine aj ?_);first|(refine sS ?_;intro Q' hn he hr)|refine sA ?_)|(refine sH ?_;clear hn he hr Q')|((conv=>whnf);first|refine sK ?_|(refine sB ?_;repeat'(refine aA ?_ ?_<;>intro hb<;>try exact cls))|(refine sL ?_;intro hlen)|(refine au [] rfl rfl rfl ⟨?_,rfl⟩;conv=>lhs;whnf)))
 ·rw[agO ah]
 ·refine aQ (fun k:Nat=>[(2,.bool false),(8,.sl 5 (a.map gV)),(5,.sl 5 (a.map gV)),(0,.sl 5 (a.map gV)),(9,.int .i64 a.length),(10,.int .i64 k)]) (fun _=>[]) (fun k=>k≤a.length∧jT starB zq a k) (fun k=>a.length-k) 0 ⟨by omega,ng⟩ aI (fun k hk Q' hn he hr=> ?_)
  repeat'(first|refine sC ?_|((with_reducible refine aj ?_);first|(refine sS ?_;intro Q' hn he hr)|refine sA ?_)|(refine sH ?_;clear hn he hr Q')|refine sO ?_|((conv=>whnf);first|refine sK ?_|(refine sB ?_;repeat'(first|refine sb0 ?_|(refine aA ?_ ?_<;>intro hb<;>try exact cls)))|((with_reducible refine aZ ?_);(refine aT (Y2 _) rfl rfl ?_))|refine sP ?_|(refine sE ?_;intro x hx)|(refine sF ?_;intro i y hi hy)|refine sD ?_|(refine au [] rfl rfl rfl ⟨?_,rfl⟩;conv=>lhs;whnf)|(refine sH ?_;clear hn he hr Q')))
  all_goals first
   |(have h9:=mW (p:=starB) (lt:=zq) hx aO;simp[o8,h9];done)
   |(have h9:=mX (p:=starB) (lt:=zq) hx ah hy aO;simp[o8,h9];done)
   |(refine⟨k+1,⟨by omega,mZ hk.2 hx aO (fun i' y' hi' hy'=> ?_)⟩,by omega,aI⟩;first|(exfalso;omega)|(obtain rfl:i'=i:=ah;rw[hy] at hy';cases hy';assumption))
   |(have h9:=iF hk.2 ah;simp[o8,h9];done)
   |(have h9:=iF hk.2 ah;simp[o8,h9];omega)
theorem aad(a:List TStar):ak Tryz.prog 60 G0 0 [] [.sl 5 (a.map gV)] (fun d os=>d= .bool (o8 a)∧os=[]):=by
 refine aF Tryz.func60 rfl aB rfl (fun w0 F0 lent β0=> ?_)
 repeat'(first|refine sC ?_|((with_reducible refine aj ?_);first|(refine sS ?_;intro Q' hn he hr)|refine sA ?_)|(refine sH ?_;clear hn he hr Q')|((conv=>whnf);refine sK ?_))
 refine aQ (fun k:Nat=>[(2,.bool false),(0,.sl 5 (a.map gV)),(3,.int .i64 k)]) (fun _=>[]) (fun k=>k≤a.length∧jT starB zq a k) (fun k=>a.length-k) 0 ⟨by omega,ng⟩ aI (fun k hk Q' hn he hr=> ?_)
 repeat'(first|refine sC ?_|((with_reducible refine aj ?_);first|(refine sS ?_;intro Q' hn he hr)|refine sA ?_)|(refine sH ?_;clear hn he hr Q')|refine sO ?_|((conv=>whnf);first|refine sK ?_|(refine sB ?_;repeat'(first|refine sb0 ?_|(refine aA ?_ ?_<;>intro hb<;>try exact cls)))|((with_reducible refine aZ ?_);(refine lu (aae _) rfl ?_))|refine sP ?_|(refine sE ?_;intro x hx)|(refine sF ?_;intro i y hi hy)|(refine sL ?_;intro hlen)|refine sD ?_|(refine au [] rfl rfl rfl ⟨?_,rfl⟩;conv=>lhs;whnf)|(refine sH ?_;clear hn he hr Q')))
 all_goals first
  |(have h9:=mW (p:=starB) (lt:=zq) hx aO;simp[o8,h9];done)
  |(have h9:=mX (p:=starB) (lt:=zq) hx ah hy aO;simp[o8,h9];done)
  |(refine⟨k+1,⟨by omega,mZ hk.2 hx aO (fun i' y' hi' hy'=> ?_)⟩,by omega,aI⟩;first|(exfalso;omega)|(obtain rfl:i'=i:=ah;rw[hy] at hy';cases hy';assumption))
  |(have h9:=iF hk.2 ah;simp[o8,h9];done)
  |(have h9:=iF hk.2 ah;simp[o8,h9];omega)
end Go.Eng
