/-
  Notes that are valid: the contracts of the program's functions and of the reference's.
  No conditions.
-/
import Derived.Test.YtocoppijdodffaaGreatDoorWA
import Derived.Test.YtocoppijdodffaaGreatDoorWB
set_option linter.unusedVariables false
set_option linter.unusedSimpArgs false
set_option maxHeartbeats 4000000
namespace Go.Eng
open Go Go.RowKit Go.Proofs
set_option maxRecDepth 100000
def uP(c:UInt8):Bool:=decide (32≤c.toNat)&&decide (c.toNat≤126)
def qI(l:List UInt8):Bool:=decide (l.length≤200)&&l.all uP
theorem WO{l:List UInt8}(h:qI l=true):l.length≤200∧ ∀c∈l,c.toNat<128:=by
 simp only[qI,Bool.and_eq_true,decide_eq_true_eq,List.all_eq_true] at h
 refine⟨h.1,fun c hc=> ?_⟩
 have:=h.2 c hc
 simp only[uP,Bool.and_eq_true,decide_eq_true_eq] at this
 omega
theorem OV(l:List UInt8):ak Tryz.prog 220 G0 0 [] [.str l] (fun d os=>d= .bool (qI l)∧os=[]):=by
 refine aF Tryz.func220 rfl aB rfl (fun w0 F0 lent β0=> ?_)
 repeat'(first|refine sC ?_|((with_reducible refine aj ?_);first|(refine sS ?_;intro Q' hn he hr)|refine sA ?_)|(refine sH ?_;clear hn he hr Q')|((conv=>whnf);first|refine sK ?_|(refine sB ?_;repeat'(refine aA ?_ ?_<;>intro hb<;>try exact cls))|(refine sL ?_;intro hlen)|(refine au [] rfl rfl rfl ⟨?_,rfl⟩;conv=>lhs;whnf)))
 ·have: ¬l.length≤200:=by omega
  simp[qI,this]
 ·refine aQ (fun k:Nat=>[(0,.str l),(3,.int .i64 k)]) (fun _=>[]) (fun k=>k≤l.length∧uF uP l k) (fun k=>l.length-k) 0 ⟨by omega,Cj⟩ aI (fun k hk Q' hn he hr=> ?_)
  repeat'(first|refine sC ?_|((with_reducible refine aj ?_);first|(refine sS ?_;intro Q' hn he hr)|refine sA ?_)|(refine sH ?_;clear hn he hr Q')|((conv=>whnf);first|refine sK ?_|(refine sB ?_;repeat'(first|refine sb0 ?_|(refine aA ?_ ?_<;>intro hb<;>try exact cls)))|refine sP ?_|(refine sE ?_;intro x hx)|(refine sL ?_;intro hlen)|(refine au [] rfl rfl rfl ⟨?_,rfl⟩;conv=>lhs;whnf)|(refine sH ?_;clear hn he hr Q')))
  all_goals first
   |exact⟨k+1,⟨by omega,Ci hk.2 ‹l[k]? =some _› H7⟩,by omega,aI⟩
   |(have h9:=Cm (p:=uP) ‹l[k]? =some _› H7;simp[qI,h9];done)
   |(have h9:=CB hk.2 ah;rw[qI,h9];simp;omega)
theorem PV(l:List UInt8):ak Tryz.prog 192 G0 0 [] [.str l] (fun d os=>d= .bool (qI l)∧os=[]):=by
 refine aF Tryz.func192 rfl aB rfl (fun w0 F0 lent β0=> ?_)
 repeat'(first|refine sC ?_|((with_reducible refine aj ?_);first|(refine sS ?_;intro Q' hn he hr)|refine sA ?_)|(refine sH ?_;clear hn he hr Q')|((conv=>whnf);refine sK ?_))
 refine aQ (fun k:Nat=>[(0,.str l),(3,.int .i64 k)]) (fun _=>[]) (fun k=>k≤l.length∧uF uP l k) (fun k=>l.length-k) 0 ⟨by omega,Cj⟩ aI (fun k hk Q' hn he hr=> ?_)
 repeat'(first|refine sC ?_|((with_reducible refine aj ?_);first|(refine sS ?_;intro Q' hn he hr)|refine sA ?_)|(refine sH ?_;clear hn he hr Q')|((conv=>whnf);first|refine sK ?_|(refine sB ?_;repeat'(first|refine sb0 ?_|(refine aA ?_ ?_<;>intro hb<;>try exact cls)))|refine sP ?_|(refine sE ?_;intro x hx)|(refine sL ?_;intro hlen)|(refine au [] rfl rfl rfl ⟨?_,rfl⟩;conv=>lhs;whnf)|(refine sH ?_;clear hn he hr Q')))
 all_goals first
  |exact⟨k+1,⟨by omega,Ci hk.2 ‹l[k]? =some _› H7⟩,by omega,aI⟩
  |(have h9:=Cm (p:=uP) ‹l[k]? =some _› H7;simp[qI,h9];done)
  |(have h9:=CB hk.2 ah;rw[qI,h9];simp;done)
  |(have h9:=CB hk.2 ah;rw[qI,h9];simp;omega)
def qJ(x:eH):Bool:=nameB x.fId&&(qI x.fText&&decide (0<(yB x.fText).length))
def zk(a b:eH):Bool:=Op.bytesLess a.fId b.fId
def pG(a:List eH):Bool:=decide (a.length≤20)&&jG qJ zk a
theorem ag7{a:List eH}(h: ¬a.length≤20):pG a=false:=by simp[pG,h]
theorem Zu(x:eH):ak Tryz.prog 153 G0 0 [] [.agg (ig x)] (fun d os=>d= .bool (qJ x)∧os=[]):=by
 have hwl:=Xd x.fText
 refine aF Tryz.func153 rfl aB rfl (fun w0 F0 lent β0=> ?_)
 cases hv:qI x.fText with
 |false=>
  repeat'(first|refine sC ?_|((with_reducible refine aj ?_);first|(refine sS ?_;intro Q' hn he hr)|refine sA ?_)|(refine sH ?_;clear hn he hr Q')|((conv=>whnf);first|refine sK ?_|(refine sB ?_;repeat'(first|refine sb0 ?_|(refine aA ?_ ?_<;>intro hb<;>try exact cls)))|((with_reducible refine aH ?_);first|(refine aG (rX _) rfl rfl ?_)|(refine aG (OV _) rfl rfl ?_))|(refine au [] rfl rfl rfl ⟨?_,rfl⟩;conv=>lhs;whnf)))
  all_goals simp[qJ, *]
 |true=>
  obtain⟨ht1,ht2⟩:=WO hv
  repeat'(first|refine sC ?_|((with_reducible refine aj ?_);first|(refine sS ?_;intro Q' hn he hr)|refine sA ?_)|(refine sH ?_;clear hn he hr Q')|((conv=>whnf);first|refine sK ?_|(refine sB ?_;repeat'(first|refine sb0 ?_|(refine aA ?_ ?_<;>intro hb<;>try exact cls)))|((with_reducible refine aH ?_);first|(refine aG (rX _) rfl rfl ?_)|(refine aG (OV _) rfl rfl ?_)|(refine oq (Zz x.fText ah ht2) rfl (oM (iV.map fun _=>rfl)) dQ ?_))|(refine sL ?_;intro hlen)|(refine au [] rfl rfl rfl ⟨?_,rfl⟩;conv=>lhs;whnf)))
  all_goals simp[qJ, *]
theorem aaS(x:eH):ak Tryz.prog 127 G0 0 [] [.rp (ig x)] (fun d os=>d= .bool (qJ x)∧os=[]):=by
 have hwl:=Xd x.fText
 refine aF Tryz.func127 rfl aB rfl (fun w0 F0 lent β0=> ?_)
 cases hv:qI x.fText with
 |false=>
  repeat'(first|refine sC ?_|((with_reducible refine aj ?_);first|(refine sS ?_;intro Q' hn he hr)|refine sA ?_)|(refine sH ?_;clear hn he hr Q')|((conv=>whnf);first|refine sK ?_|(refine sB ?_;repeat'(first|refine sb0 ?_|(refine aA ?_ ?_<;>intro hb<;>try exact cls)))|((with_reducible refine aH ?_);first|(refine aG (rZ _) rfl rfl ?_)|(refine aG (PV _) rfl rfl ?_))|(refine au [] rfl rfl rfl ⟨?_,rfl⟩;conv=>lhs;whnf)))
  all_goals simp[qJ, *]
 |true=>
  obtain⟨ht1,ht2⟩:=WO hv
  repeat'(first|refine sC ?_|((with_reducible refine aj ?_);first|(refine sS ?_;intro Q' hn he hr)|refine sA ?_)|(refine sH ?_;clear hn he hr Q')|((conv=>whnf);first|refine sK ?_|(refine sB ?_;repeat'(first|refine sb0 ?_|(refine aA ?_ ?_<;>intro hb<;>try exact cls)))|((with_reducible refine aH ?_);first|(refine aG (rZ _) rfl rfl ?_)|(refine aG (PV _) rfl rfl ?_)|(refine oq (aaT x.fText ah) rfl (oM (iV.map fun _=>rfl)) dQ ?_))|(refine sL ?_;intro hlen)|(refine au [] rfl rfl rfl ⟨?_,rfl⟩;conv=>lhs;whnf)))
  all_goals simp[qJ, *]
theorem YZ(a:List eH):ak Tryz.prog 78 G0 0 [] [.sl 2 (a.map ig)] (fun d os=>d= .bool (pG a)∧os=[]):=by
 refine aF Tryz.func78 rfl aB rfl (fun w0 F0 lent β0=> ?_)
 repeat'(first|refine sC ?_|((with_reducible refine aj ?_);first|(refine sS ?_;intro Q' hn he hr)|refine sA ?_)|(refine sH ?_;clear hn he hr Q')|((conv=>whnf);first|refine sK ?_|(refine sB ?_;repeat'(refine aA ?_ ?_<;>intro hb<;>try exact cls))|(refine sL ?_;intro hlen)|(refine au [] rfl rfl rfl ⟨?_,rfl⟩;conv=>lhs;whnf)))
 ·rw[ag7 ah]
 ·refine aQ (fun k:Nat=>[(2,.bool false),(8,.sl 2 (a.map ig)),(0,.sl 2 (a.map ig)),(9,.int .i64 a.length),(10,.int .i64 k)]) (fun _=>[]) (fun k=>k≤a.length∧jT qJ zk a k) (fun k=>a.length-k) 0 ⟨by omega,ng⟩ aI (fun k hk Q' hn he hr=> ?_)
  repeat'(first|refine sC ?_|((with_reducible refine aj ?_);first|(refine sS ?_;intro Q' hn he hr)|refine sA ?_)|(refine sH ?_;clear hn he hr Q')|refine sO ?_|((conv=>whnf);first|refine sK ?_|(refine sB ?_;repeat'(first|refine sb0 ?_|(refine aA ?_ ?_<;>intro hb<;>try exact cls)))|((with_reducible refine aZ ?_);(refine aT (Zu _) rfl rfl ?_))|refine sP ?_|(refine sE ?_;intro x hx)|(refine sF ?_;intro i y hi hy)|refine sD ?_|(refine au [] rfl rfl rfl ⟨?_,rfl⟩;conv=>lhs;whnf)|(refine sH ?_;clear hn he hr Q')))
  all_goals first
   |(have h9:=mW (p:=qJ) (lt:=zk) hx aO;simp[pG,h9];done)
   |(have h9:=mX (p:=qJ) (lt:=zk) hx ah hy aO;simp[pG,h9];done)
   |(refine⟨k+1,⟨by omega,mZ hk.2 hx aO (fun i' y' hi' hy'=> ?_)⟩,by omega,aI⟩;first|(exfalso;omega)|(obtain rfl:i'=i:=ah;rw[hy] at hy';cases hy';assumption))
   |(have h9:=iF hk.2 ah;simp[pG,h9];done)
   |(have h9:=iF hk.2 ah;simp[pG,h9];omega)
theorem aaR(a:List eH):ak Tryz.prog 58 G0 0 [] [.sl 2 (a.map ig)] (fun d os=>d= .bool (pG a)∧os=[]):=by
 refine aF Tryz.func58 rfl aB rfl (fun w0 F0 lent β0=> ?_)
 repeat'(first|refine sC ?_|((with_reducible refine aj ?_);first|(refine sS ?_;intro Q' hn he hr)|refine sA ?_)|(refine sH ?_;clear hn he hr Q')|((conv=>whnf);refine sK ?_))
 refine aQ (fun k:Nat=>[(2,.bool false),(0,.sl 2 (a.map ig)),(3,.int .i64 k)]) (fun _=>[]) (fun k=>k≤a.length∧jT qJ zk a k) (fun k=>a.length-k) 0 ⟨by omega,ng⟩ aI (fun k hk Q' hn he hr=> ?_)
 repeat'(first|refine sC ?_|((with_reducible refine aj ?_);first|(refine sS ?_;intro Q' hn he hr)|refine sA ?_)|(refine sH ?_;clear hn he hr Q')|refine sO ?_|((conv=>whnf);first|refine sK ?_|(refine sB ?_;repeat'(first|refine sb0 ?_|(refine aA ?_ ?_<;>intro hb<;>try exact cls)))|((with_reducible refine aZ ?_);(refine lu (aaS _) rfl ?_))|refine sP ?_|(refine sE ?_;intro x hx)|(refine sF ?_;intro i y hi hy)|(refine sL ?_;intro hlen)|refine sD ?_|(refine au [] rfl rfl rfl ⟨?_,rfl⟩;conv=>lhs;whnf)|(refine sH ?_;clear hn he hr Q')))
 all_goals first
  |(have h9:=mW (p:=qJ) (lt:=zk) hx aO;simp[pG,h9];done)
  |(have h9:=mX (p:=qJ) (lt:=zk) hx ah hy aO;simp[pG,h9];done)
  |(refine⟨k+1,⟨by omega,mZ hk.2 hx aO (fun i' y' hi' hy'=> ?_)⟩,by omega,aI⟩;first|(exfalso;omega)|(obtain rfl:i'=i:=ah;rw[hy] at hy';cases hy';assumption))
  |(have h9:=iF hk.2 ah;simp[pG,h9];done)
  |(have h9:=iF hk.2 ah;simp[pG,h9];omega)
end Go.Eng
