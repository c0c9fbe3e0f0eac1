/-
  Contracts of functions of the program and of the reference, and plain laws: a bundle of texts.
  No conditions.
-/
import Derived.Test.YtocoppijdodffaaGreatDoorVX
set_option linter.unusedVariables false
set_option linter.unusedSimpArgs false
set_option maxHeartbeats 4000000
namespace Go.Eng
open Go Go.RowKit Go.Proofs
set_option maxRecDepth 100000
def pF(m:bC):Bool:=nameB m.fName&&inB m.xI 1 100000
def yc(a b:bC):Bool:=Op.bytesLess a.fName b.fName
def iT(a:List bC):Bool:=decide (a.length≤16)&&jG pF yc a
theorem ag6{a:List bC}(h: ¬a.length≤16):iT a=false:=by simp[iT,h]
set_option maxHeartbeats 4000000 in
theorem Zt(m:bC):ak Tryz.prog 267 G0 0 [] [.agg (dM m)] (fun d os=>d= .bool (pF m)∧os=[]):=by
 refine aF Tryz.func267 rfl aB rfl (fun w0 F0 lent β0=> ?_)
 repeat'(first|refine sC ?_|((with_reducible refine aj ?_);first|(refine sS ?_;intro Q' hn he hr)|refine sA ?_)|(refine sH ?_;clear hn he hr Q')|((conv=>whnf);first|refine sK ?_|(refine sB ?_;repeat'(first|refine sb0 ?_|(refine aA ?_ ?_<;>intro hb<;>try exact cls)))|((with_reducible refine aH ?_);first|(refine aG (rX _) rfl rfl ?_)|(refine aG (iQ _ _ _) rfl rfl ?_))|(refine au [] rfl rfl rfl ⟨?_,rfl⟩;conv=>lhs;whnf)))
 all_goals simp[pF, *]
set_option maxHeartbeats 4000000 in
theorem aaP(m:bC):ak Tryz.prog 189 G0 0 [] [.rp (dM m)] (fun d os=>d= .bool (pF m)∧os=[]):=by
 refine aF Tryz.func189 rfl aB rfl (fun w0 F0 lent β0=> ?_)
 repeat'(first|refine sC ?_|((with_reducible refine aj ?_);first|(refine sS ?_;intro Q' hn he hr)|refine sA ?_)|(refine sH ?_;clear hn he hr Q')|((conv=>whnf);first|refine sK ?_|(refine sB ?_;repeat'(first|refine sb0 ?_|(refine aA ?_ ?_<;>intro hb<;>try exact cls)))|((with_reducible refine aH ?_);first|(refine aG (rZ _) rfl rfl ?_)|(refine aG (iy _ _ _) rfl rfl ?_))|(refine au [] rfl rfl rfl ⟨?_,rfl⟩;conv=>lhs;whnf)))
 all_goals simp[pF, *]
set_option maxHeartbeats 4000000 in
theorem OI(a:List bC):ak Tryz.prog 216 G0 0 [] [.sl 2 (a.map dM)] (fun d os=>d= .bool (iT a)∧os=[]):=by
 refine aF Tryz.func216 rfl aB rfl (fun w0 F0 lent β0=> ?_)
 repeat'(first|refine sC ?_|((with_reducible refine aj ?_);first|(refine sS ?_;intro Q' hn he hr)|refine sA ?_)|(refine sH ?_;clear hn he hr Q')|((conv=>whnf);first|refine sK ?_|(refine sB ?_;repeat'(refine aA ?_ ?_<;>intro hb<;>try exact cls))|(refine sL ?_;intro hlen)|(refine au [] rfl rfl rfl ⟨?_,rfl⟩;conv=>lhs;whnf)))
 ·rw[ag6 ah]
 ·refine aQ (fun k:Nat=>[(2,.bool false),(8,.sl 2 (a.map dM)),(0,.sl 2 (a.map dM)),(9,.int .i64 a.length),(10,.int .i64 k)]) (fun _=>[]) (fun k=>k≤a.length∧jT pF yc a k) (fun k=>a.length-k) 0 ⟨by omega,ng⟩ aI (fun k hk Q' hn he hr=> ?_)
  repeat'(first|refine sC ?_|((with_reducible refine aj ?_);first|(refine sS ?_;intro Q' hn he hr)|refine sA ?_)|(refine sH ?_;clear hn he hr Q')|refine sO ?_|((conv=>whnf);first|refine sK ?_|(refine sB ?_;repeat'(first|refine sb0 ?_|(refine aA ?_ ?_<;>intro hb<;>try exact cls)))|((with_reducible refine aZ ?_);(refine aT (Zt _) rfl rfl ?_))|refine sP ?_|(refine sE ?_;intro x hx)|(refine sF ?_;intro i y hi hy)|refine sD ?_|(refine au [] rfl rfl rfl ⟨?_,rfl⟩;conv=>lhs;whnf)|(refine sH ?_;clear hn he hr Q')))
  all_goals first
   |(have h9:=mW (p:=pF) (lt:=yc) hx aO;simp[iT,h9];done)
   |(have h9:=mX (p:=pF) (lt:=yc) hx ah hy aO;simp[iT,h9];done)
   |(refine⟨k+1,⟨by omega,mZ hk.2 hx aO (fun i' y' hi' hy'=> ?_)⟩,by omega,aI⟩;first|(exfalso;omega)|(obtain rfl:i'=i:=ah;rw[hy] at hy';cases hy';assumption))
   |(have h9:=iF hk.2 ah;simp[iT,h9];done)
   |(have h9:=iF hk.2 ah;simp[iT,h9];omega)
set_option maxHeartbeats 4000000 in
theorem aaO(a:List bC):ak Tryz.prog 122 G0 0 [] [.sl 2 (a.map dM)] (fun d os=>d= .bool (iT a)∧os=[]):=by
 refine aF Tryz.func122 rfl aB rfl (fun w0 F0 lent β0=> ?_)
 repeat'(first|refine sC ?_|((with_reducible refine aj ?_);first|(refine sS ?_;intro Q' hn he hr)|refine sA ?_)|(refine sH ?_;clear hn he hr Q')|((conv=>whnf);refine sK ?_))
 refine aQ (fun k:Nat=>[(2,.bool false),(0,.sl 2 (a.map dM)),(3,.int .i64 k)]) (fun _=>[]) (fun k=>k≤a.length∧jT pF yc a k) (fun k=>a.length-k) 0 ⟨by omega,ng⟩ aI (fun k hk Q' hn he hr=> ?_)
 repeat'(first|refine sC ?_|((with_reducible refine aj ?_);first|(refine sS ?_;intro Q' hn he hr)|refine sA ?_)|(refine sH ?_;clear hn he hr Q')|refine sO ?_|((conv=>whnf);first|refine sK ?_|(refine sB ?_;repeat'(first|refine sb0 ?_|(refine aA ?_ ?_<;>intro hb<;>try exact cls)))|((with_reducible refine aZ ?_);(refine lu (aaP _) rfl ?_))|refine sP ?_|(refine sE ?_;intro x hx)|(refine sF ?_;intro i y hi hy)|(refine sL ?_;intro hlen)|refine sD ?_|(refine au [] rfl rfl rfl ⟨?_,rfl⟩;conv=>lhs;whnf)|(refine sH ?_;clear hn he hr Q')))
 all_goals first
  |(have h9:=mW (p:=pF) (lt:=yc) hx aO;simp[iT,h9];done)
  |(have h9:=mX (p:=pF) (lt:=yc) hx ah hy aO;simp[iT,h9];done)
  |(refine⟨k+1,⟨by omega,mZ hk.2 hx aO (fun i' y' hi' hy'=> ?_)⟩,by omega,aI⟩;first|(exfalso;omega)|(obtain rfl:i'=i:=ah;rw[hy] at hy';cases hy';assumption))
  |(have h9:=iF hk.2 ah;simp[iT,h9];done)
  |(have h9:=iF hk.2 ah;simp[iT,h9];omega)
def kX(a:List bC)(n:List UInt8):Int:=match a[firstAt (fun m=>m.fName==n) a]? with
 |some m=>m.xI
 |none=>0
theorem Wn{a:List bC}{n:List UInt8}{k:Nat}{x:bC}(h:jB (fun m=>m.fName==n) a k)(hx:a[k]? =some x)(hq:(x.fName==n)=true):kX a n=x.xI:=by
 unfold kX
 rw[Dw h hx hq,hx]
theorem Wp{a:List bC}{n:List UInt8}{k:Nat}(h:jB (fun m=>m.fName==n) a k)(hk:a.length≤k):kX a n=0:=by
 unfold kX
 rw[JJ h hk,List.getElem?_eq_none (Nat.le_refl _)]
set_option maxHeartbeats 4000000 in
theorem IU(a:List bC)(n:List UInt8):ak Tryz.prog 217 G0 0 [] [.sl 2 (a.map dM), .str n] (fun d os=>d= .int .i64 (kX a n)∧os=[]):=by
 refine aF Tryz.func217 rfl aB rfl (fun w0 F0 lent β0=> ?_)
 repeat'(first|refine sC ?_|((with_reducible refine aj ?_);first|(refine sS ?_;intro Q' hn he hr)|refine sA ?_)|(refine sH ?_;clear hn he hr Q')|((conv=>whnf);first|refine sK ?_|(refine sL ?_;intro hlen)))
 refine aQ (fun k:Nat=>[(7,.sl 2 (a.map dM)),(1,.str n),(8,.int .i64 a.length),(9,.int .i64 k)]) (fun _=>[]) (fun k=>k≤a.length∧jB (fun m:bC=>m.fName==n) a k) (fun k=>a.length-k) 0 ⟨by omega,qE⟩ aI (fun k hk Q' hn he hr=> ?_)
 repeat'(first|refine sC ?_|((with_reducible refine aj ?_);first|(refine sS ?_;intro Q' hn he hr)|refine sA ?_)|(refine sH ?_;clear hn he hr Q')|((conv=>whnf);first|refine sK ?_|(refine sB ?_;repeat'(refine aA ?_ ?_<;>intro hb<;>try exact cls))|refine sP ?_|(refine sE ?_;intro x hx)|(refine au [] rfl rfl rfl ⟨?_,rfl⟩;conv=>lhs;whnf)|(refine sH ?_;clear hn he hr Q')))
 ·rw[Wn hk.2 hx zL]
 ·exact⟨k+1,⟨by omega,qC hk.2 hx zL⟩,by omega,aI⟩
 ·rw[Wp hk.2 ah]
set_option maxHeartbeats 4000000 in
theorem I7(a:List bC)(n:List UInt8):ak Tryz.prog 190 G0 0 [] [.sl 2 (a.map dM), .str n] (fun d os=>d= .int .i64 (kX a n)∧os=[]):=by
 refine aF Tryz.func190 rfl aB rfl (fun w0 F0 lent β0=> ?_)
 repeat'(first|refine sC ?_|((with_reducible refine aj ?_);first|(refine sS ?_;intro Q' hn he hr)|refine sA ?_)|(refine sH ?_;clear hn he hr Q')|((conv=>whnf);refine sK ?_))
 refine aQ (fun k:Nat=>[(0,.sl 2 (a.map dM)),(1,.str n),(5,.int .i64 k)]) (fun _=>[]) (fun k=>k≤a.length∧jB (fun m:bC=>m.fName==n) a k) (fun k=>a.length-k) 0 ⟨by omega,qE⟩ aI (fun k hk Q' hn he hr=> ?_)
 repeat'(first|refine sC ?_|((with_reducible refine aj ?_);first|(refine sS ?_;intro Q' hn he hr)|refine sA ?_)|(refine sH ?_;clear hn he hr Q')|((conv=>whnf);first|refine sK ?_|(refine sB ?_;repeat'(refine aA ?_ ?_<;>intro hb<;>try exact cls))|refine sP ?_|(refine sE ?_;intro x hx)|(refine sL ?_;intro hlen)|(refine au [] rfl rfl rfl ⟨?_,rfl⟩;conv=>lhs;whnf)|(refine sH ?_;clear hn he hr Q')))
 ·rw[Wn hk.2 hx zL]
 ·exact⟨k+1,⟨by omega,qC hk.2 hx zL⟩,by omega,aI⟩
 ·rw[Wp hk.2 ah]
end Go.Eng
namespace Go.Eng
open Go Go.RowKit Go.Proofs
set_option maxRecDepth 100000
def AO(y x:bg):Bool:=decide (y.dK≤x.dK)
def rG(x y:bg):Bool:=y.fName==x.fName
def nS(M:List bC)(a:List bg)(k:Nat)(x:bg):Bool:= !decide (kX M x.fName=0)&&(inB x.dK 0 7200000&&(tZ AO a k x&&iG (rG x) a k))
def kU(M:List bC)(a:List bg):Bool:=decide (a.length≤16)&&allI (nS M a) a
theorem ae4{M:List bC}{a:List bg}(h: ¬a.length≤16):kU M a=false:=by simp[kU,h]
theorem yg{M:List bC}{a:List bg}{k:Nat}{x:bg}(hx:a[k]? =some x)(h:nS M a k x=false):kU M a=false:=by
 unfold kU
 rw[EO hx h,Bool.and_false]
theorem Ur{M:List bC}{a:List bg}{k:Nat}{x:bg}(h:kX M x.fName=0):nS M a k x=false:=by simp[nS,h]
theorem Us{M:List bC}{a:List bg}{k:Nat}{x:bg}(h:inB x.dK 0 7200000=false):nS M a k x=false:=by simp[nS,h]
theorem Uo{M:List bC}{a:List bg}{k i:Nat}{x y:bg}(hi:i+1=k)(hy:a[i]? =some y)(h:x.dK<y.dK):nS M a k x=false:=by
 have h2: ¬y.dK≤x.dK:=by omega
 simp[nS,uO hi hy,AO,h2]
theorem Un{M:List bC}{a:List bg}{k:Nat}{x:bg}(h:iG (rG x) a k=false):nS M a k x=false:=by simp[nS,h]
theorem Ut{M:List bC}{a:List bg}{k:Nat}{x:bg}(h1: ¬kX M x.fName=0)(h2:inB x.dK 0 7200000=true)(h3:tZ AO a k x=true)(h4:iG (rG x) a k=true):nS M a k x=true:=by simp[nS,h1,h2,h3,h4]
theorem afb{α:Type}{q:α→Bool}{a:List α}{k:Nat}(hk:k≤a.length)(h:dV q (a.take k)<0):iG q a k=true:=by
 cases h8:iG q a k with
 |true=>rfl
 |false=>exact absurd ((AB hk).2 h8) ah
theorem YX(y x:bg):ak Tryz.prog 219 G0 0 [] [.agg (dI y), .rp (dI x)] (fun d os=>d= .bool (rG x y)∧os=[]):=by
 refine aF Tryz.func219 rfl aB rfl (fun w0 F0 lent β0=> ?_)
 repeat'(first|refine sC ?_|((with_reducible refine aj ?_);first|(refine sS ?_;intro Q' hn he hr)|refine sA ?_)|(refine sH ?_;clear hn he hr Q')|((conv=>whnf);first|refine sK ?_|(refine au [] rfl rfl rfl ⟨?_,rfl⟩;conv=>lhs;whnf)))
 all_goals(refine congrArg D.bool ?_;simp[rG, *])
theorem ZQ(a:List bg)(x0:bg):ak Tryz.prog 268 G0 0 [] [.sl 2 (a.map dI), .clo (.func 219) [.rp (dI x0)]] (fun d os=>d= .int .i64 (dV (rG x0) a)∧os=[]):=by
 refine aF Tryz.func268 rfl aB rfl (fun w0 F0 lent β0=> ?_)
 repeat'(first|refine sC ?_|((with_reducible refine aj ?_);first|(refine sS ?_;intro Q' hn he hr)|refine sA ?_)|(refine sH ?_;clear hn he hr Q')|((conv=>whnf);first|refine sK ?_|(refine sL ?_;intro hlen)))
 refine aQ (fun k:Nat=>[(0,.sl 2 (a.map dI)),(1,.clo (.func 219) [.rp (dI x0)]),(6,.sl 2 (a.map dI)),(7,.int .i64 a.length),(8,.int .i64 k)]) (fun _=>[]) (fun k=>k≤a.length∧jB (rG x0) a k) (fun k=>a.length-k) 0 ⟨by omega,qE⟩ aI (fun k hk Q' hn he hr=> ?_)
 repeat'(first|refine sC ?_|((with_reducible refine aj ?_);first|(refine sS ?_;intro Q' hn he hr)|refine sA ?_)|(refine sH ?_;clear hn he hr Q')|((conv=>whnf);first|refine sK ?_|(refine sB ?_;repeat'(refine aA ?_ ?_<;>intro hb<;>try exact cls))|((with_reducible refine aH ?_);(refine jq (YX x x0) rfl ?_))|refine sP ?_|(refine sE ?_;intro x hx)|(refine au [] rfl rfl rfl ⟨?_,rfl⟩;conv=>lhs;whnf)|(refine sH ?_;clear hn he hr Q')))
 ·rw[y9 hk.2 hx hb]
 ·exact⟨k+1,⟨by omega,qC hk.2 hx hb⟩,by omega,aI⟩
 ·rw[zf hk.2 ah]
theorem ZK(a:List bg)(x0:bg):ak Tryz.prog 218 G0 0 [] [.sl 2 (a.map dI), .clo (.func 219) [.rp (dI x0)]] (fun d os=>d= .bool (decide (0≤dV (rG x0) a))∧os=[]):=by
 refine aF Tryz.func218 rfl aB rfl (fun w0 F0 lent β0=> ?_)
 repeat'(first|refine sC ?_|((with_reducible refine aj ?_);first|(refine sS ?_;intro Q' hn he hr)|refine sA ?_)|(refine sH ?_;clear hn he hr Q')|((conv=>whnf);first|refine sK ?_|((with_reducible refine aH ?_);(refine jq (ZQ a x0) rfl ?_))|(refine au [] rfl rfl rfl ⟨?_,rfl⟩;conv=>lhs;whnf)))
theorem ZL(a:List bg)(k:Nat)(x0:bg):ak Tryz.prog 218 G0 0 [] [.sl 2 (gJ (a.map dI) none (some k)), .clo (.func 219) [.rp (dI x0)]] (fun d os=>d= .bool (decide (0≤dV (rG x0) (a.take k)))∧os=[]):=by
 have h:=ZK (a.take k) x0
 rwa [Fp] at h
theorem OJ(M:List bC)(a:List bg):ak Tryz.prog 150 G0 0 [] [.sl 2 (M.map dM), .sl 2 (a.map dI)] (fun d os=>d= .bool (iT M&&kU M a)∧os=[]):=by
 refine aF Tryz.func150 rfl aB rfl (fun w0 F0 lent β0=> ?_)
 repeat'(first|refine sC ?_|((with_reducible refine aj ?_);first|(refine sS ?_;intro Q' hn he hr)|refine sA ?_)|(refine sH ?_;clear hn he hr Q')|((conv=>whnf);first|refine sK ?_|(refine sB ?_;repeat'(first|refine sb0 ?_|(refine aA ?_ ?_<;>intro hb<;>try exact cls)))|((with_reducible refine aH ?_);(refine aG (OI M) rfl rfl ?_))|(refine sL ?_;intro hlen)|(refine au [] rfl rfl rfl ⟨?_,rfl⟩;conv=>lhs;whnf)))
 ·rw[hb];rfl
 ·rw[ae4 ah,Bool.and_false]
 ·have hvm:iT M=true:=by assumption
  have hq:(iT M&&kU M a)=kU M a:=by rw[hvm,Bool.true_and]
  refine aQ (fun k:Nat=>[(0,.sl 2 (M.map dM)),(1,.sl 2 (a.map dI)),(15,.sl 2 (a.map dI)),(16,.int .i64 a.length),(17,.int .i64 k)]) (fun _=>[]) (fun k=>k≤a.length∧pJ (nS M a) a k) (fun k=>a.length-k) 0 ⟨by omega,wM⟩ aI (fun k hk Q' hn he hr=> ?_)
  repeat'(first|refine sC ?_|((with_reducible refine aj ?_);first|(refine sS ?_;intro Q' hn he hr)|refine sA ?_)|(refine sH ?_;clear hn he hr Q')|refine sO ?_|((conv=>whnf);first|refine sK ?_|(refine sB ?_;repeat'(first|refine sb0 ?_|(refine aA ?_ ?_<;>intro hb<;>try exact cls)))|((with_reducible refine aH ?_);(refine jq (ZL a k x) rfl ?_))|((with_reducible refine aZ ?_);first|(refine aT (IU M _) rfl rfl ?_)|(refine aT (iQ _ _ _) rfl rfl ?_))|refine sP ?_|(refine sE ?_;intro x hx)|(refine sF ?_;intro i y hi hy)|refine sD ?_|(refine au [] rfl rfl rfl ⟨?_,rfl⟩;conv=>lhs;whnf)|(refine sH ?_;clear hn he hr Q')))
  all_goals first
   |(have h9:=wK hk.2 ah;have h8:a.length≤16:=ah;simp[hvm,kU,h9,h8];done)
   |(rw[hq,yg hx (Ur hb)];done)
   |(rw[hq,yg hx (Us hb)];done)
   |(rw[hq,yg hx (Uo (show i+1=k by omega) hy hb)];done)
   |(rw[hq,yg hx (Un ((AB ah).1 hb))];done)
   |(refine⟨k+1,⟨by omega,wL hk.2 hx (Ut aO aO ?_ (afb ah ah))⟩,by omega,aI⟩
     first
      |exact Bg ah
      |(rw[uO (lt:=AO) (x:=x) (show i+1=k by omega) hy];exact decide_eq_true aO))
theorem aaw(n:Int):ak Tryz.prog 191 G0 0 [] [.int .i64 n] (fun d os=>d= .bool (inB n 0 7200000)∧os=[]):=by
 refine aF Tryz.func191 rfl aB rfl (fun w0 F0 lent β0=> ?_)
 repeat'(first|refine sC ?_|((with_reducible refine aj ?_);first|(refine sS ?_;intro Q' hn he hr)|refine sA ?_)|(refine sH ?_;clear hn he hr Q')|((conv=>whnf);first|refine sK ?_|((with_reducible refine aH ?_);(refine aG (iy _ _ _) rfl rfl ?_))|(refine au [] rfl rfl rfl ⟨?_,rfl⟩;conv=>lhs;whnf)))
theorem aaN(M:List bC)(a:List bg):ak Tryz.prog 123 G0 0 [] [.sl 2 (M.map dM), .sl 2 (a.map dI)] (fun d os=>d= .bool (kU M a)∧os=[]):=by
 refine aF Tryz.func123 rfl aB rfl (fun w0 F0 lent β0=> ?_)
 repeat'(first|refine sC ?_|((with_reducible refine aj ?_);first|(refine sS ?_;intro Q' hn he hr)|refine sA ?_)|(refine sH ?_;clear hn he hr Q')|((conv=>whnf);refine sK ?_))
 refine aQ (fun k:Nat=>[(0,.sl 2 (M.map dM)),(1,.sl 2 (a.map dI)),(5,.int .i64 k)]) (fun _=>[]) (fun k=>k≤a.length∧pJ (nS M a) a k) (fun k=>a.length-k) 0 ⟨by omega,wM⟩ aI (fun k hk Q' hn he hr=> ?_)
 repeat'(first|refine sC ?_|((with_reducible refine aj ?_);first|(refine sS ?_;intro Q' hn he hr)|refine sA ?_)|(refine sH ?_;clear hn he hr Q')|refine sO ?_|((conv=>whnf);first|refine sK ?_|(refine sB ?_;repeat'(first|refine sb0 ?_|(refine aA ?_ ?_<;>intro hb<;>try exact cls)))|((with_reducible refine aZ ?_);first|(refine aT (I7 M _) rfl rfl ?_)|(refine aT (aaw _) rfl rfl ?_))|refine sP ?_|(refine sE ?_;intro x hx)|(refine sF ?_;intro i y hi hy)|(refine sL ?_;intro hlen)|refine sD ?_|(refine au [] rfl rfl rfl ⟨?_,rfl⟩;conv=>lhs;whnf)|(refine sH ?_;clear hn he hr Q')))
 all_goals first
  |(rw[yg hx (Ur hb)];done)
  |(rw[yg hx (Us hb)];done)
  |(rw[yg hx (Uo (show i+1=k by omega) hy hb)];done)
  |(have h9:=wK hk.2 ah;simp[kU,h9];try omega;done)
  |skip
 iterate 2
  ·have hs: ¬kX M x.fName=0:=by assumption
   have ht:inB x.dK 0 7200000=true:=by assumption
   have hx0:=hx
   have hpv:tZ AO a k x=true:=by
    first
     |exact Bg ah
     |(rw[uO (lt:=AO) (x:=x) (show i+1=k by omega) hy];exact decide_eq_true aO)
   refine aQ (fun j:Nat=>[(0,.sl 2 (M.map dM)),(1,.sl 2 (a.map dI)),(5,.int .i64 k),(6,.int .i64 j)]) (fun _=>[]) (fun j=>j≤k∧jB (rG x) a j) (fun j=>k-j) 0 ⟨by omega,qE⟩ aI (fun j hj Q' hn he hr=> ?_)
   by_cases hjk:j<k
   ·obtain⟨z,hz⟩: ∃z,a[j]? =some z:=⟨_,List.getElem?_eq_getElem ah⟩
    repeat'(first|refine sC ?_|((with_reducible refine aj ?_);first|(refine sS ?_;intro Q' hn he hr)|refine sA ?_)|(refine sH ?_;clear hn he hr Q')|refine sO ?_|((conv=>whnf);first|refine sK ?_|(refine sB ?_;repeat'(refine aA ?_ ?_<;>intro hb<;>try exact cls))|(refine aJ.the hz ?_)|(refine aJ.the hx0 ?_)|refine sP ?_|refine sD ?_|(refine au [] rfl rfl rfl ⟨?_,rfl⟩;conv=>lhs;whnf)))
    all_goals first
     |(rw[yg hx0 (Un (D8 hz hjk (by simp[rG,hb])))];done)
     |exact⟨j+1,⟨by omega,qC hj.2 hz (by simp[rG,hb])⟩,by omega,aI⟩
   ·repeat'(first|refine sC ?_|((with_reducible refine aj ?_);first|(refine sS ?_;intro Q' hn he hr)|refine sA ?_)|(refine sH ?_;clear hn he hr Q')|((conv=>whnf);first|refine sK ?_|(refine sB ?_;repeat'(refine aA ?_ ?_<;>intro hb<;>try exact cls))|refine sP ?_|(refine sH ?_;clear hn he hr Q')))
    exact⟨k+1,⟨by omega,wL hk.2 hx0 (Ut hs ht hpv (D9 fun i' y' hi' hy'=>hj.2 i' y' ah hy'))⟩,by omega,aI⟩
end Go.Eng
namespace Go.Eng
open Go Go.RowKit Go.Proofs
set_option maxRecDepth 100000
def gB(h:bM):Bool:=jD h.fP&&(jV h.dU&&(gZ h.dW&&(oP (dO h.dW) h.dZ&&(uI h.eF&&(mJ h.aX&&(kV h.bD&&(iT h.dJ&&(kU h.dJ h.dh&&(inB h.dw 10000 90000&&(inB h.oG 0 1000&&(inB h.iL 1 20000&&inB h.fK 1 100000)))))))))))
set_option maxHeartbeats 4000000 in
theorem OH(h:bM):ak Tryz.prog 75 G0 0 [] [.agg (jQ h)] (fun d os=>d= .bool (gB h)∧os=[]):=by
 refine aF Tryz.func75 rfl aB rfl (fun w0 F0 lent β0=> ?_)
 cases hv:gZ h.dW with
 |false=>
  repeat'(first|refine sC ?_|((with_reducible refine aj ?_);first|(refine sS ?_;intro Q' hn he hr)|refine sA ?_)|(refine sH ?_;clear hn he hr Q')|refine sO ?_|((conv=>whnf);first|refine sK ?_|(refine sB ?_;repeat'(first|refine sb0 ?_|(refine aA ?_ ?_<;>intro hb<;>try exact cls)))|((with_reducible refine aZ ?_);first|(refine aT (IG h.fP) rfl rfl ?_)|(refine aT (II h.dU) rfl rfl ?_)|(refine aT (OL h.dW) rfl rfl ?_))|refine sD ?_|(refine au [] rfl rfl rfl ⟨?_,rfl⟩;conv=>lhs;whnf)))
  all_goals(simp_all[gB];done)
 |true=>
  obtain⟨h1,h2,h3,h4⟩:=Bq hv
  repeat'(first|refine sC ?_|((with_reducible refine aj ?_);first|(refine sS ?_;intro Q' hn he hr)|refine sA ?_)|(refine sH ?_;clear hn he hr Q')|refine sO ?_|((conv=>whnf);first|refine sK ?_|(refine sB ?_;repeat'(first|refine sb0 ?_|(refine aA ?_ ?_<;>intro hb<;>try exact cls)))|((with_reducible refine aZ ?_);first|(refine aT (IG h.fP) rfl rfl ?_)|(refine aT (II h.dU) rfl rfl ?_)|(refine aT (OL h.dW) rfl rfl ?_)|(refine aT (OZ h.dW h1 h2) rfl rfl ?_)|(refine aT (Y5 h.dZ (dO h.dW) ah) rfl rfl ?_)|(refine aT (YV h.eF) rfl rfl ?_)|(refine aT (OE h.aX) rfl rfl ?_)|(refine aT (IJ h.bD) rfl rfl ?_)|(refine aT (OJ h.dJ h.dh) rfl rfl ?_)|(refine aT (iQ _ _ _) rfl rfl ?_))|refine sD ?_|(refine au [] rfl rfl rfl ⟨?_,rfl⟩;conv=>lhs;whnf)))
  all_goals(simp_all[gB];done)
end Go.Eng
namespace Go.Eng
open Go Go.RowKit Go.Proofs
set_option maxRecDepth 100000
theorem IY(n:Int):ak Tryz.prog 116 G0 0 [] [.int .i64 n] (fun d os=>d= .bool (inB n 10000 90000)∧os=[]):=by
 refine aF Tryz.func116 rfl aB rfl (fun w0 F0 lent β0=> ?_)
 repeat'(first|refine sC ?_|((with_reducible refine aj ?_);first|(refine sS ?_;intro Q' hn he hr)|refine sA ?_)|(refine sH ?_;clear hn he hr Q')|((conv=>whnf);first|refine sK ?_|((with_reducible refine aH ?_);(refine aG (iy _ _ _) rfl rfl ?_))|(refine au [] rfl rfl rfl ⟨?_,rfl⟩;conv=>lhs;whnf)))
theorem aaM(n:Int):ak Tryz.prog 124 G0 0 [] [.int .i64 n] (fun d os=>d= .bool (inB n 1 100000)∧os=[]):=by
 refine aF Tryz.func124 rfl aB rfl (fun w0 F0 lent β0=> ?_)
 repeat'(first|refine sC ?_|((with_reducible refine aj ?_);first|(refine sS ?_;intro Q' hn he hr)|refine sA ?_)|(refine sH ?_;clear hn he hr Q')|((conv=>whnf);first|refine sK ?_|((with_reducible refine aH ?_);(refine aG (iy _ _ _) rfl rfl ?_))|(refine au [] rfl rfl rfl ⟨?_,rfl⟩;conv=>lhs;whnf)))
theorem adX{h:bM}(hv:(gZ h.dW&&oP (dO h.dW) h.dZ)=false):gB h=false:=by
 unfold gB
 cases h1:gZ h.dW with
 |false=>simp
 |true=>
  rw[h1,Bool.true_and] at hv
  simp[hv]
set_option maxHeartbeats 4000000 in
theorem I9(h:bM)(r:List D):ak Tryz.prog 55 G0 0 [] [.rp (oz h r)] (fun d os=>d= .bool (gB h)∧os=[]):=by
 have hbk:=aaH h.dW h.dZ
 cases hv:(gZ h.dW&&oP (dO h.dW) h.dZ) with
 |false=>
  rw[adX hv]
  rw[hv] at hbk
  refine aF Tryz.func55 rfl aB rfl (fun w0 F0 lent β0=> ?_)
  repeat'(first|refine sC ?_|((with_reducible refine aj ?_);first|(refine sS ?_;intro Q' hn he hr)|refine sA ?_)|(refine sH ?_;clear hn he hr Q')|refine sO ?_|((conv=>whnf);first|refine sK ?_|(refine sB ?_;repeat'(first|refine sb0 ?_|(refine aA ?_ ?_<;>intro hb<;>try exact cls)))|((with_reducible refine aZ ?_);first|(refine aT (PI h.fP _) rfl rfl ?_)|(refine aT (IX h.dU) rfl rfl ?_)|(refine aT (IY _) rfl rfl ?_)|(refine aT (hbk) rfl rfl ?_))|refine sD ?_|(refine au [] rfl rfl rfl ⟨?_,rfl⟩;conv=>lhs;whnf)))
 |true=>
  rw[hv] at hbk
  refine aF Tryz.func55 rfl aB rfl (fun w0 F0 lent β0=> ?_)
  repeat'(first|refine sC ?_|((with_reducible refine aj ?_);first|(refine sS ?_;intro Q' hn he hr)|refine sA ?_)|(refine sH ?_;clear hn he hr Q')|refine sO ?_|((conv=>whnf);first|refine sK ?_|(refine sB ?_;repeat'(first|refine sb0 ?_|(refine aA ?_ ?_<;>intro hb<;>try exact cls)))|((with_reducible refine aH ?_);first|(refine aG (iy _ _ _) rfl rfl ?_)|(refine aG (aaA h.eF) rfl rfl ?_)|(refine aG (aat h.aX) rfl rfl ?_)|(refine aG (I5 h.bD) rfl rfl ?_))|((with_reducible refine aZ ?_);first|(refine aT (PI h.fP _) rfl rfl ?_)|(refine aT (IX h.dU) rfl rfl ?_)|(refine aT (IY _) rfl rfl ?_)|(refine aT (hbk) rfl rfl ?_)|(refine aT (iy _ _ _) rfl rfl ?_)|(refine aT (aaO h.dJ) rfl rfl ?_)|(refine aT (aaN h.dJ h.dh) rfl rfl ?_)|(refine aT (aaM _) rfl rfl ?_))|refine sD ?_|(refine au [] rfl rfl rfl ⟨?_,rfl⟩;conv=>lhs;whnf)))
  all_goals(simp_all[gB];done)
end Go.Eng
