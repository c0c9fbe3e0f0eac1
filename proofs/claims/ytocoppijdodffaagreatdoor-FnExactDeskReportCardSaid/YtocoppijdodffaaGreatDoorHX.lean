/-
  Contracts of functions of the program and of the reference, and plain laws: a bundle of texts.
  No conditions.
-/
import Derived.Test.YtocoppijdodffaaGreatDoorP1
import Derived.Test.YtocoppijdodffaaGreatDoorHT
set_option linter.unusedVariables false
set_option linter.unusedSimpArgs false
set_option maxHeartbeats 4000000
namespace Go.Eng
open Go Go.RowKit Go.Proofs
set_option maxRecDepth 100000
theorem aa6(x:dn)(left:Int)(h0:0≤left)(h1:left≤1048576):ak Tryz.prog 43 G0 0 [] [.agg (jE x), .int .i64 left] (fun d os=>d= .int .i64 (if x.sz≤left then left-x.sz else-1)∧os=[]):=by
 refine aF Tryz.func43 rfl aB rfl (fun w0 F0 lent β0=> ?_)
 repeat'(first|refine sC ?_|((with_reducible refine aj ?_);first|(refine sS ?_;intro Q' hn he hr)|refine sA ?_)|(refine sH ?_;clear hn he hr Q')|((conv=>whnf);first|refine sK ?_|(refine sB ?_;repeat'(refine aA ?_ ?_<;>intro hb<;>try exact cls))|refine sP ?_|(refine sL ?_;intro hlen)|(refine au [] rfl rfl rfl ⟨?_,rfl⟩;conv=>lhs;whnf)))
 all_goals simp only[dn.sz]
 all_goals(first|rfl|(refine congrArg (D.int _) ?_;first|rfl|omega|(split<;>omega)))
theorem aby(x:dn):ak Tryz.prog 62 G0 0 [] [.agg (jE x)] (fun d os=>d= .agg (jE x)∧os=[]):=by
 refine aF Tryz.func62 rfl aB rfl (fun w0 F0 lent β0=> ?_)
 repeat'(first|refine sC ?_|((with_reducible refine aj ?_);first|(refine sS ?_;intro Q' hn he hr)|refine sA ?_)|(refine sH ?_;clear hn he hr Q')|((conv=>whnf);first|refine sK ?_|(refine au [] rfl rfl rfl ⟨?_,rfl⟩;conv=>lhs;whnf)))
 all_goals rfl
theorem Yk(a b:dn):ak Tryz.prog 87 G0 0 [] [.agg (jE a), .agg (jE b)] (fun d os=>d= .bool (Dt a b)∧os=[]):=by
 refine aF Tryz.func87 rfl aB rfl (fun w0 F0 lent β0=> ?_)
 repeat'(first|refine sC ?_|((with_reducible refine aj ?_);first|(refine sS ?_;intro Q' hn he hr)|refine sA ?_)|(refine sH ?_;clear hn he hr Q')|((conv=>whnf);first|refine sK ?_|(refine sB ?_;repeat'(refine aA ?_ ?_<;>intro hb<;>try exact cls))|(refine au [] rfl rfl rfl ⟨?_,rfl⟩;conv=>lhs;whnf)))
 all_goals simp_all[Dt,bG,eqStr,gW]
theorem abp(x:bW)(left:Int)(h0:0≤left)(h1:left≤1048576):ak Tryz.prog 108 G0 0 [] [.agg (dR x), .int .i64 left] (fun d os=>d= .int .i64 (if x.sz≤left then left-x.sz else-1)∧os=[]):=by
 refine aF Tryz.func108 rfl aB rfl (fun w0 F0 lent β0=> ?_)
 repeat'(first|refine sC ?_|((with_reducible refine aj ?_);first|(refine sS ?_;intro Q' hn he hr)|refine sA ?_)|(refine sH ?_;clear hn he hr Q')|((conv=>whnf);first|refine sK ?_|(refine sB ?_;repeat'(refine aA ?_ ?_<;>intro hb<;>try exact cls))|refine sP ?_|(refine sL ?_;intro hlen)|(refine au [] rfl rfl rfl ⟨?_,rfl⟩;conv=>lhs;whnf)))
 all_goals simp only[bW.sz]
 all_goals(first|rfl|(refine congrArg (D.int _) ?_;first|rfl|omega|(split<;>omega)))
theorem abQ(x:bW):ak Tryz.prog 135 G0 0 [] [.agg (dR x)] (fun d os=>d= .agg (dR x)∧os=[]):=by
 refine aF Tryz.func135 rfl aB rfl (fun w0 F0 lent β0=> ?_)
 repeat'(first|refine sC ?_|((with_reducible refine aj ?_);first|(refine sS ?_;intro Q' hn he hr)|refine sA ?_)|(refine sH ?_;clear hn he hr Q')|((conv=>whnf);first|refine sK ?_|(refine au [] rfl rfl rfl ⟨?_,rfl⟩;conv=>lhs;whnf)))
 all_goals rfl
theorem YC(a b:bW):ak Tryz.prog 171 G0 0 [] [.agg (dR a), .agg (dR b)] (fun d os=>d= .bool (xu a b)∧os=[]):=by
 refine aF Tryz.func171 rfl aB rfl (fun w0 F0 lent β0=> ?_)
 repeat'(first|refine sC ?_|((with_reducible refine aj ?_);first|(refine sS ?_;intro Q' hn he hr)|refine sA ?_)|(refine sH ?_;clear hn he hr Q')|((conv=>whnf);first|refine sK ?_|(refine sB ?_;repeat'(refine aA ?_ ?_<;>intro hb<;>try exact cls))|(refine au [] rfl rfl rfl ⟨?_,rfl⟩;conv=>lhs;whnf)))
 all_goals simp_all[xu,bG,eqStr,gW]
theorem abq(a:List (bW))(left:Int)(h0:0≤left)(h1:left≤1048576):ak Tryz.prog 44 G0 0 [] [.sl 5 (a.map dR), .int .i64 left] (fun d os=>d= .int .i64 (if dG bW.sz a≤left then left-dG bW.sz a else-1)∧os=[]):=by
 have hz0:=wz bW.sz a
 have hmono: ∀k,k≤a.length→fJ bW.sz a k≤dG bW.sz a:=fun k h=>wu _ h
 have hm0:=hmono 0 (Nat.zero_le _)
 refine aF Tryz.func44 rfl aB rfl (fun w0 F0 lent β0=> ?_)
 repeat'(first|refine sC ?_|((with_reducible refine aj ?_);first|(refine sS ?_;intro Q' hn he hr)|refine sA ?_)|(refine sH ?_;clear hn he hr Q')|((conv=>whnf);first|refine sK ?_|(refine sB ?_;repeat'(refine aA ?_ ?_<;>intro hb<;>try exact cls))|refine sP ?_|(refine sL ?_;intro hlen)|(refine au [] rfl rfl rfl ⟨?_,rfl⟩;conv=>lhs;whnf)))
 ·(first|rfl|(refine congrArg (D.int _) ?_;first|rfl|omega|(split<;>omega)))
 ·refine aQ (fun k:Nat=>[(0,.sl 5 (a.map dR)),(1,.int .i64 (left-fJ bW.sz a k)),(5,.int .i64 k)]) (fun _=>[]) (fun k=>k≤a.length∧(fJ bW.sz a k:Int)≤left) (fun k=>a.length-k) 0 ⟨by omega,by omega⟩ aI (fun k hk Q' hn he hr=> ?_)
  repeat'(first|refine sC ?_|((with_reducible refine aj ?_);first|(refine sS ?_;intro Q' hn he hr)|refine sA ?_)|(refine sH ?_;clear hn he hr Q')|((conv=>whnf);first|refine sK ?_|(refine sB ?_;repeat'(refine aA ?_ ?_<;>intro hb<;>try exact cls))|((with_reducible refine aH ?_);(refine aG (abp x _ ah ah) rfl rfl ?_))|refine sP ?_|(refine sE ?_;intro x hx)|(refine sL ?_;intro hlen)|(refine au [] rfl rfl rfl ⟨?_,rfl⟩;conv=>lhs;whnf)|(refine sH ?_;clear hn he hr Q')))
  ·have h2:=hmono (k+1) ah
   rw[lK ‹a[k]? =some _›] at h2
   split at hb<;>(first|rfl|(refine congrArg (D.int _) ?_;first|rfl|omega|(split<;>omega)))
  ·have h2:=lK (f:=bW.sz) ‹a[k]? =some _›
   split at hb
   ·rename_i h3
    refine⟨k+1,⟨by omega,by omega⟩,by omega,?_⟩
    rw[if_pos h3]
    exact aI
   ·omega
  ·have h2:k=a.length:=by omega
   subst h2
   have h3:=wo bW.sz a
   (first|rfl|(refine congrArg (D.int _) ?_;first|rfl|omega|(split<;>omega)))
def Xq:List D:=[.str [], .int .i64 0, .int .i64 0, .int .i64 0, .int .i64 0]
theorem abR(a:List (bW))(hs:a.length≤1048576):ak Tryz.prog 63 G0 0 [] [.sl 5 (a.map dR)] (fun d os=>d= .h 0∧os=[.row 211 5 (a.map dR)]):=by
 refine aF Tryz.func63 rfl aB rfl (fun w0 F0 lent β0=> ?_)
 repeat'(first|refine sC ?_|((with_reducible refine aj ?_);first|(refine sS ?_;intro Q' hn he hr)|refine sA ?_)|(refine sH ?_;clear hn he hr Q')|((conv=>whnf);first|refine sK ?_|refine sP ?_|(refine sL ?_;intro hlen)))
 refine aQ (fun k:Nat=>[(0,.sl 5 (a.map dR)),(3,.h 0),(4,.int .i64 k)]) (fun k=>[.row 211 5 (fill dR Xq a k)]) (fun k=>k≤a.length) (fun k=>a.length-k) 0 ah rQ (fun k hk Q' hn he hr=> ?_)
 repeat'(first|refine sC ?_|((with_reducible refine aj ?_);first|(refine sS ?_;intro Q' hn he hr)|refine sA ?_)|(refine sH ?_;clear hn he hr Q')|((conv=>whnf);first|refine sK ?_|(refine sB ?_;repeat'(refine aA ?_ ?_<;>intro hb<;>try exact cls))|((with_reducible refine aH ?_);(refine aG (abQ x) rfl rfl ?_))|((with_reducible refine bP ?_);(refine au [0] rfl rfl rfl ⟨rfl,?_⟩))|refine sP ?_|(refine sE ?_;intro x hx)|(refine sL ?_;intro hlen)|(refine sH ?_;clear hn he hr Q')))
 ·refine⟨k+1,by omega,by omega,?_⟩
  refine aC rfl rfl ?_ ⟨rfl,rfl,rfl,trivial⟩
  rw[←oI _ _ _ hx]
  rfl
 ·have h2:k=a.length:=by omega
  subst h2
  rw[←oH dR Xq a]
  rfl
theorem YD(a b:List (bW)):ak Tryz.prog 88 G0 0 [] [.sl 5 (a.map dR), .sl 5 (b.map dR)] (fun d os=>d= .bool (gX xu a b)∧os=[]):=by
 refine aF Tryz.func88 rfl aB rfl (fun w0 F0 lent β0=> ?_)
 repeat'(first|refine sC ?_|((with_reducible refine aj ?_);first|(refine sS ?_;intro Q' hn he hr)|refine sA ?_)|(refine sH ?_;clear hn he hr Q')|((conv=>whnf);first|refine sK ?_|(refine sB ?_;repeat'(refine aA ?_ ?_<;>intro hb<;>try exact cls))|(refine sL ?_;intro hlen)|(refine au [] rfl rfl rfl ⟨?_,rfl⟩;conv=>lhs;whnf)))
 ·rw[pX hb]
 ·refine aQ (fun k:Nat=>[(0,.sl 5 (a.map dR)),(1,.sl 5 (b.map dR)),(5,.int .i64 k)]) (fun _=>[]) (fun k=>k≤a.length∧mM xu a b k) (fun k=>a.length-k) 0 ⟨by omega,qc⟩ aI (fun k hk Q' hn he hr=> ?_)
  repeat'(first|refine sC ?_|((with_reducible refine aj ?_);first|(refine sS ?_;intro Q' hn he hr)|refine sA ?_)|(refine sH ?_;clear hn he hr Q')|refine sO ?_|((conv=>whnf);first|refine sK ?_|(refine sB ?_;repeat'(refine aA ?_ ?_<;>intro hb<;>try exact cls))|((with_reducible refine aZ ?_);(refine ku (.bool (xu _ _)) (YC _ _) rfl lg ?_))|refine sP ?_|(refine sE ?_;intro x hx)|(refine sL ?_;intro hlen)|refine sD ?_|(refine au [] rfl rfl rfl ⟨?_,rfl⟩;conv=>lhs;whnf)|(refine sH ?_;clear hn he hr Q')))
  ·rw[pW ‹a[k]? =some _› ‹b[k]? =some _› hb]
  ·exact⟨k+1,⟨by omega,pY hk.2 ‹a[k]? =some _› ‹b[k]? =some _› hb⟩,by omega,aI⟩
  ·rw[oC ah (fun j x y h=>hk.2 j x y ah)]
theorem abS(x:bK):ak Tryz.prog 136 G0 0 [] [.agg (dS x)] (fun d os=>d= .agg (dS x)∧os=[]):=by
 refine aF Tryz.func136 rfl aB rfl (fun w0 F0 lent β0=> ?_)
 repeat'(first|refine sC ?_|((with_reducible refine aj ?_);first|(refine sS ?_;intro Q' hn he hr)|refine sA ?_)|(refine sH ?_;clear hn he hr Q')|((conv=>whnf);first|refine sK ?_|(refine au [] rfl rfl rfl ⟨?_,rfl⟩;conv=>lhs;whnf)))
 all_goals rfl
theorem YE(a b:bK):ak Tryz.prog 172 G0 0 [] [.agg (dS a), .agg (dS b)] (fun d os=>d= .bool (xw a b)∧os=[]):=by
 refine aF Tryz.func172 rfl aB rfl (fun w0 F0 lent β0=> ?_)
 repeat'(first|refine sC ?_|((with_reducible refine aj ?_);first|(refine sS ?_;intro Q' hn he hr)|refine sA ?_)|(refine sH ?_;clear hn he hr Q')|((conv=>whnf);first|refine sK ?_|(refine sB ?_;repeat'(refine aA ?_ ?_<;>intro hb<;>try exact cls))|(refine au [] rfl rfl rfl ⟨?_,rfl⟩;conv=>lhs;whnf)))
 all_goals simp_all[xw,bG,eqStr,gW]
theorem abr(a:List (bK))(left:Int)(h0:0≤left)(h1:left≤1048576):ak Tryz.prog 45 G0 0 [] [.sl 5 (a.map dS), .int .i64 left] (fun d os=>d= .int .i64 (if dG nT a≤left then left-dG nT a else-1)∧os=[]):=by
 rw[NH]
 refine aF Tryz.func45 rfl aB rfl (fun w0 F0 lent β0=> ?_)
 repeat'(first|refine sC ?_|((with_reducible refine aj ?_);first|(refine sS ?_;intro Q' hn he hr)|refine sA ?_)|(refine sH ?_;clear hn he hr Q')|((conv=>whnf);first|refine sK ?_|(refine sB ?_;repeat'(refine aA ?_ ?_<;>intro hb<;>try exact cls))|refine sP ?_|(refine sL ?_;intro hlen)|(refine au [] rfl rfl rfl ⟨?_,rfl⟩;conv=>lhs;whnf)))
 all_goals(first|rfl|(refine congrArg (D.int _) ?_;first|rfl|omega|(split<;>omega)))
def Xr:List D:=[.int .i64 0, .int .i64 0, .int .i64 0, .int .i64 0, .int .i64 0]
theorem abT(a:List (bK))(hs:a.length≤1048576):ak Tryz.prog 64 G0 0 [] [.sl 5 (a.map dS)] (fun d os=>d= .h 0∧os=[.row 214 5 (a.map dS)]):=by
 refine aF Tryz.func64 rfl aB rfl (fun w0 F0 lent β0=> ?_)
 repeat'(first|refine sC ?_|((with_reducible refine aj ?_);first|(refine sS ?_;intro Q' hn he hr)|refine sA ?_)|(refine sH ?_;clear hn he hr Q')|((conv=>whnf);first|refine sK ?_|refine sP ?_|(refine sL ?_;intro hlen)))
 refine aQ (fun k:Nat=>[(0,.sl 5 (a.map dS)),(3,.h 0),(4,.int .i64 k)]) (fun k=>[.row 214 5 (fill dS Xr a k)]) (fun k=>k≤a.length) (fun k=>a.length-k) 0 ah rQ (fun k hk Q' hn he hr=> ?_)
 repeat'(first|refine sC ?_|((with_reducible refine aj ?_);first|(refine sS ?_;intro Q' hn he hr)|refine sA ?_)|(refine sH ?_;clear hn he hr Q')|((conv=>whnf);first|refine sK ?_|(refine sB ?_;repeat'(refine aA ?_ ?_<;>intro hb<;>try exact cls))|((with_reducible refine aH ?_);(refine aG (abS x) rfl rfl ?_))|((with_reducible refine bP ?_);(refine au [0] rfl rfl rfl ⟨rfl,?_⟩))|refine sP ?_|(refine sE ?_;intro x hx)|(refine sL ?_;intro hlen)|(refine sH ?_;clear hn he hr Q')))
 ·refine⟨k+1,by omega,by omega,?_⟩
  refine aC rfl rfl ?_ ⟨rfl,rfl,rfl,trivial⟩
  rw[←oI _ _ _ hx]
  rfl
 ·have h2:k=a.length:=by omega
  subst h2
  rw[←oH dS Xr a]
  rfl
theorem YF(a b:List (bK)):ak Tryz.prog 89 G0 0 [] [.sl 5 (a.map dS), .sl 5 (b.map dS)] (fun d os=>d= .bool (gX xw a b)∧os=[]):=by
 refine aF Tryz.func89 rfl aB rfl (fun w0 F0 lent β0=> ?_)
 repeat'(first|refine sC ?_|((with_reducible refine aj ?_);first|(refine sS ?_;intro Q' hn he hr)|refine sA ?_)|(refine sH ?_;clear hn he hr Q')|((conv=>whnf);first|refine sK ?_|(refine sB ?_;repeat'(refine aA ?_ ?_<;>intro hb<;>try exact cls))|(refine sL ?_;intro hlen)|(refine au [] rfl rfl rfl ⟨?_,rfl⟩;conv=>lhs;whnf)))
 ·rw[pX hb]
 ·refine aQ (fun k:Nat=>[(0,.sl 5 (a.map dS)),(1,.sl 5 (b.map dS)),(5,.int .i64 k)]) (fun _=>[]) (fun k=>k≤a.length∧mM xw a b k) (fun k=>a.length-k) 0 ⟨by omega,qc⟩ aI (fun k hk Q' hn he hr=> ?_)
  repeat'(first|refine sC ?_|((with_reducible refine aj ?_);first|(refine sS ?_;intro Q' hn he hr)|refine sA ?_)|(refine sH ?_;clear hn he hr Q')|refine sO ?_|((conv=>whnf);first|refine sK ?_|(refine sB ?_;repeat'(refine aA ?_ ?_<;>intro hb<;>try exact cls))|((with_reducible refine aZ ?_);(refine ku (.bool (xw _ _)) (YE _ _) rfl lg ?_))|refine sP ?_|(refine sE ?_;intro x hx)|(refine sL ?_;intro hlen)|refine sD ?_|(refine au [] rfl rfl rfl ⟨?_,rfl⟩;conv=>lhs;whnf)|(refine sH ?_;clear hn he hr Q')))
  ·rw[pW ‹a[k]? =some _› ‹b[k]? =some _› hb]
  ·exact⟨k+1,⟨by omega,pY hk.2 ‹a[k]? =some _› ‹b[k]? =some _› hb⟩,by omega,aI⟩
  ·rw[oC ah (fun j x y h=>hk.2 j x y ah)]
theorem aa7(x:cu)(left:Int)(h0:0≤left)(h1:left≤1048576):ak Tryz.prog 109 G0 0 [] [.agg (dP x), .int .i64 left] (fun d os=>d= .int .i64 (if x.sz≤left then left-x.sz else-1)∧os=[]):=by
 refine aF Tryz.func109 rfl aB rfl (fun w0 F0 lent β0=> ?_)
 repeat'(first|refine sC ?_|((with_reducible refine aj ?_);first|(refine sS ?_;intro Q' hn he hr)|refine sA ?_)|(refine sH ?_;clear hn he hr Q')|((conv=>whnf);first|refine sK ?_|(refine sB ?_;repeat'(refine aA ?_ ?_<;>intro hb<;>try exact cls))|refine sP ?_|(refine sL ?_;intro hlen)|(refine au [] rfl rfl rfl ⟨?_,rfl⟩;conv=>lhs;whnf)))
 all_goals simp only[cu.sz]
 all_goals(first|rfl|(refine congrArg (D.int _) ?_;first|rfl|omega|(split<;>omega)))
theorem abz(x:cu):ak Tryz.prog 137 G0 0 [] [.agg (dP x)] (fun d os=>d= .agg (dP x)∧os=[]):=by
 refine aF Tryz.func137 rfl aB rfl (fun w0 F0 lent β0=> ?_)
 repeat'(first|refine sC ?_|((with_reducible refine aj ?_);first|(refine sS ?_;intro Q' hn he hr)|refine sA ?_)|(refine sH ?_;clear hn he hr Q')|((conv=>whnf);first|refine sK ?_|(refine au [] rfl rfl rfl ⟨?_,rfl⟩;conv=>lhs;whnf)))
 all_goals rfl
theorem Yl(a b:cu):ak Tryz.prog 173 G0 0 [] [.agg (dP a), .agg (dP b)] (fun d os=>d= .bool (wW a b)∧os=[]):=by
 refine aF Tryz.func173 rfl aB rfl (fun w0 F0 lent β0=> ?_)
 repeat'(first|refine sC ?_|((with_reducible refine aj ?_);first|(refine sS ?_;intro Q' hn he hr)|refine sA ?_)|(refine sH ?_;clear hn he hr Q')|((conv=>whnf);first|refine sK ?_|(refine sB ?_;repeat'(refine aA ?_ ?_<;>intro hb<;>try exact cls))|(refine au [] rfl rfl rfl ⟨?_,rfl⟩;conv=>lhs;whnf)))
 all_goals simp_all[wW,bG,eqStr,gW]
theorem aa8(a:List (cu))(left:Int)(h0:0≤left)(h1:left≤1048576):ak Tryz.prog 47 G0 0 [] [.sl 4 (a.map dP), .int .i64 left] (fun d os=>d= .int .i64 (if dG cu.sz a≤left then left-dG cu.sz a else-1)∧os=[]):=by
 have hz0:=wz cu.sz a
 have hmono: ∀k,k≤a.length→fJ cu.sz a k≤dG cu.sz a:=fun k h=>wu _ h
 have hm0:=hmono 0 (Nat.zero_le _)
 refine aF Tryz.func47 rfl aB rfl (fun w0 F0 lent β0=> ?_)
 repeat'(first|refine sC ?_|((with_reducible refine aj ?_);first|(refine sS ?_;intro Q' hn he hr)|refine sA ?_)|(refine sH ?_;clear hn he hr Q')|((conv=>whnf);first|refine sK ?_|(refine sB ?_;repeat'(refine aA ?_ ?_<;>intro hb<;>try exact cls))|refine sP ?_|(refine sL ?_;intro hlen)|(refine au [] rfl rfl rfl ⟨?_,rfl⟩;conv=>lhs;whnf)))
 ·(first|rfl|(refine congrArg (D.int _) ?_;first|rfl|omega|(split<;>omega)))
 ·refine aQ (fun k:Nat=>[(0,.sl 4 (a.map dP)),(1,.int .i64 (left-fJ cu.sz a k)),(5,.int .i64 k)]) (fun _=>[]) (fun k=>k≤a.length∧(fJ cu.sz a k:Int)≤left) (fun k=>a.length-k) 0 ⟨by omega,by omega⟩ aI (fun k hk Q' hn he hr=> ?_)
  repeat'(first|refine sC ?_|((with_reducible refine aj ?_);first|(refine sS ?_;intro Q' hn he hr)|refine sA ?_)|(refine sH ?_;clear hn he hr Q')|((conv=>whnf);first|refine sK ?_|(refine sB ?_;repeat'(refine aA ?_ ?_<;>intro hb<;>try exact cls))|((with_reducible refine aH ?_);(refine aG (aa7 x _ ah ah) rfl rfl ?_))|refine sP ?_|(refine sE ?_;intro x hx)|(refine sL ?_;intro hlen)|(refine au [] rfl rfl rfl ⟨?_,rfl⟩;conv=>lhs;whnf)|(refine sH ?_;clear hn he hr Q')))
  ·have h2:=hmono (k+1) ah
   rw[lK ‹a[k]? =some _›] at h2
   split at hb<;>(first|rfl|(refine congrArg (D.int _) ?_;first|rfl|omega|(split<;>omega)))
  ·have h2:=lK (f:=cu.sz) ‹a[k]? =some _›
   split at hb
   ·rename_i h3
    refine⟨k+1,⟨by omega,by omega⟩,by omega,?_⟩
    rw[if_pos h3]
    exact aI
   ·omega
  ·have h2:k=a.length:=by omega
   subst h2
   have h3:=wo cu.sz a
   (first|rfl|(refine congrArg (D.int _) ?_;first|rfl|omega|(split<;>omega)))
def Xi:List D:=[.str [], .int .i64 0, .int .i64 0, .int .i64 0]
theorem abA(a:List (cu))(hs:a.length≤1048576):ak Tryz.prog 66 G0 0 [] [.sl 4 (a.map dP)] (fun d os=>d= .h 0∧os=[.row 217 4 (a.map dP)]):=by
 refine aF Tryz.func66 rfl aB rfl (fun w0 F0 lent β0=> ?_)
 repeat'(first|refine sC ?_|((with_reducible refine aj ?_);first|(refine sS ?_;intro Q' hn he hr)|refine sA ?_)|(refine sH ?_;clear hn he hr Q')|((conv=>whnf);first|refine sK ?_|refine sP ?_|(refine sL ?_;intro hlen)))
 refine aQ (fun k:Nat=>[(0,.sl 4 (a.map dP)),(3,.h 0),(4,.int .i64 k)]) (fun k=>[.row 217 4 (fill dP Xi a k)]) (fun k=>k≤a.length) (fun k=>a.length-k) 0 ah rQ (fun k hk Q' hn he hr=> ?_)
 repeat'(first|refine sC ?_|((with_reducible refine aj ?_);first|(refine sS ?_;intro Q' hn he hr)|refine sA ?_)|(refine sH ?_;clear hn he hr Q')|((conv=>whnf);first|refine sK ?_|(refine sB ?_;repeat'(refine aA ?_ ?_<;>intro hb<;>try exact cls))|((with_reducible refine aH ?_);(refine aG (abz x) rfl rfl ?_))|((with_reducible refine bP ?_);(refine au [0] rfl rfl rfl ⟨rfl,?_⟩))|refine sP ?_|(refine sE ?_;intro x hx)|(refine sL ?_;intro hlen)|(refine sH ?_;clear hn he hr Q')))
 ·refine⟨k+1,by omega,by omega,?_⟩
  refine aC rfl rfl ?_ ⟨rfl,rfl,rfl,trivial⟩
  rw[←oI _ _ _ hx]
  rfl
 ·have h2:k=a.length:=by omega
  subst h2
  rw[←oH dP Xi a]
  rfl
theorem Ym(a b:List (cu)):ak Tryz.prog 91 G0 0 [] [.sl 4 (a.map dP), .sl 4 (b.map dP)] (fun d os=>d= .bool (gX wW a b)∧os=[]):=by
 refine aF Tryz.func91 rfl aB rfl (fun w0 F0 lent β0=> ?_)
 repeat'(first|refine sC ?_|((with_reducible refine aj ?_);first|(refine sS ?_;intro Q' hn he hr)|refine sA ?_)|(refine sH ?_;clear hn he hr Q')|((conv=>whnf);first|refine sK ?_|(refine sB ?_;repeat'(refine aA ?_ ?_<;>intro hb<;>try exact cls))|(refine sL ?_;intro hlen)|(refine au [] rfl rfl rfl ⟨?_,rfl⟩;conv=>lhs;whnf)))
 ·rw[pX hb]
 ·refine aQ (fun k:Nat=>[(0,.sl 4 (a.map dP)),(1,.sl 4 (b.map dP)),(5,.int .i64 k)]) (fun _=>[]) (fun k=>k≤a.length∧mM wW a b k) (fun k=>a.length-k) 0 ⟨by omega,qc⟩ aI (fun k hk Q' hn he hr=> ?_)
  repeat'(first|refine sC ?_|((with_reducible refine aj ?_);first|(refine sS ?_;intro Q' hn he hr)|refine sA ?_)|(refine sH ?_;clear hn he hr Q')|refine sO ?_|((conv=>whnf);first|refine sK ?_|(refine sB ?_;repeat'(refine aA ?_ ?_<;>intro hb<;>try exact cls))|((with_reducible refine aZ ?_);(refine ku (.bool (wW _ _)) (Yl _ _) rfl lg ?_))|refine sP ?_|(refine sE ?_;intro x hx)|(refine sL ?_;intro hlen)|refine sD ?_|(refine au [] rfl rfl rfl ⟨?_,rfl⟩;conv=>lhs;whnf)|(refine sH ?_;clear hn he hr Q')))
  ·rw[pW ‹a[k]? =some _› ‹b[k]? =some _› hb]
  ·exact⟨k+1,⟨by omega,pY hk.2 ‹a[k]? =some _› ‹b[k]? =some _› hb⟩,by omega,aI⟩
  ·rw[oC ah (fun j x y h=>hk.2 j x y ah)]
theorem aa4(x:aV)(left:Int)(h0:0≤left)(h1:left≤1048576):ak Tryz.prog 110 G0 0 [] [.agg (cO x), .int .i64 left] (fun d os=>d= .int .i64 (if x.sz≤left then left-x.sz else-1)∧os=[]):=by
 refine aF Tryz.func110 rfl aB rfl (fun w0 F0 lent β0=> ?_)
 repeat'(first|refine sC ?_|((with_reducible refine aj ?_);first|(refine sS ?_;intro Q' hn he hr)|refine sA ?_)|(refine sH ?_;clear hn he hr Q')|((conv=>whnf);first|refine sK ?_|(refine sB ?_;repeat'(refine aA ?_ ?_<;>intro hb<;>try exact cls))|refine sP ?_|(refine sL ?_;intro hlen)|(refine au [] rfl rfl rfl ⟨?_,rfl⟩;conv=>lhs;whnf)))
 all_goals simp only[aV.sz]
 all_goals(first|rfl|(refine congrArg (D.int _) ?_;first|rfl|omega|(split<;>omega)))
theorem abw(x:aV):ak Tryz.prog 138 G0 0 [] [.agg (cO x)] (fun d os=>d= .agg (cO x)∧os=[]):=by
 refine aF Tryz.func138 rfl aB rfl (fun w0 F0 lent β0=> ?_)
 repeat'(first|refine sC ?_|((with_reducible refine aj ?_);first|(refine sS ?_;intro Q' hn he hr)|refine sA ?_)|(refine sH ?_;clear hn he hr Q')|((conv=>whnf);first|refine sK ?_|(refine au [] rfl rfl rfl ⟨?_,rfl⟩;conv=>lhs;whnf)))
 all_goals rfl
theorem Yi(a b:aV):ak Tryz.prog 174 G0 0 [] [.agg (cO a), .agg (cO b)] (fun d os=>d= .bool (wV a b)∧os=[]):=by
 refine aF Tryz.func174 rfl aB rfl (fun w0 F0 lent β0=> ?_)
 repeat'(first|refine sC ?_|((with_reducible refine aj ?_);first|(refine sS ?_;intro Q' hn he hr)|refine sA ?_)|(refine sH ?_;clear hn he hr Q')|((conv=>whnf);first|refine sK ?_|(refine sB ?_;repeat'(refine aA ?_ ?_<;>intro hb<;>try exact cls))|(refine au [] rfl rfl rfl ⟨?_,rfl⟩;conv=>lhs;whnf)))
 all_goals simp_all[wV,bG,eqStr,gW]
theorem aa5(a:List (aV))(left:Int)(h0:0≤left)(h1:left≤1048576):ak Tryz.prog 48 G0 0 [] [.sl 6 (a.map cO), .int .i64 left] (fun d os=>d= .int .i64 (if dG aV.sz a≤left then left-dG aV.sz a else-1)∧os=[]):=by
 have hz0:=wz aV.sz a
 have hmono: ∀k,k≤a.length→fJ aV.sz a k≤dG aV.sz a:=fun k h=>wu _ h
 have hm0:=hmono 0 (Nat.zero_le _)
 refine aF Tryz.func48 rfl aB rfl (fun w0 F0 lent β0=> ?_)
 repeat'(first|refine sC ?_|((with_reducible refine aj ?_);first|(refine sS ?_;intro Q' hn he hr)|refine sA ?_)|(refine sH ?_;clear hn he hr Q')|((conv=>whnf);first|refine sK ?_|(refine sB ?_;repeat'(refine aA ?_ ?_<;>intro hb<;>try exact cls))|refine sP ?_|(refine sL ?_;intro hlen)|(refine au [] rfl rfl rfl ⟨?_,rfl⟩;conv=>lhs;whnf)))
 ·(first|rfl|(refine congrArg (D.int _) ?_;first|rfl|omega|(split<;>omega)))
 ·refine aQ (fun k:Nat=>[(0,.sl 6 (a.map cO)),(1,.int .i64 (left-fJ aV.sz a k)),(5,.int .i64 k)]) (fun _=>[]) (fun k=>k≤a.length∧(fJ aV.sz a k:Int)≤left) (fun k=>a.length-k) 0 ⟨by omega,by omega⟩ aI (fun k hk Q' hn he hr=> ?_)
  repeat'(first|refine sC ?_|((with_reducible refine aj ?_);first|(refine sS ?_;intro Q' hn he hr)|refine sA ?_)|(refine sH ?_;clear hn he hr Q')|((conv=>whnf);first|refine sK ?_|(refine sB ?_;repeat'(refine aA ?_ ?_<;>intro hb<;>try exact cls))|((with_reducible refine aH ?_);(refine aG (aa4 x _ ah ah) rfl rfl ?_))|refine sP ?_|(refine sE ?_;intro x hx)|(refine sL ?_;intro hlen)|(refine au [] rfl rfl rfl ⟨?_,rfl⟩;conv=>lhs;whnf)|(refine sH ?_;clear hn he hr Q')))
  ·have h2:=hmono (k+1) ah
   rw[lK ‹a[k]? =some _›] at h2
   split at hb<;>(first|rfl|(refine congrArg (D.int _) ?_;first|rfl|omega|(split<;>omega)))
  ·have h2:=lK (f:=aV.sz) ‹a[k]? =some _›
   split at hb
   ·rename_i h3
    refine⟨k+1,⟨by omega,by omega⟩,by omega,?_⟩
    rw[if_pos h3]
    exact aI
   ·omega
  ·have h2:k=a.length:=by omega
   subst h2
   have h3:=wo aV.sz a
   (first|rfl|(refine congrArg (D.int _) ?_;first|rfl|omega|(split<;>omega)))
def Xh:List D:=[.str [], .int .i64 0, .int .i64 0, .str [], .int .i64 0, .int .i64 0]
theorem abx(a:List (aV))(hs:a.length≤1048576):ak Tryz.prog 67 G0 0 [] [.sl 6 (a.map cO)] (fun d os=>d= .h 0∧os=[.row 219 6 (a.map cO)]):=by
 refine aF Tryz.func67 rfl aB rfl (fun w0 F0 lent β0=> ?_)
 repeat'(first|refine sC ?_|((with_reducible refine aj ?_);first|(refine sS ?_;intro Q' hn he hr)|refine sA ?_)|(refine sH ?_;clear hn he hr Q')|((conv=>whnf);first|refine sK ?_|refine sP ?_|(refine sL ?_;intro hlen)))
 refine aQ (fun k:Nat=>[(0,.sl 6 (a.map cO)),(3,.h 0),(4,.int .i64 k)]) (fun k=>[.row 219 6 (fill cO Xh a k)]) (fun k=>k≤a.length) (fun k=>a.length-k) 0 ah rQ (fun k hk Q' hn he hr=> ?_)
 repeat'(first|refine sC ?_|((with_reducible refine aj ?_);first|(refine sS ?_;intro Q' hn he hr)|refine sA ?_)|(refine sH ?_;clear hn he hr Q')|((conv=>whnf);first|refine sK ?_|(refine sB ?_;repeat'(refine aA ?_ ?_<;>intro hb<;>try exact cls))|((with_reducible refine aH ?_);(refine aG (abw x) rfl rfl ?_))|((with_reducible refine bP ?_);(refine au [0] rfl rfl rfl ⟨rfl,?_⟩))|refine sP ?_|(refine sE ?_;intro x hx)|(refine sL ?_;intro hlen)|(refine sH ?_;clear hn he hr Q')))
 ·refine⟨k+1,by omega,by omega,?_⟩
  refine aC rfl rfl ?_ ⟨rfl,rfl,rfl,trivial⟩
  rw[←oI _ _ _ hx]
  rfl
 ·have h2:k=a.length:=by omega
  subst h2
  rw[←oH cO Xh a]
  rfl
theorem Yj(a b:List (aV)):ak Tryz.prog 92 G0 0 [] [.sl 6 (a.map cO), .sl 6 (b.map cO)] (fun d os=>d= .bool (gX wV a b)∧os=[]):=by
 refine aF Tryz.func92 rfl aB rfl (fun w0 F0 lent β0=> ?_)
 repeat'(first|refine sC ?_|((with_reducible refine aj ?_);first|(refine sS ?_;intro Q' hn he hr)|refine sA ?_)|(refine sH ?_;clear hn he hr Q')|((conv=>whnf);first|refine sK ?_|(refine sB ?_;repeat'(refine aA ?_ ?_<;>intro hb<;>try exact cls))|(refine sL ?_;intro hlen)|(refine au [] rfl rfl rfl ⟨?_,rfl⟩;conv=>lhs;whnf)))
 ·rw[pX hb]
 ·refine aQ (fun k:Nat=>[(0,.sl 6 (a.map cO)),(1,.sl 6 (b.map cO)),(5,.int .i64 k)]) (fun _=>[]) (fun k=>k≤a.length∧mM wV a b k) (fun k=>a.length-k) 0 ⟨by omega,qc⟩ aI (fun k hk Q' hn he hr=> ?_)
  repeat'(first|refine sC ?_|((with_reducible refine aj ?_);first|(refine sS ?_;intro Q' hn he hr)|refine sA ?_)|(refine sH ?_;clear hn he hr Q')|refine sO ?_|((conv=>whnf);first|refine sK ?_|(refine sB ?_;repeat'(refine aA ?_ ?_<;>intro hb<;>try exact cls))|((with_reducible refine aZ ?_);(refine ku (.bool (wV _ _)) (Yi _ _) rfl lg ?_))|refine sP ?_|(refine sE ?_;intro x hx)|(refine sL ?_;intro hlen)|refine sD ?_|(refine au [] rfl rfl rfl ⟨?_,rfl⟩;conv=>lhs;whnf)|(refine sH ?_;clear hn he hr Q')))
  ·rw[pW ‹a[k]? =some _› ‹b[k]? =some _› hb]
  ·exact⟨k+1,⟨by omega,pY hk.2 ‹a[k]? =some _› ‹b[k]? =some _› hb⟩,by omega,aI⟩
  ·rw[oC ah (fun j x y h=>hk.2 j x y ah)]
theorem abe(x:aY)(left:Int)(h0:0≤left)(h1:left≤1048576):ak Tryz.prog 111 G0 0 [] [.agg (dH x), .int .i64 left] (fun d os=>d= .int .i64 (if x.sz≤left then left-x.sz else-1)∧os=[]):=by
 refine aF Tryz.func111 rfl aB rfl (fun w0 F0 lent β0=> ?_)
 repeat'(first|refine sC ?_|((with_reducible refine aj ?_);first|(refine sS ?_;intro Q' hn he hr)|refine sA ?_)|(refine sH ?_;clear hn he hr Q')|((conv=>whnf);first|refine sK ?_|(refine sB ?_;repeat'(refine aA ?_ ?_<;>intro hb<;>try exact cls))|refine sP ?_|(refine sL ?_;intro hlen)|(refine au [] rfl rfl rfl ⟨?_,rfl⟩;conv=>lhs;whnf)))
 all_goals simp only[aY.sz]
 all_goals(first|rfl|(refine congrArg (D.int _) ?_;first|rfl|omega|(split<;>omega)))
theorem abG(x:aY):ak Tryz.prog 139 G0 0 [] [.agg (dH x)] (fun d os=>d= .agg (dH x)∧os=[]):=by
 refine aF Tryz.func139 rfl aB rfl (fun w0 F0 lent β0=> ?_)
 repeat'(first|refine sC ?_|((with_reducible refine aj ?_);first|(refine sS ?_;intro Q' hn he hr)|refine sA ?_)|(refine sH ?_;clear hn he hr Q')|((conv=>whnf);first|refine sK ?_|(refine au [] rfl rfl rfl ⟨?_,rfl⟩;conv=>lhs;whnf)))
 all_goals rfl
theorem Yr(a b:aY):ak Tryz.prog 175 G0 0 [] [.agg (dH a), .agg (dH b)] (fun d os=>d= .bool (wY a b)∧os=[]):=by
 refine aF Tryz.func175 rfl aB rfl (fun w0 F0 lent β0=> ?_)
 repeat'(first|refine sC ?_|((with_reducible refine aj ?_);first|(refine sS ?_;intro Q' hn he hr)|refine sA ?_)|(refine sH ?_;clear hn he hr Q')|((conv=>whnf);first|refine sK ?_|(refine sB ?_;repeat'(refine aA ?_ ?_<;>intro hb<;>try exact cls))|(refine au [] rfl rfl rfl ⟨?_,rfl⟩;conv=>lhs;whnf)))
 all_goals simp_all[wY,bG,eqStr,gW]
theorem abf(a:List (aY))(left:Int)(h0:0≤left)(h1:left≤1048576):ak Tryz.prog 49 G0 0 [] [.sl 3 (a.map dH), .int .i64 left] (fun d os=>d= .int .i64 (if dG aY.sz a≤left then left-dG aY.sz a else-1)∧os=[]):=by
 have hz0:=wz aY.sz a
 have hmono: ∀k,k≤a.length→fJ aY.sz a k≤dG aY.sz a:=fun k h=>wu _ h
 have hm0:=hmono 0 (Nat.zero_le _)
 refine aF Tryz.func49 rfl aB rfl (fun w0 F0 lent β0=> ?_)
 repeat'(first|refine sC ?_|((with_reducible refine aj ?_);first|(refine sS ?_;intro Q' hn he hr)|refine sA ?_)|(refine sH ?_;clear hn he hr Q')|((conv=>whnf);first|refine sK ?_|(refine sB ?_;repeat'(refine aA ?_ ?_<;>intro hb<;>try exact cls))|refine sP ?_|(refine sL ?_;intro hlen)|(refine au [] rfl rfl rfl ⟨?_,rfl⟩;conv=>lhs;whnf)))
 ·(first|rfl|(refine congrArg (D.int _) ?_;first|rfl|omega|(split<;>omega)))
 ·refine aQ (fun k:Nat=>[(0,.sl 3 (a.map dH)),(1,.int .i64 (left-fJ aY.sz a k)),(5,.int .i64 k)]) (fun _=>[]) (fun k=>k≤a.length∧(fJ aY.sz a k:Int)≤left) (fun k=>a.length-k) 0 ⟨by omega,by omega⟩ aI (fun k hk Q' hn he hr=> ?_)
  repeat'(first|refine sC ?_|((with_reducible refine aj ?_);first|(refine sS ?_;intro Q' hn he hr)|refine sA ?_)|(refine sH ?_;clear hn he hr Q')|((conv=>whnf);first|refine sK ?_|(refine sB ?_;repeat'(refine aA ?_ ?_<;>intro hb<;>try exact cls))|((with_reducible refine aH ?_);(refine aG (abe x _ ah ah) rfl rfl ?_))|refine sP ?_|(refine sE ?_;intro x hx)|(refine sL ?_;intro hlen)|(refine au [] rfl rfl rfl ⟨?_,rfl⟩;conv=>lhs;whnf)|(refine sH ?_;clear hn he hr Q')))
  ·have h2:=hmono (k+1) ah
   rw[lK ‹a[k]? =some _›] at h2
   split at hb<;>(first|rfl|(refine congrArg (D.int _) ?_;first|rfl|omega|(split<;>omega)))
  ·have h2:=lK (f:=aY.sz) ‹a[k]? =some _›
   split at hb
   ·rename_i h3
    refine⟨k+1,⟨by omega,by omega⟩,by omega,?_⟩
    rw[if_pos h3]
    exact aI
   ·omega
  ·have h2:k=a.length:=by omega
   subst h2
   have h3:=wo aY.sz a
   (first|rfl|(refine congrArg (D.int _) ?_;first|rfl|omega|(split<;>omega)))
def Xl:List D:=[.int .i64 0, .str [], .int .i64 0]
theorem abH(a:List (aY))(hs:a.length≤1048576):ak Tryz.prog 68 G0 0 [] [.sl 3 (a.map dH)] (fun d os=>d= .h 0∧os=[.row 221 3 (a.map dH)]):=by
 refine aF Tryz.func68 rfl aB rfl (fun w0 F0 lent β0=> ?_)
 repeat'(first|refine sC ?_|((with_reducible refine aj ?_);first|(refine sS ?_;intro Q' hn he hr)|refine sA ?_)|(refine sH ?_;clear hn he hr Q')|((conv=>whnf);first|refine sK ?_|refine sP ?_|(refine sL ?_;intro hlen)))
 refine aQ (fun k:Nat=>[(0,.sl 3 (a.map dH)),(3,.h 0),(4,.int .i64 k)]) (fun k=>[.row 221 3 (fill dH Xl a k)]) (fun k=>k≤a.length) (fun k=>a.length-k) 0 ah rQ (fun k hk Q' hn he hr=> ?_)
 repeat'(first|refine sC ?_|((with_reducible refine aj ?_);first|(refine sS ?_;intro Q' hn he hr)|refine sA ?_)|(refine sH ?_;clear hn he hr Q')|((conv=>whnf);first|refine sK ?_|(refine sB ?_;repeat'(refine aA ?_ ?_<;>intro hb<;>try exact cls))|((with_reducible refine aH ?_);(refine aG (abG x) rfl rfl ?_))|((with_reducible refine bP ?_);(refine au [0] rfl rfl rfl ⟨rfl,?_⟩))|refine sP ?_|(refine sE ?_;intro x hx)|(refine sL ?_;intro hlen)|(refine sH ?_;clear hn he hr Q')))
 ·refine⟨k+1,by omega,by omega,?_⟩
  refine aC rfl rfl ?_ ⟨rfl,rfl,rfl,trivial⟩
  rw[←oI _ _ _ hx]
  rfl
 ·have h2:k=a.length:=by omega
  subst h2
  rw[←oH dH Xl a]
  rfl
theorem Yt(a b:List (aY)):ak Tryz.prog 93 G0 0 [] [.sl 3 (a.map dH), .sl 3 (b.map dH)] (fun d os=>d= .bool (gX wY a b)∧os=[]):=by
 refine aF Tryz.func93 rfl aB rfl (fun w0 F0 lent β0=> ?_)
 repeat'(first|refine sC ?_|((with_reducible refine aj ?_);first|(refine sS ?_;intro Q' hn he hr)|refine sA ?_)|(refine sH ?_;clear hn he hr Q')|((conv=>whnf);first|refine sK ?_|(refine sB ?_;repeat'(refine aA ?_ ?_<;>intro hb<;>try exact cls))|(refine sL ?_;intro hlen)|(refine au [] rfl rfl rfl ⟨?_,rfl⟩;conv=>lhs;whnf)))
 ·rw[pX hb]
 ·refine aQ (fun k:Nat=>[(0,.sl 3 (a.map dH)),(1,.sl 3 (b.map dH)),(5,.int .i64 k)]) (fun _=>[]) (fun k=>k≤a.length∧mM wY a b k) (fun k=>a.length-k) 0 ⟨by omega,qc⟩ aI (fun k hk Q' hn he hr=> ?_)
  repeat'(first|refine sC ?_|((with_reducible refine aj ?_);first|(refine sS ?_;intro Q' hn he hr)|refine sA ?_)|(refine sH ?_;clear hn he hr Q')|refine sO ?_|((conv=>whnf);first|refine sK ?_|(refine sB ?_;repeat'(refine aA ?_ ?_<;>intro hb<;>try exact cls))|((with_reducible refine aZ ?_);(refine ku (.bool (wY _ _)) (Yr _ _) rfl lg ?_))|refine sP ?_|(refine sE ?_;intro x hx)|(refine sL ?_;intro hlen)|refine sD ?_|(refine au [] rfl rfl rfl ⟨?_,rfl⟩;conv=>lhs;whnf)|(refine sH ?_;clear hn he hr Q')))
  ·rw[pW ‹a[k]? =some _› ‹b[k]? =some _› hb]
  ·exact⟨k+1,⟨by omega,pY hk.2 ‹a[k]? =some _› ‹b[k]? =some _› hb⟩,by omega,aI⟩
  ·rw[oC ah (fun j x y h=>hk.2 j x y ah)]
theorem abg(x:bC)(left:Int)(h0:0≤left)(h1:left≤1048576):ak Tryz.prog 112 G0 0 [] [.agg (dM x), .int .i64 left] (fun d os=>d= .int .i64 (if x.sz≤left then left-x.sz else-1)∧os=[]):=by
 refine aF Tryz.func112 rfl aB rfl (fun w0 F0 lent β0=> ?_)
 repeat'(first|refine sC ?_|((with_reducible refine aj ?_);first|(refine sS ?_;intro Q' hn he hr)|refine sA ?_)|(refine sH ?_;clear hn he hr Q')|((conv=>whnf);first|refine sK ?_|(refine sB ?_;repeat'(refine aA ?_ ?_<;>intro hb<;>try exact cls))|refine sP ?_|(refine sL ?_;intro hlen)|(refine au [] rfl rfl rfl ⟨?_,rfl⟩;conv=>lhs;whnf)))
 all_goals simp only[bC.sz]
 all_goals(first|rfl|(refine congrArg (D.int _) ?_;first|rfl|omega|(split<;>omega)))
theorem abI(x:bC):ak Tryz.prog 140 G0 0 [] [.agg (dM x)] (fun d os=>d= .agg (dM x)∧os=[]):=by
 refine aF Tryz.func140 rfl aB rfl (fun w0 F0 lent β0=> ?_)
 repeat'(first|refine sC ?_|((with_reducible refine aj ?_);first|(refine sS ?_;intro Q' hn he hr)|refine sA ?_)|(refine sH ?_;clear hn he hr Q')|((conv=>whnf);first|refine sK ?_|(refine au [] rfl rfl rfl ⟨?_,rfl⟩;conv=>lhs;whnf)))
 all_goals rfl
theorem Yu(a b:bC):ak Tryz.prog 176 G0 0 [] [.agg (dM a), .agg (dM b)] (fun d os=>d= .bool (wZ a b)∧os=[]):=by
 refine aF Tryz.func176 rfl aB rfl (fun w0 F0 lent β0=> ?_)
 repeat'(first|refine sC ?_|((with_reducible refine aj ?_);first|(refine sS ?_;intro Q' hn he hr)|refine sA ?_)|(refine sH ?_;clear hn he hr Q')|((conv=>whnf);first|refine sK ?_|(refine sB ?_;repeat'(refine aA ?_ ?_<;>intro hb<;>try exact cls))|(refine au [] rfl rfl rfl ⟨?_,rfl⟩;conv=>lhs;whnf)))
 all_goals simp_all[wZ,bG,eqStr,gW]
theorem abh(a:List (bC))(left:Int)(h0:0≤left)(h1:left≤1048576):ak Tryz.prog 50 G0 0 [] [.sl 2 (a.map dM), .int .i64 left] (fun d os=>d= .int .i64 (if dG bC.sz a≤left then left-dG bC.sz a else-1)∧os=[]):=by
 have hz0:=wz bC.sz a
 have hmono: ∀k,k≤a.length→fJ bC.sz a k≤dG bC.sz a:=fun k h=>wu _ h
 have hm0:=hmono 0 (Nat.zero_le _)
 refine aF Tryz.func50 rfl aB rfl (fun w0 F0 lent β0=> ?_)
 repeat'(first|refine sC ?_|((with_reducible refine aj ?_);first|(refine sS ?_;intro Q' hn he hr)|refine sA ?_)|(refine sH ?_;clear hn he hr Q')|((conv=>whnf);first|refine sK ?_|(refine sB ?_;repeat'(refine aA ?_ ?_<;>intro hb<;>try exact cls))|refine sP ?_|(refine sL ?_;intro hlen)|(refine au [] rfl rfl rfl ⟨?_,rfl⟩;conv=>lhs;whnf)))
 ·(first|rfl|(refine congrArg (D.int _) ?_;first|rfl|omega|(split<;>omega)))
 ·refine aQ (fun k:Nat=>[(0,.sl 2 (a.map dM)),(1,.int .i64 (left-fJ bC.sz a k)),(5,.int .i64 k)]) (fun _=>[]) (fun k=>k≤a.length∧(fJ bC.sz a k:Int)≤left) (fun k=>a.length-k) 0 ⟨by omega,by omega⟩ aI (fun k hk Q' hn he hr=> ?_)
  repeat'(first|refine sC ?_|((with_reducible refine aj ?_);first|(refine sS ?_;intro Q' hn he hr)|refine sA ?_)|(refine sH ?_;clear hn he hr Q')|((conv=>whnf);first|refine sK ?_|(refine sB ?_;repeat'(refine aA ?_ ?_<;>intro hb<;>try exact cls))|((with_reducible refine aH ?_);(refine aG (abg x _ ah ah) rfl rfl ?_))|refine sP ?_|(refine sE ?_;intro x hx)|(refine sL ?_;intro hlen)|(refine au [] rfl rfl rfl ⟨?_,rfl⟩;conv=>lhs;whnf)|(refine sH ?_;clear hn he hr Q')))
  ·have h2:=hmono (k+1) ah
   rw[lK ‹a[k]? =some _›] at h2
   split at hb<;>(first|rfl|(refine congrArg (D.int _) ?_;first|rfl|omega|(split<;>omega)))
  ·have h2:=lK (f:=bC.sz) ‹a[k]? =some _›
   split at hb
   ·rename_i h3
    refine⟨k+1,⟨by omega,by omega⟩,by omega,?_⟩
    rw[if_pos h3]
    exact aI
   ·omega
  ·have h2:k=a.length:=by omega
   subst h2
   have h3:=wo bC.sz a
   (first|rfl|(refine congrArg (D.int _) ?_;first|rfl|omega|(split<;>omega)))
def Xm:List D:=[.str [], .int .i64 0]
theorem abJ(a:List (bC))(hs:a.length≤1048576):ak Tryz.prog 69 G0 0 [] [.sl 2 (a.map dM)] (fun d os=>d= .h 0∧os=[.row 223 2 (a.map dM)]):=by
 refine aF Tryz.func69 rfl aB rfl (fun w0 F0 lent β0=> ?_)
 repeat'(first|refine sC ?_|((with_reducible refine aj ?_);first|(refine sS ?_;intro Q' hn he hr)|refine sA ?_)|(refine sH ?_;clear hn he hr Q')|((conv=>whnf);first|refine sK ?_|refine sP ?_|(refine sL ?_;intro hlen)))
 refine aQ (fun k:Nat=>[(0,.sl 2 (a.map dM)),(3,.h 0),(4,.int .i64 k)]) (fun k=>[.row 223 2 (fill dM Xm a k)]) (fun k=>k≤a.length) (fun k=>a.length-k) 0 ah rQ (fun k hk Q' hn he hr=> ?_)
 repeat'(first|refine sC ?_|((with_reducible refine aj ?_);first|(refine sS ?_;intro Q' hn he hr)|refine sA ?_)|(refine sH ?_;clear hn he hr Q')|((conv=>whnf);first|refine sK ?_|(refine sB ?_;repeat'(refine aA ?_ ?_<;>intro hb<;>try exact cls))|((with_reducible refine aH ?_);(refine aG (abI x) rfl rfl ?_))|((with_reducible refine bP ?_);(refine au [0] rfl rfl rfl ⟨rfl,?_⟩))|refine sP ?_|(refine sE ?_;intro x hx)|(refine sL ?_;intro hlen)|(refine sH ?_;clear hn he hr Q')))
 ·refine⟨k+1,by omega,by omega,?_⟩
  refine aC rfl rfl ?_ ⟨rfl,rfl,rfl,trivial⟩
  rw[←oI _ _ _ hx]
  rfl
 ·have h2:k=a.length:=by omega
  subst h2
  rw[←oH dM Xm a]
  rfl
theorem Yv(a b:List (bC)):ak Tryz.prog 94 G0 0 [] [.sl 2 (a.map dM), .sl 2 (b.map dM)] (fun d os=>d= .bool (gX wZ a b)∧os=[]):=by
 refine aF Tryz.func94 rfl aB rfl (fun w0 F0 lent β0=> ?_)
 repeat'(first|refine sC ?_|((with_reducible refine aj ?_);first|(refine sS ?_;intro Q' hn he hr)|refine sA ?_)|(refine sH ?_;clear hn he hr Q')|((conv=>whnf);first|refine sK ?_|(refine sB ?_;repeat'(refine aA ?_ ?_<;>intro hb<;>try exact cls))|(refine sL ?_;intro hlen)|(refine au [] rfl rfl rfl ⟨?_,rfl⟩;conv=>lhs;whnf)))
 ·rw[pX hb]
 ·refine aQ (fun k:Nat=>[(0,.sl 2 (a.map dM)),(1,.sl 2 (b.map dM)),(5,.int .i64 k)]) (fun _=>[]) (fun k=>k≤a.length∧mM wZ a b k) (fun k=>a.length-k) 0 ⟨by omega,qc⟩ aI (fun k hk Q' hn he hr=> ?_)
  repeat'(first|refine sC ?_|((with_reducible refine aj ?_);first|(refine sS ?_;intro Q' hn he hr)|refine sA ?_)|(refine sH ?_;clear hn he hr Q')|refine sO ?_|((conv=>whnf);first|refine sK ?_|(refine sB ?_;repeat'(refine aA ?_ ?_<;>intro hb<;>try exact cls))|((with_reducible refine aZ ?_);(refine ku (.bool (wZ _ _)) (Yu _ _) rfl lg ?_))|refine sP ?_|(refine sE ?_;intro x hx)|(refine sL ?_;intro hlen)|refine sD ?_|(refine au [] rfl rfl rfl ⟨?_,rfl⟩;conv=>lhs;whnf)|(refine sH ?_;clear hn he hr Q')))
  ·rw[pW ‹a[k]? =some _› ‹b[k]? =some _› hb]
  ·exact⟨k+1,⟨by omega,pY hk.2 ‹a[k]? =some _› ‹b[k]? =some _› hb⟩,by omega,aI⟩
  ·rw[oC ah (fun j x y h=>hk.2 j x y ah)]
theorem abj(x:bg)(left:Int)(h0:0≤left)(h1:left≤1048576):ak Tryz.prog 113 G0 0 [] [.agg (dI x), .int .i64 left] (fun d os=>d= .int .i64 (if x.sz≤left then left-x.sz else-1)∧os=[]):=by
 refine aF Tryz.func113 rfl aB rfl (fun w0 F0 lent β0=> ?_)
 repeat'(first|refine sC ?_|((with_reducible refine aj ?_);first|(refine sS ?_;intro Q' hn he hr)|refine sA ?_)|(refine sH ?_;clear hn he hr Q')|((conv=>whnf);first|refine sK ?_|(refine sB ?_;repeat'(refine aA ?_ ?_<;>intro hb<;>try exact cls))|refine sP ?_|(refine sL ?_;intro hlen)|(refine au [] rfl rfl rfl ⟨?_,rfl⟩;conv=>lhs;whnf)))
 all_goals simp only[bg.sz]
 all_goals(first|rfl|(refine congrArg (D.int _) ?_;first|rfl|omega|(split<;>omega)))
theorem abK(x:bg):ak Tryz.prog 141 G0 0 [] [.agg (dI x)] (fun d os=>d= .agg (dI x)∧os=[]):=by
 refine aF Tryz.func141 rfl aB rfl (fun w0 F0 lent β0=> ?_)
 repeat'(first|refine sC ?_|((with_reducible refine aj ?_);first|(refine sS ?_;intro Q' hn he hr)|refine sA ?_)|(refine sH ?_;clear hn he hr Q')|((conv=>whnf);first|refine sK ?_|(refine au [] rfl rfl rfl ⟨?_,rfl⟩;conv=>lhs;whnf)))
 all_goals rfl
theorem Yw(a b:bg):ak Tryz.prog 177 G0 0 [] [.agg (dI a), .agg (dI b)] (fun d os=>d= .bool (xg a b)∧os=[]):=by
 refine aF Tryz.func177 rfl aB rfl (fun w0 F0 lent β0=> ?_)
 repeat'(first|refine sC ?_|((with_reducible refine aj ?_);first|(refine sS ?_;intro Q' hn he hr)|refine sA ?_)|(refine sH ?_;clear hn he hr Q')|((conv=>whnf);first|refine sK ?_|(refine sB ?_;repeat'(refine aA ?_ ?_<;>intro hb<;>try exact cls))|(refine au [] rfl rfl rfl ⟨?_,rfl⟩;conv=>lhs;whnf)))
 all_goals simp_all[xg,bG,eqStr,gW]
theorem abk(a:List (bg))(left:Int)(h0:0≤left)(h1:left≤1048576):ak Tryz.prog 51 G0 0 [] [.sl 2 (a.map dI), .int .i64 left] (fun d os=>d= .int .i64 (if dG bg.sz a≤left then left-dG bg.sz a else-1)∧os=[]):=by
 have hz0:=wz bg.sz a
 have hmono: ∀k,k≤a.length→fJ bg.sz a k≤dG bg.sz a:=fun k h=>wu _ h
 have hm0:=hmono 0 (Nat.zero_le _)
 refine aF Tryz.func51 rfl aB rfl (fun w0 F0 lent β0=> ?_)
 repeat'(first|refine sC ?_|((with_reducible refine aj ?_);first|(refine sS ?_;intro Q' hn he hr)|refine sA ?_)|(refine sH ?_;clear hn he hr Q')|((conv=>whnf);first|refine sK ?_|(refine sB ?_;repeat'(refine aA ?_ ?_<;>intro hb<;>try exact cls))|refine sP ?_|(refine sL ?_;intro hlen)|(refine au [] rfl rfl rfl ⟨?_,rfl⟩;conv=>lhs;whnf)))
 ·(first|rfl|(refine congrArg (D.int _) ?_;first|rfl|omega|(split<;>omega)))
 ·refine aQ (fun k:Nat=>[(0,.sl 2 (a.map dI)),(1,.int .i64 (left-fJ bg.sz a k)),(5,.int .i64 k)]) (fun _=>[]) (fun k=>k≤a.length∧(fJ bg.sz a k:Int)≤left) (fun k=>a.length-k) 0 ⟨by omega,by omega⟩ aI (fun k hk Q' hn he hr=> ?_)
  repeat'(first|refine sC ?_|((with_reducible refine aj ?_);first|(refine sS ?_;intro Q' hn he hr)|refine sA ?_)|(refine sH ?_;clear hn he hr Q')|((conv=>whnf);first|refine sK ?_|(refine sB ?_;repeat'(refine aA ?_ ?_<;>intro hb<;>try exact cls))|((with_reducible refine aH ?_);(refine aG (abj x _ ah ah) rfl rfl ?_))|refine sP ?_|(refine sE ?_;intro x hx)|(refine sL ?_;intro hlen)|(refine au [] rfl rfl rfl ⟨?_,rfl⟩;conv=>lhs;whnf)|(refine sH ?_;clear hn he hr Q')))
  ·have h2:=hmono (k+1) ah
   rw[lK ‹a[k]? =some _›] at h2
   split at hb<;>(first|rfl|(refine congrArg (D.int _) ?_;first|rfl|omega|(split<;>omega)))
  ·have h2:=lK (f:=bg.sz) ‹a[k]? =some _›
   split at hb
   ·rename_i h3
    refine⟨k+1,⟨by omega,by omega⟩,by omega,?_⟩
    rw[if_pos h3]
    exact aI
   ·omega
  ·have h2:k=a.length:=by omega
   subst h2
   have h3:=wo bg.sz a
   (first|rfl|(refine congrArg (D.int _) ?_;first|rfl|omega|(split<;>omega)))
def Xn:List D:=[.str [], .int .i64 0]
theorem abL(a:List (bg))(hs:a.length≤1048576):ak Tryz.prog 70 G0 0 [] [.sl 2 (a.map dI)] (fun d os=>d= .h 0∧os=[.row 225 2 (a.map dI)]):=by
 refine aF Tryz.func70 rfl aB rfl (fun w0 F0 lent β0=> ?_)
 repeat'(first|refine sC ?_|((with_reducible refine aj ?_);first|(refine sS ?_;intro Q' hn he hr)|refine sA ?_)|(refine sH ?_;clear hn he hr Q')|((conv=>whnf);first|refine sK ?_|refine sP ?_|(refine sL ?_;intro hlen)))
 refine aQ (fun k:Nat=>[(0,.sl 2 (a.map dI)),(3,.h 0),(4,.int .i64 k)]) (fun k=>[.row 225 2 (fill dI Xn a k)]) (fun k=>k≤a.length) (fun k=>a.length-k) 0 ah rQ (fun k hk Q' hn he hr=> ?_)
 repeat'(first|refine sC ?_|((with_reducible refine aj ?_);first|(refine sS ?_;intro Q' hn he hr)|refine sA ?_)|(refine sH ?_;clear hn he hr Q')|((conv=>whnf);first|refine sK ?_|(refine sB ?_;repeat'(refine aA ?_ ?_<;>intro hb<;>try exact cls))|((with_reducible refine aH ?_);(refine aG (abK x) rfl rfl ?_))|((with_reducible refine bP ?_);(refine au [0] rfl rfl rfl ⟨rfl,?_⟩))|refine sP ?_|(refine sE ?_;intro x hx)|(refine sL ?_;intro hlen)|(refine sH ?_;clear hn he hr Q')))
 ·refine⟨k+1,by omega,by omega,?_⟩
  refine aC rfl rfl ?_ ⟨rfl,rfl,rfl,trivial⟩
  rw[←oI _ _ _ hx]
  rfl
 ·have h2:k=a.length:=by omega
  subst h2
  rw[←oH dI Xn a]
  rfl
theorem Yx(a b:List (bg)):ak Tryz.prog 95 G0 0 [] [.sl 2 (a.map dI), .sl 2 (b.map dI)] (fun d os=>d= .bool (gX xg a b)∧os=[]):=by
 refine aF Tryz.func95 rfl aB rfl (fun w0 F0 lent β0=> ?_)
 repeat'(first|refine sC ?_|((with_reducible refine aj ?_);first|(refine sS ?_;intro Q' hn he hr)|refine sA ?_)|(refine sH ?_;clear hn he hr Q')|((conv=>whnf);first|refine sK ?_|(refine sB ?_;repeat'(refine aA ?_ ?_<;>intro hb<;>try exact cls))|(refine sL ?_;intro hlen)|(refine au [] rfl rfl rfl ⟨?_,rfl⟩;conv=>lhs;whnf)))
 ·rw[pX hb]
 ·refine aQ (fun k:Nat=>[(0,.sl 2 (a.map dI)),(1,.sl 2 (b.map dI)),(5,.int .i64 k)]) (fun _=>[]) (fun k=>k≤a.length∧mM xg a b k) (fun k=>a.length-k) 0 ⟨by omega,qc⟩ aI (fun k hk Q' hn he hr=> ?_)
  repeat'(first|refine sC ?_|((with_reducible refine aj ?_);first|(refine sS ?_;intro Q' hn he hr)|refine sA ?_)|(refine sH ?_;clear hn he hr Q')|refine sO ?_|((conv=>whnf);first|refine sK ?_|(refine sB ?_;repeat'(refine aA ?_ ?_<;>intro hb<;>try exact cls))|((with_reducible refine aZ ?_);(refine ku (.bool (xg _ _)) (Yw _ _) rfl lg ?_))|refine sP ?_|(refine sE ?_;intro x hx)|(refine sL ?_;intro hlen)|refine sD ?_|(refine au [] rfl rfl rfl ⟨?_,rfl⟩;conv=>lhs;whnf)|(refine sH ?_;clear hn he hr Q')))
  ·rw[pW ‹a[k]? =some _› ‹b[k]? =some _› hb]
  ·exact⟨k+1,⟨by omega,pY hk.2 ‹a[k]? =some _› ‹b[k]? =some _› hb⟩,by omega,aI⟩
  ·rw[oC ah (fun j x y h=>hk.2 j x y ah)]
end Go.Eng
namespace Go.Eng
open Go Go.RowKit Go.Proofs
set_option maxRecDepth 100000
theorem abb(x:bM)(left:Int)(h0:0≤left)(h1:left≤1048576):ak Tryz.prog 13 G0 0 [] [.agg (jQ x), .int .i64 left] (fun d os=>(∃n:Int,d= .int .i64 n∧((x.sz:Int)≤left∧n=left-x.sz∨left<x.sz∧n= -1))∧os=[]):=by
 refine aF Tryz.func13 rfl aB rfl (fun w0 F0 lent β0=> ?_)
 repeat'(first|refine sC ?_|((with_reducible refine aj ?_);first|(refine sS ?_;intro Q' hn he hr)|refine sA ?_)|(refine sH ?_;clear hn he hr Q')|((conv=>whnf);first|refine sK ?_|(refine sB ?_;repeat'(refine aA ?_ ?_<;>intro hb<;>try exact cls))|((with_reducible refine aH ?_);first|(refine lS (o9 (aa6 x.fP _ ah ah)) rfl ?_;rintro d9 ⟨n9,rfl,hs9⟩;refine⟨rfl,?_⟩)|(refine lS (o9 (abq x.dU _ ah ah)) rfl ?_;rintro d9 ⟨n9,rfl,hs9⟩;refine⟨rfl,?_⟩)|(refine lS (o9 (abr x.dW _ ah ah)) rfl ?_;rintro d9 ⟨n9,rfl,hs9⟩;refine⟨rfl,?_⟩)|(refine lS (o9 (abd x.dZ _ ah ah)) rfl ?_;rintro d9 ⟨n9,rfl,hs9⟩;refine⟨rfl,?_⟩)|(refine lS (o9 (aa8 x.eF _ ah ah)) rfl ?_;rintro d9 ⟨n9,rfl,hs9⟩;refine⟨rfl,?_⟩)|(refine lS (o9 (aa5 x.aX _ ah ah)) rfl ?_;rintro d9 ⟨n9,rfl,hs9⟩;refine⟨rfl,?_⟩)|(refine lS (o9 (abf x.bD _ ah ah)) rfl ?_;rintro d9 ⟨n9,rfl,hs9⟩;refine⟨rfl,?_⟩)|(refine lS (o9 (abh x.dJ _ ah ah)) rfl ?_;rintro d9 ⟨n9,rfl,hs9⟩;refine⟨rfl,?_⟩)|(refine lS (o9 (abk x.dh _ ah ah)) rfl ?_;rintro d9 ⟨n9,rfl,hs9⟩;refine⟨rfl,?_⟩))|((with_reducible refine bP ?_);(refine au [] rfl rfl rfl ⟨⟨_,rfl,?_⟩,rfl⟩))))
 all_goals first|exact .inr ⟨by simp only[bM.sz];omega,rfl⟩|exact .inl ⟨by simp only[bM.sz];omega,by simp only[bM.sz];omega⟩
end Go.Eng
namespace Go.Eng
open Go Go.RowKit Go.Proofs
set_option maxRecDepth 100000
def adG(x:bM):List D:=[.str x.fP.fName, .int .i64 x.fP.bY, .int .i64 x.fP.uH, .h 0, .int .i64 x.dw, .h 1, .h 2, .int .i64 x.oG, .h 3, .h 4, .h 5, .int .i64 x.iL, .h 6, .h 7, .int .i64 x.fK]
def af9(x:bM):List Obj:=[.row 211 5 (x.dU.map dR), .row 214 5 (x.dW.map dS), .row 2 1 (x.dZ.map encI), .row 217 4 (x.eF.map dP), .row 219 6 (x.aX.map cO), .row 221 3 (x.bD.map dH), .row 223 2 (x.dJ.map dM), .row 225 2 (x.dh.map dI)]
theorem TL(x:bM):x.dU.length≤x.sz∧x.dW.length≤x.sz∧x.dZ.length≤x.sz∧x.eF.length≤x.sz∧x.aX.length≤x.sz∧x.bD.length≤x.sz∧x.dJ.length≤x.sz∧x.dh.length≤x.sz:=by
 simp only[bM.sz]
 have h0:=rO bW.sz x.dU
 have h1:=rO nT x.dW
 have h2:=rO nT x.dZ
 have h3:=rO cu.sz x.eF
 have h4:=rO aV.sz x.aX
 have h5:=rO aY.sz x.bD
 have h6:=rO bC.sz x.dJ
 have h7:=rO bg.sz x.dh
 omega
theorem abD(x:bM)(hx:x.sz≤1048576):ak Tryz.prog 22 G0 0 [] [.agg (jQ x)] (fun d os=>d= .agg (adG x)∧os=af9 x):=by
 have hlen:=TL x
 refine aF Tryz.func22 rfl aB rfl (fun w0 F0 lent β0=> ?_)
 repeat'(first|refine sC ?_|((with_reducible refine aj ?_);first|(refine sS ?_;intro Q' hn he hr)|refine sA ?_)|(refine sH ?_;clear hn he hr Q')|((conv=>whnf);first|refine sK ?_|((with_reducible refine aH ?_);first|(refine aG (aby x.fP) rfl rfl ?_)|(refine jP (abR x.dU ah) rfl dQ ?_)|(refine jP (abT x.dW ah) rfl dQ ?_)|(refine jP (abE x.dZ ah) rfl dQ ?_)|(refine jP (abA x.eF ah) rfl dQ ?_)|(refine jP (abx x.aX ah) rfl dQ ?_)|(refine jP (abH x.bD ah) rfl dQ ?_)|(refine jP (abJ x.dJ ah) rfl dQ ?_)|(refine jP (abL x.dh ah) rfl dQ ?_))|((with_reducible refine bP ?_);(first|refine au [3,4,5,6,7,8,9,10] rfl rfl rfl ⟨rfl,?_⟩|refine au [2,3,4,5,6,7,8,9] rfl rfl rfl ⟨rfl,?_⟩|refine au [1,2,3,4,5,6,7,8] rfl rfl rfl ⟨rfl,?_⟩|refine au [0,1,2,3,4,5,6,7] rfl rfl rfl ⟨rfl,?_⟩|refine au [4,5,6,7,8,9,10,11] rfl rfl rfl ⟨rfl,?_⟩))))
 all_goals rfl
end Go.Eng
namespace Go.Eng
open Go Go.RowKit Go.Proofs
set_option maxRecDepth 100000
theorem Yp(a b:bM):ak Tryz.prog 31 G0 0 [] [.agg (jQ a), .agg (jQ b)] (fun d os=>d= .bool (Aj a b)∧os=[]):=by
 refine aF Tryz.func31 rfl aB rfl (fun w0 F0 lent β0=> ?_)
 repeat'(first|refine sC ?_|((with_reducible refine aj ?_);first|(refine sS ?_;intro Q' hn he hr)|refine sA ?_)|(refine sH ?_;clear hn he hr Q')|((conv=>whnf);first|refine sK ?_|(refine sB ?_;repeat'(refine aA ?_ ?_<;>intro hb<;>try exact cls))|((with_reducible refine aH ?_);first|(refine aG (Yk a.fP b.fP) rfl rfl ?_)|(refine aG (YD a.dU b.dU) rfl rfl ?_)|(refine aG (YF a.dW b.dW) rfl rfl ?_)|(refine aG (Yq a.dZ b.dZ) rfl rfl ?_)|(refine aG (Ym a.eF b.eF) rfl rfl ?_)|(refine aG (Yj a.aX b.aX) rfl rfl ?_)|(refine aG (Yt a.bD b.bD) rfl rfl ?_)|(refine aG (Yv a.dJ b.dJ) rfl rfl ?_)|(refine aG (Yx a.dh b.dh) rfl rfl ?_))|(refine au [] rfl rfl rfl ⟨?_,rfl⟩;conv=>lhs;whnf)))
 all_goals(first|(simp_all[Aj,bG,eqStr,gW];done)|(simp_all[Aj,bG,eqStr,gW];rfl))
end Go.Eng
