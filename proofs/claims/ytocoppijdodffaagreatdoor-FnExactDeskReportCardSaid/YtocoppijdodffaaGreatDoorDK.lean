/-
  What the scaffolding functions of a law do with the parts of desks.
  No conditions.
-/
import Derived.Test.YtocoppijdodffaaGreatDoorHX
set_option linter.unusedVariables false
set_option linter.unusedSimpArgs false
set_option maxHeartbeats 4000000
namespace Go.Eng
open Go Go.RowKit Go.Proofs
set_option maxRecDepth 100000
theorem abt(x:mF)(left:Int)(h0:0≤left)(h1:left≤1048576):ak Tryz.prog 17 G0 0 [] [.agg (wU x), .int .i64 left] (fun d os=>d= .int .i64 (if x.sz≤left then left-x.sz else-1)∧os=[]):=by
 refine aF Tryz.func17 rfl aB rfl (fun w0 F0 lent β0=> ?_)
 repeat'(first|refine sC ?_|((with_reducible refine aj ?_);first|(refine sS ?_;intro Q' hn he hr)|refine sA ?_)|(refine sH ?_;clear hn he hr Q')|((conv=>whnf);first|refine sK ?_|(refine sB ?_;repeat'(refine aA ?_ ?_<;>intro hb<;>try exact cls))|refine sP ?_|(refine sL ?_;intro hlen)|(refine au [] rfl rfl rfl ⟨?_,rfl⟩;conv=>lhs;whnf)))
 all_goals simp only[mF.sz]
 all_goals(first|rfl|(refine congrArg (D.int _) ?_;first|rfl|omega|(split<;>omega)))
theorem abU(x:mF):ak Tryz.prog 26 G0 0 [] [.agg (wU x)] (fun d os=>d= .agg (wU x)∧os=[]):=by
 refine aF Tryz.func26 rfl aB rfl (fun w0 F0 lent β0=> ?_)
 repeat'(first|refine sC ?_|((with_reducible refine aj ?_);first|(refine sS ?_;intro Q' hn he hr)|refine sA ?_)|(refine sH ?_;clear hn he hr Q')|((conv=>whnf);first|refine sK ?_|(refine au [] rfl rfl rfl ⟨?_,rfl⟩;conv=>lhs;whnf)))
 all_goals rfl
theorem YG(a b:mF):ak Tryz.prog 35 G0 0 [] [.agg (wU a), .agg (wU b)] (fun d os=>d= .bool (Du a b)∧os=[]):=by
 refine aF Tryz.func35 rfl aB rfl (fun w0 F0 lent β0=> ?_)
 repeat'(first|refine sC ?_|((with_reducible refine aj ?_);first|(refine sS ?_;intro Q' hn he hr)|refine sA ?_)|(refine sH ?_;clear hn he hr Q')|((conv=>whnf);first|refine sK ?_|(refine sB ?_;repeat'(refine aA ?_ ?_<;>intro hb<;>try exact cls))|(refine au [] rfl rfl rfl ⟨?_,rfl⟩;conv=>lhs;whnf)))
 all_goals simp_all[Du,bG,eqStr,gW]
theorem abB(x:jh):ak Tryz.prog 71 G0 0 [] [.agg (iK x)] (fun d os=>d= .agg (iK x)∧os=[]):=by
 refine aF Tryz.func71 rfl aB rfl (fun w0 F0 lent β0=> ?_)
 repeat'(first|refine sC ?_|((with_reducible refine aj ?_);first|(refine sS ?_;intro Q' hn he hr)|refine sA ?_)|(refine sH ?_;clear hn he hr Q')|((conv=>whnf);first|refine sK ?_|(refine au [] rfl rfl rfl ⟨?_,rfl⟩;conv=>lhs;whnf)))
 all_goals rfl
theorem Yn(a b:jh):ak Tryz.prog 96 G0 0 [] [.agg (iK a), .agg (iK b)] (fun d os=>d= .bool (wX a b)∧os=[]):=by
 refine aF Tryz.func96 rfl aB rfl (fun w0 F0 lent β0=> ?_)
 repeat'(first|refine sC ?_|((with_reducible refine aj ?_);first|(refine sS ?_;intro Q' hn he hr)|refine sA ?_)|(refine sH ?_;clear hn he hr Q')|((conv=>whnf);first|refine sK ?_|(refine sB ?_;repeat'(refine aA ?_ ?_<;>intro hb<;>try exact cls))|(refine au [] rfl rfl rfl ⟨?_,rfl⟩;conv=>lhs;whnf)))
 all_goals simp_all[wX,bG,eqStr,gW]
theorem aa9(a:List (jh))(left:Int)(h0:0≤left)(h1:left≤1048576):ak Tryz.prog 14 G0 0 [] [.sl 2 (a.map iK), .int .i64 left] (fun d os=>d= .int .i64 (if dG nT a≤left then left-dG nT a else-1)∧os=[]):=by
 rw[NH]
 refine aF Tryz.func14 rfl aB rfl (fun w0 F0 lent β0=> ?_)
 repeat'(first|refine sC ?_|((with_reducible refine aj ?_);first|(refine sS ?_;intro Q' hn he hr)|refine sA ?_)|(refine sH ?_;clear hn he hr Q')|((conv=>whnf);first|refine sK ?_|(refine sB ?_;repeat'(refine aA ?_ ?_<;>intro hb<;>try exact cls))|refine sP ?_|(refine sL ?_;intro hlen)|(refine au [] rfl rfl rfl ⟨?_,rfl⟩;conv=>lhs;whnf)))
 all_goals(first|rfl|(refine congrArg (D.int _) ?_;first|rfl|omega|(split<;>omega)))
def Xj:List D:=[.int .i64 0, .int .i64 0]
theorem abC(a:List (jh))(hs:a.length≤1048576):ak Tryz.prog 23 G0 0 [] [.sl 2 (a.map iK)] (fun d os=>d= .h 0∧os=[.row 139 2 (a.map iK)]):=by
 refine aF Tryz.func23 rfl aB rfl (fun w0 F0 lent β0=> ?_)
 repeat'(first|refine sC ?_|((with_reducible refine aj ?_);first|(refine sS ?_;intro Q' hn he hr)|refine sA ?_)|(refine sH ?_;clear hn he hr Q')|((conv=>whnf);first|refine sK ?_|refine sP ?_|(refine sL ?_;intro hlen)))
 refine aQ (fun k:Nat=>[(0,.sl 2 (a.map iK)),(3,.h 0),(4,.int .i64 k)]) (fun k=>[.row 139 2 (fill iK Xj a k)]) (fun k=>k≤a.length) (fun k=>a.length-k) 0 ah rQ (fun k hk Q' hn he hr=> ?_)
 repeat'(first|refine sC ?_|((with_reducible refine aj ?_);first|(refine sS ?_;intro Q' hn he hr)|refine sA ?_)|(refine sH ?_;clear hn he hr Q')|((conv=>whnf);first|refine sK ?_|(refine sB ?_;repeat'(refine aA ?_ ?_<;>intro hb<;>try exact cls))|((with_reducible refine aH ?_);(refine aG (abB x) rfl rfl ?_))|((with_reducible refine bP ?_);(refine au [0] rfl rfl rfl ⟨rfl,?_⟩))|refine sP ?_|(refine sE ?_;intro x hx)|(refine sL ?_;intro hlen)|(refine sH ?_;clear hn he hr Q')))
 ·refine⟨k+1,by omega,by omega,?_⟩
  refine aC rfl rfl ?_ ⟨rfl,rfl,rfl,trivial⟩
  rw[←oI _ _ _ hx]
  rfl
 ·have h2:k=a.length:=by omega
  subst h2
  rw[←oH iK Xj a]
  rfl
theorem Yo(a b:List (jh)):ak Tryz.prog 32 G0 0 [] [.sl 2 (a.map iK), .sl 2 (b.map iK)] (fun d os=>d= .bool (gX wX a b)∧os=[]):=by
 refine aF Tryz.func32 rfl aB rfl (fun w0 F0 lent β0=> ?_)
 repeat'(first|refine sC ?_|((with_reducible refine aj ?_);first|(refine sS ?_;intro Q' hn he hr)|refine sA ?_)|(refine sH ?_;clear hn he hr Q')|((conv=>whnf);first|refine sK ?_|(refine sB ?_;repeat'(refine aA ?_ ?_<;>intro hb<;>try exact cls))|(refine sL ?_;intro hlen)|(refine au [] rfl rfl rfl ⟨?_,rfl⟩;conv=>lhs;whnf)))
 ·rw[pX hb]
 ·refine aQ (fun k:Nat=>[(0,.sl 2 (a.map iK)),(1,.sl 2 (b.map iK)),(5,.int .i64 k)]) (fun _=>[]) (fun k=>k≤a.length∧mM wX a b k) (fun k=>a.length-k) 0 ⟨by omega,qc⟩ aI (fun k hk Q' hn he hr=> ?_)
  repeat'(first|refine sC ?_|((with_reducible refine aj ?_);first|(refine sS ?_;intro Q' hn he hr)|refine sA ?_)|(refine sH ?_;clear hn he hr Q')|refine sO ?_|((conv=>whnf);first|refine sK ?_|(refine sB ?_;repeat'(refine aA ?_ ?_<;>intro hb<;>try exact cls))|((with_reducible refine aZ ?_);(refine ku (.bool (wX _ _)) (Yn _ _) rfl lg ?_))|refine sP ?_|(refine sE ?_;intro x hx)|(refine sL ?_;intro hlen)|refine sD ?_|(refine au [] rfl rfl rfl ⟨?_,rfl⟩;conv=>lhs;whnf)|(refine sH ?_;clear hn he hr Q')))
  ·rw[pW ‹a[k]? =some _› ‹b[k]? =some _› hb]
  ·exact⟨k+1,⟨by omega,pY hk.2 ‹a[k]? =some _› ‹b[k]? =some _› hb⟩,by omega,aI⟩
  ·rw[oC ah (fun j x y h=>hk.2 j x y ah)]
theorem abn(x:eP)(left:Int)(h0:0≤left)(h1:left≤1048576):ak Tryz.prog 52 G0 0 [] [.agg (iq x), .int .i64 left] (fun d os=>d= .int .i64 (if x.sz≤left then left-x.sz else-1)∧os=[]):=by
 refine aF Tryz.func52 rfl aB rfl (fun w0 F0 lent β0=> ?_)
 repeat'(first|refine sC ?_|((with_reducible refine aj ?_);first|(refine sS ?_;intro Q' hn he hr)|refine sA ?_)|(refine sH ?_;clear hn he hr Q')|((conv=>whnf);first|refine sK ?_|(refine sB ?_;repeat'(refine aA ?_ ?_<;>intro hb<;>try exact cls))|refine sP ?_|(refine sL ?_;intro hlen)|(refine au [] rfl rfl rfl ⟨?_,rfl⟩;conv=>lhs;whnf)))
 all_goals simp only[eP.sz]
 all_goals(first|rfl|(refine congrArg (D.int _) ?_;first|rfl|omega|(split<;>omega)))
theorem abO(x:eP):ak Tryz.prog 72 G0 0 [] [.agg (iq x)] (fun d os=>d= .agg (iq x)∧os=[]):=by
 refine aF Tryz.func72 rfl aB rfl (fun w0 F0 lent β0=> ?_)
 repeat'(first|refine sC ?_|((with_reducible refine aj ?_);first|(refine sS ?_;intro Q' hn he hr)|refine sA ?_)|(refine sH ?_;clear hn he hr Q')|((conv=>whnf);first|refine sK ?_|(refine au [] rfl rfl rfl ⟨?_,rfl⟩;conv=>lhs;whnf)))
 all_goals rfl
theorem YA(a b:eP):ak Tryz.prog 97 G0 0 [] [.agg (iq a), .agg (iq b)] (fun d os=>d= .bool (xq a b)∧os=[]):=by
 refine aF Tryz.func97 rfl aB rfl (fun w0 F0 lent β0=> ?_)
 repeat'(first|refine sC ?_|((with_reducible refine aj ?_);first|(refine sS ?_;intro Q' hn he hr)|refine sA ?_)|(refine sH ?_;clear hn he hr Q')|((conv=>whnf);first|refine sK ?_|(refine sB ?_;repeat'(refine aA ?_ ?_<;>intro hb<;>try exact cls))|(refine au [] rfl rfl rfl ⟨?_,rfl⟩;conv=>lhs;whnf)))
 all_goals simp_all[xq,bG,eqStr,gW]
theorem abo(a:List (eP))(left:Int)(h0:0≤left)(h1:left≤1048576):ak Tryz.prog 15 G0 0 [] [.sl 5 (a.map iq), .int .i64 left] (fun d os=>d= .int .i64 (if dG eP.sz a≤left then left-dG eP.sz a else-1)∧os=[]):=by
 have hz0:=wz eP.sz a
 have hmono: ∀k,k≤a.length→fJ eP.sz a k≤dG eP.sz a:=fun k h=>wu _ h
 have hm0:=hmono 0 (Nat.zero_le _)
 refine aF Tryz.func15 rfl aB rfl (fun w0 F0 lent β0=> ?_)
 repeat'(first|refine sC ?_|((with_reducible refine aj ?_);first|(refine sS ?_;intro Q' hn he hr)|refine sA ?_)|(refine sH ?_;clear hn he hr Q')|((conv=>whnf);first|refine sK ?_|(refine sB ?_;repeat'(refine aA ?_ ?_<;>intro hb<;>try exact cls))|refine sP ?_|(refine sL ?_;intro hlen)|(refine au [] rfl rfl rfl ⟨?_,rfl⟩;conv=>lhs;whnf)))
 ·(first|rfl|(refine congrArg (D.int _) ?_;first|rfl|omega|(split<;>omega)))
 ·refine aQ (fun k:Nat=>[(0,.sl 5 (a.map iq)),(1,.int .i64 (left-fJ eP.sz a k)),(5,.int .i64 k)]) (fun _=>[]) (fun k=>k≤a.length∧(fJ eP.sz a k:Int)≤left) (fun k=>a.length-k) 0 ⟨by omega,by omega⟩ aI (fun k hk Q' hn he hr=> ?_)
  repeat'(first|refine sC ?_|((with_reducible refine aj ?_);first|(refine sS ?_;intro Q' hn he hr)|refine sA ?_)|(refine sH ?_;clear hn he hr Q')|((conv=>whnf);first|refine sK ?_|(refine sB ?_;repeat'(refine aA ?_ ?_<;>intro hb<;>try exact cls))|((with_reducible refine aH ?_);(refine aG (abn x _ ah ah) rfl rfl ?_))|refine sP ?_|(refine sE ?_;intro x hx)|(refine sL ?_;intro hlen)|(refine au [] rfl rfl rfl ⟨?_,rfl⟩;conv=>lhs;whnf)|(refine sH ?_;clear hn he hr Q')))
  ·have h2:=hmono (k+1) ah
   rw[lK ‹a[k]? =some _›] at h2
   split at hb<;>(first|rfl|(refine congrArg (D.int _) ?_;first|rfl|omega|(split<;>omega)))
  ·have h2:=lK (f:=eP.sz) ‹a[k]? =some _›
   split at hb
   ·rename_i h3
    refine⟨k+1,⟨by omega,by omega⟩,by omega,?_⟩
    rw[if_pos h3]
    exact aI
   ·omega
  ·have h2:k=a.length:=by omega
   subst h2
   have h3:=wo eP.sz a
   (first|rfl|(refine congrArg (D.int _) ?_;first|rfl|omega|(split<;>omega)))
def Xp:List D:=[.str [], .str [], .int .i64 0, .int .i64 0, .int .i64 0]
theorem abP(a:List (eP))(hs:a.length≤1048576):ak Tryz.prog 24 G0 0 [] [.sl 5 (a.map iq)] (fun d os=>d= .h 0∧os=[.row 142 5 (a.map iq)]):=by
 refine aF Tryz.func24 rfl aB rfl (fun w0 F0 lent β0=> ?_)
 repeat'(first|refine sC ?_|((with_reducible refine aj ?_);first|(refine sS ?_;intro Q' hn he hr)|refine sA ?_)|(refine sH ?_;clear hn he hr Q')|((conv=>whnf);first|refine sK ?_|refine sP ?_|(refine sL ?_;intro hlen)))
 refine aQ (fun k:Nat=>[(0,.sl 5 (a.map iq)),(3,.h 0),(4,.int .i64 k)]) (fun k=>[.row 142 5 (fill iq Xp a k)]) (fun k=>k≤a.length) (fun k=>a.length-k) 0 ah rQ (fun k hk Q' hn he hr=> ?_)
 repeat'(first|refine sC ?_|((with_reducible refine aj ?_);first|(refine sS ?_;intro Q' hn he hr)|refine sA ?_)|(refine sH ?_;clear hn he hr Q')|((conv=>whnf);first|refine sK ?_|(refine sB ?_;repeat'(refine aA ?_ ?_<;>intro hb<;>try exact cls))|((with_reducible refine aH ?_);(refine aG (abO x) rfl rfl ?_))|((with_reducible refine bP ?_);(refine au [0] rfl rfl rfl ⟨rfl,?_⟩))|refine sP ?_|(refine sE ?_;intro x hx)|(refine sL ?_;intro hlen)|(refine sH ?_;clear hn he hr Q')))
 ·refine⟨k+1,by omega,by omega,?_⟩
  refine aC rfl rfl ?_ ⟨rfl,rfl,rfl,trivial⟩
  rw[←oI _ _ _ hx]
  rfl
 ·have h2:k=a.length:=by omega
  subst h2
  rw[←oH iq Xp a]
  rfl
theorem YB(a b:List (eP)):ak Tryz.prog 33 G0 0 [] [.sl 5 (a.map iq), .sl 5 (b.map iq)] (fun d os=>d= .bool (gX xq a b)∧os=[]):=by
 refine aF Tryz.func33 rfl aB rfl (fun w0 F0 lent β0=> ?_)
 repeat'(first|refine sC ?_|((with_reducible refine aj ?_);first|(refine sS ?_;intro Q' hn he hr)|refine sA ?_)|(refine sH ?_;clear hn he hr Q')|((conv=>whnf);first|refine sK ?_|(refine sB ?_;repeat'(refine aA ?_ ?_<;>intro hb<;>try exact cls))|(refine sL ?_;intro hlen)|(refine au [] rfl rfl rfl ⟨?_,rfl⟩;conv=>lhs;whnf)))
 ·rw[pX hb]
 ·refine aQ (fun k:Nat=>[(0,.sl 5 (a.map iq)),(1,.sl 5 (b.map iq)),(5,.int .i64 k)]) (fun _=>[]) (fun k=>k≤a.length∧mM xq a b k) (fun k=>a.length-k) 0 ⟨by omega,qc⟩ aI (fun k hk Q' hn he hr=> ?_)
  repeat'(first|refine sC ?_|((with_reducible refine aj ?_);first|(refine sS ?_;intro Q' hn he hr)|refine sA ?_)|(refine sH ?_;clear hn he hr Q')|refine sO ?_|((conv=>whnf);first|refine sK ?_|(refine sB ?_;repeat'(refine aA ?_ ?_<;>intro hb<;>try exact cls))|((with_reducible refine aZ ?_);(refine ku (.bool (xq _ _)) (YA _ _) rfl lg ?_))|refine sP ?_|(refine sE ?_;intro x hx)|(refine sL ?_;intro hlen)|refine sD ?_|(refine au [] rfl rfl rfl ⟨?_,rfl⟩;conv=>lhs;whnf)|(refine sH ?_;clear hn he hr Q')))
  ·rw[pW ‹a[k]? =some _› ‹b[k]? =some _› hb]
  ·exact⟨k+1,⟨by omega,pY hk.2 ‹a[k]? =some _› ‹b[k]? =some _› hb⟩,by omega,aI⟩
  ·rw[oC ah (fun j x y h=>hk.2 j x y ah)]
theorem abl(x:eH)(left:Int)(h0:0≤left)(h1:left≤1048576):ak Tryz.prog 53 G0 0 [] [.agg (ig x), .int .i64 left] (fun d os=>d= .int .i64 (if x.sz≤left then left-x.sz else-1)∧os=[]):=by
 refine aF Tryz.func53 rfl aB rfl (fun w0 F0 lent β0=> ?_)
 repeat'(first|refine sC ?_|((with_reducible refine aj ?_);first|(refine sS ?_;intro Q' hn he hr)|refine sA ?_)|(refine sH ?_;clear hn he hr Q')|((conv=>whnf);first|refine sK ?_|(refine sB ?_;repeat'(refine aA ?_ ?_<;>intro hb<;>try exact cls))|refine sP ?_|(refine sL ?_;intro hlen)|(refine au [] rfl rfl rfl ⟨?_,rfl⟩;conv=>lhs;whnf)))
 all_goals simp only[eH.sz]
 all_goals(first|rfl|(refine congrArg (D.int _) ?_;first|rfl|omega|(split<;>omega)))
theorem abM(x:eH):ak Tryz.prog 73 G0 0 [] [.agg (ig x)] (fun d os=>d= .agg (ig x)∧os=[]):=by
 refine aF Tryz.func73 rfl aB rfl (fun w0 F0 lent β0=> ?_)
 repeat'(first|refine sC ?_|((with_reducible refine aj ?_);first|(refine sS ?_;intro Q' hn he hr)|refine sA ?_)|(refine sH ?_;clear hn he hr Q')|((conv=>whnf);first|refine sK ?_|(refine au [] rfl rfl rfl ⟨?_,rfl⟩;conv=>lhs;whnf)))
 all_goals rfl
theorem Yy(a b:eH):ak Tryz.prog 98 G0 0 [] [.agg (ig a), .agg (ig b)] (fun d os=>d= .bool (xk a b)∧os=[]):=by
 refine aF Tryz.func98 rfl aB rfl (fun w0 F0 lent β0=> ?_)
 repeat'(first|refine sC ?_|((with_reducible refine aj ?_);first|(refine sS ?_;intro Q' hn he hr)|refine sA ?_)|(refine sH ?_;clear hn he hr Q')|((conv=>whnf);first|refine sK ?_|(refine sB ?_;repeat'(refine aA ?_ ?_<;>intro hb<;>try exact cls))|(refine au [] rfl rfl rfl ⟨?_,rfl⟩;conv=>lhs;whnf)))
 all_goals simp_all[xk,bG,eqStr,gW]
theorem abm(a:List (eH))(left:Int)(h0:0≤left)(h1:left≤1048576):ak Tryz.prog 16 G0 0 [] [.sl 2 (a.map ig), .int .i64 left] (fun d os=>d= .int .i64 (if dG eH.sz a≤left then left-dG eH.sz a else-1)∧os=[]):=by
 have hz0:=wz eH.sz a
 have hmono: ∀k,k≤a.length→fJ eH.sz a k≤dG eH.sz a:=fun k h=>wu _ h
 have hm0:=hmono 0 (Nat.zero_le _)
 refine aF Tryz.func16 rfl aB rfl (fun w0 F0 lent β0=> ?_)
 repeat'(first|refine sC ?_|((with_reducible refine aj ?_);first|(refine sS ?_;intro Q' hn he hr)|refine sA ?_)|(refine sH ?_;clear hn he hr Q')|((conv=>whnf);first|refine sK ?_|(refine sB ?_;repeat'(refine aA ?_ ?_<;>intro hb<;>try exact cls))|refine sP ?_|(refine sL ?_;intro hlen)|(refine au [] rfl rfl rfl ⟨?_,rfl⟩;conv=>lhs;whnf)))
 ·(first|rfl|(refine congrArg (D.int _) ?_;first|rfl|omega|(split<;>omega)))
 ·refine aQ (fun k:Nat=>[(0,.sl 2 (a.map ig)),(1,.int .i64 (left-fJ eH.sz a k)),(5,.int .i64 k)]) (fun _=>[]) (fun k=>k≤a.length∧(fJ eH.sz a k:Int)≤left) (fun k=>a.length-k) 0 ⟨by omega,by omega⟩ aI (fun k hk Q' hn he hr=> ?_)
  repeat'(first|refine sC ?_|((with_reducible refine aj ?_);first|(refine sS ?_;intro Q' hn he hr)|refine sA ?_)|(refine sH ?_;clear hn he hr Q')|((conv=>whnf);first|refine sK ?_|(refine sB ?_;repeat'(refine aA ?_ ?_<;>intro hb<;>try exact cls))|((with_reducible refine aH ?_);(refine aG (abl x _ ah ah) rfl rfl ?_))|refine sP ?_|(refine sE ?_;intro x hx)|(refine sL ?_;intro hlen)|(refine au [] rfl rfl rfl ⟨?_,rfl⟩;conv=>lhs;whnf)|(refine sH ?_;clear hn he hr Q')))
  ·have h2:=hmono (k+1) ah
   rw[lK ‹a[k]? =some _›] at h2
   split at hb<;>(first|rfl|(refine congrArg (D.int _) ?_;first|rfl|omega|(split<;>omega)))
  ·have h2:=lK (f:=eH.sz) ‹a[k]? =some _›
   split at hb
   ·rename_i h3
    refine⟨k+1,⟨by omega,by omega⟩,by omega,?_⟩
    rw[if_pos h3]
    exact aI
   ·omega
  ·have h2:k=a.length:=by omega
   subst h2
   have h3:=wo eH.sz a
   (first|rfl|(refine congrArg (D.int _) ?_;first|rfl|omega|(split<;>omega)))
def Xo:List D:=[.str [], .str []]
theorem abN(a:List (eH))(hs:a.length≤1048576):ak Tryz.prog 25 G0 0 [] [.sl 2 (a.map ig)] (fun d os=>d= .h 0∧os=[.row 144 2 (a.map ig)]):=by
 refine aF Tryz.func25 rfl aB rfl (fun w0 F0 lent β0=> ?_)
 repeat'(first|refine sC ?_|((with_reducible refine aj ?_);first|(refine sS ?_;intro Q' hn he hr)|refine sA ?_)|(refine sH ?_;clear hn he hr Q')|((conv=>whnf);first|refine sK ?_|refine sP ?_|(refine sL ?_;intro hlen)))
 refine aQ (fun k:Nat=>[(0,.sl 2 (a.map ig)),(3,.h 0),(4,.int .i64 k)]) (fun k=>[.row 144 2 (fill ig Xo a k)]) (fun k=>k≤a.length) (fun k=>a.length-k) 0 ah rQ (fun k hk Q' hn he hr=> ?_)
 repeat'(first|refine sC ?_|((with_reducible refine aj ?_);first|(refine sS ?_;intro Q' hn he hr)|refine sA ?_)|(refine sH ?_;clear hn he hr Q')|((conv=>whnf);first|refine sK ?_|(refine sB ?_;repeat'(refine aA ?_ ?_<;>intro hb<;>try exact cls))|((with_reducible refine aH ?_);(refine aG (abM x) rfl rfl ?_))|((with_reducible refine bP ?_);(refine au [0] rfl rfl rfl ⟨rfl,?_⟩))|refine sP ?_|(refine sE ?_;intro x hx)|(refine sL ?_;intro hlen)|(refine sH ?_;clear hn he hr Q')))
 ·refine⟨k+1,by omega,by omega,?_⟩
  refine aC rfl rfl ?_ ⟨rfl,rfl,rfl,trivial⟩
  rw[←oI _ _ _ hx]
  rfl
 ·have h2:k=a.length:=by omega
  subst h2
  rw[←oH ig Xo a]
  rfl
theorem Yz(a b:List (eH)):ak Tryz.prog 34 G0 0 [] [.sl 2 (a.map ig), .sl 2 (b.map ig)] (fun d os=>d= .bool (gX xk a b)∧os=[]):=by
 refine aF Tryz.func34 rfl aB rfl (fun w0 F0 lent β0=> ?_)
 repeat'(first|refine sC ?_|((with_reducible refine aj ?_);first|(refine sS ?_;intro Q' hn he hr)|refine sA ?_)|(refine sH ?_;clear hn he hr Q')|((conv=>whnf);first|refine sK ?_|(refine sB ?_;repeat'(refine aA ?_ ?_<;>intro hb<;>try exact cls))|(refine sL ?_;intro hlen)|(refine au [] rfl rfl rfl ⟨?_,rfl⟩;conv=>lhs;whnf)))
 ·rw[pX hb]
 ·refine aQ (fun k:Nat=>[(0,.sl 2 (a.map ig)),(1,.sl 2 (b.map ig)),(5,.int .i64 k)]) (fun _=>[]) (fun k=>k≤a.length∧mM xk a b k) (fun k=>a.length-k) 0 ⟨by omega,qc⟩ aI (fun k hk Q' hn he hr=> ?_)
  repeat'(first|refine sC ?_|((with_reducible refine aj ?_);first|(refine sS ?_;intro Q' hn he hr)|refine sA ?_)|(refine sH ?_;clear hn he hr Q')|refine sO ?_|((conv=>whnf);first|refine sK ?_|(refine sB ?_;repeat'(refine aA ?_ ?_<;>intro hb<;>try exact cls))|((with_reducible refine aZ ?_);(refine ku (.bool (xk _ _)) (Yy _ _) rfl lg ?_))|refine sP ?_|(refine sE ?_;intro x hx)|(refine sL ?_;intro hlen)|refine sD ?_|(refine au [] rfl rfl rfl ⟨?_,rfl⟩;conv=>lhs;whnf)|(refine sH ?_;clear hn he hr Q')))
  ·rw[pW ‹a[k]? =some _› ‹b[k]? =some _› hb]
  ·exact⟨k+1,⟨by omega,pY hk.2 ‹a[k]? =some _› ‹b[k]? =some _› hb⟩,by omega,aI⟩
  ·rw[oC ah (fun j x y h=>hk.2 j x y ah)]
theorem abu(x:TStar)(left:Int)(h0:0≤left)(h1:left≤1048576):ak Tryz.prog 54 G0 0 [] [.agg (gV x), .int .i64 left] (fun d os=>d= .int .i64 (if x.sz≤left then left-x.sz else-1)∧os=[]):=by
 refine aF Tryz.func54 rfl aB rfl (fun w0 F0 lent β0=> ?_)
 repeat'(first|refine sC ?_|((with_reducible refine aj ?_);first|(refine sS ?_;intro Q' hn he hr)|refine sA ?_)|(refine sH ?_;clear hn he hr Q')|((conv=>whnf);first|refine sK ?_|(refine sB ?_;repeat'(refine aA ?_ ?_<;>intro hb<;>try exact cls))|refine sP ?_|(refine sL ?_;intro hlen)|(refine au [] rfl rfl rfl ⟨?_,rfl⟩;conv=>lhs;whnf)))
 all_goals simp only[TStar.sz]
 all_goals(first|rfl|(refine congrArg (D.int _) ?_;first|rfl|omega|(split<;>omega)))
theorem abV(x:TStar):ak Tryz.prog 74 G0 0 [] [.agg (gV x)] (fun d os=>d= .agg (gV x)∧os=[]):=by
 refine aF Tryz.func74 rfl aB rfl (fun w0 F0 lent β0=> ?_)
 repeat'(first|refine sC ?_|((with_reducible refine aj ?_);first|(refine sS ?_;intro Q' hn he hr)|refine sA ?_)|(refine sH ?_;clear hn he hr Q')|((conv=>whnf);first|refine sK ?_|(refine au [] rfl rfl rfl ⟨?_,rfl⟩;conv=>lhs;whnf)))
 all_goals rfl
theorem YH(a b:TStar):ak Tryz.prog 99 G0 0 [] [.agg (gV a), .agg (gV b)] (fun d os=>d= .bool (xA a b)∧os=[]):=by
 refine aF Tryz.func99 rfl aB rfl (fun w0 F0 lent β0=> ?_)
 repeat'(first|refine sC ?_|((with_reducible refine aj ?_);first|(refine sS ?_;intro Q' hn he hr)|refine sA ?_)|(refine sH ?_;clear hn he hr Q')|((conv=>whnf);first|refine sK ?_|(refine sB ?_;repeat'(refine aA ?_ ?_<;>intro hb<;>try exact cls))|(refine au [] rfl rfl rfl ⟨?_,rfl⟩;conv=>lhs;whnf)))
 all_goals simp_all[xA,bG,eqStr,gW]
theorem abv(a:List (TStar))(left:Int)(h0:0≤left)(h1:left≤1048576):ak Tryz.prog 18 G0 0 [] [.sl 5 (a.map gV), .int .i64 left] (fun d os=>d= .int .i64 (if dG TStar.sz a≤left then left-dG TStar.sz a else-1)∧os=[]):=by
 have hz0:=wz TStar.sz a
 have hmono: ∀k,k≤a.length→fJ TStar.sz a k≤dG TStar.sz a:=fun k h=>wu _ h
 have hm0:=hmono 0 (Nat.zero_le _)
 refine aF Tryz.func18 rfl aB rfl (fun w0 F0 lent β0=> ?_)
 repeat'(first|refine sC ?_|((with_reducible refine aj ?_);first|(refine sS ?_;intro Q' hn he hr)|refine sA ?_)|(refine sH ?_;clear hn he hr Q')|((conv=>whnf);first|refine sK ?_|(refine sB ?_;repeat'(refine aA ?_ ?_<;>intro hb<;>try exact cls))|refine sP ?_|(refine sL ?_;intro hlen)|(refine au [] rfl rfl rfl ⟨?_,rfl⟩;conv=>lhs;whnf)))
 ·(first|rfl|(refine congrArg (D.int _) ?_;first|rfl|omega|(split<;>omega)))
 ·refine aQ (fun k:Nat=>[(0,.sl 5 (a.map gV)),(1,.int .i64 (left-fJ TStar.sz a k)),(5,.int .i64 k)]) (fun _=>[]) (fun k=>k≤a.length∧(fJ TStar.sz a k:Int)≤left) (fun k=>a.length-k) 0 ⟨by omega,by omega⟩ aI (fun k hk Q' hn he hr=> ?_)
  repeat'(first|refine sC ?_|((with_reducible refine aj ?_);first|(refine sS ?_;intro Q' hn he hr)|refine sA ?_)|(refine sH ?_;clear hn he hr Q')|((conv=>whnf);first|refine sK ?_|(refine sB ?_;repeat'(refine aA ?_ ?_<;>intro hb<;>try exact cls))|((with_reducible refine aH ?_);(refine aG (abu x _ ah ah) rfl rfl ?_))|refine sP ?_|(refine sE ?_;intro x hx)|(refine sL ?_;intro hlen)|(refine au [] rfl rfl rfl ⟨?_,rfl⟩;conv=>lhs;whnf)|(refine sH ?_;clear hn he hr Q')))
  ·have h2:=hmono (k+1) ah
   rw[lK ‹a[k]? =some _›] at h2
   split at hb<;>(first|rfl|(refine congrArg (D.int _) ?_;first|rfl|omega|(split<;>omega)))
  ·have h2:=lK (f:=TStar.sz) ‹a[k]? =some _›
   split at hb
   ·rename_i h3
    refine⟨k+1,⟨by omega,by omega⟩,by omega,?_⟩
    rw[if_pos h3]
    exact aI
   ·omega
  ·have h2:k=a.length:=by omega
   subst h2
   have h3:=wo TStar.sz a
   (first|rfl|(refine congrArg (D.int _) ?_;first|rfl|omega|(split<;>omega)))
def Xt:List D:=[.str [], .int .i64 0, .int .i64 0, .int .i64 0, .int .i64 0]
theorem abW(a:List (TStar))(hs:a.length≤1048576):ak Tryz.prog 27 G0 0 [] [.sl 5 (a.map gV)] (fun d os=>d= .h 0∧os=[.row 146 5 (a.map gV)]):=by
 refine aF Tryz.func27 rfl aB rfl (fun w0 F0 lent β0=> ?_)
 repeat'(first|refine sC ?_|((with_reducible refine aj ?_);first|(refine sS ?_;intro Q' hn he hr)|refine sA ?_)|(refine sH ?_;clear hn he hr Q')|((conv=>whnf);first|refine sK ?_|refine sP ?_|(refine sL ?_;intro hlen)))
 refine aQ (fun k:Nat=>[(0,.sl 5 (a.map gV)),(3,.h 0),(4,.int .i64 k)]) (fun k=>[.row 146 5 (fill gV Xt a k)]) (fun k=>k≤a.length) (fun k=>a.length-k) 0 ah rQ (fun k hk Q' hn he hr=> ?_)
 repeat'(first|refine sC ?_|((with_reducible refine aj ?_);first|(refine sS ?_;intro Q' hn he hr)|refine sA ?_)|(refine sH ?_;clear hn he hr Q')|((conv=>whnf);first|refine sK ?_|(refine sB ?_;repeat'(refine aA ?_ ?_<;>intro hb<;>try exact cls))|((with_reducible refine aH ?_);(refine aG (abV x) rfl rfl ?_))|((with_reducible refine bP ?_);(refine au [0] rfl rfl rfl ⟨rfl,?_⟩))|refine sP ?_|(refine sE ?_;intro x hx)|(refine sL ?_;intro hlen)|(refine sH ?_;clear hn he hr Q')))
 ·refine⟨k+1,by omega,by omega,?_⟩
  refine aC rfl rfl ?_ ⟨rfl,rfl,rfl,trivial⟩
  rw[←oI _ _ _ hx]
  rfl
 ·have h2:k=a.length:=by omega
  subst h2
  rw[←oH gV Xt a]
  rfl
theorem YI(a b:List (TStar)):ak Tryz.prog 36 G0 0 [] [.sl 5 (a.map gV), .sl 5 (b.map gV)] (fun d os=>d= .bool (gX xA a b)∧os=[]):=by
 refine aF Tryz.func36 rfl aB rfl (fun w0 F0 lent β0=> ?_)
 repeat'(first|refine sC ?_|((with_reducible refine aj ?_);first|(refine sS ?_;intro Q' hn he hr)|refine sA ?_)|(refine sH ?_;clear hn he hr Q')|((conv=>whnf);first|refine sK ?_|(refine sB ?_;repeat'(refine aA ?_ ?_<;>intro hb<;>try exact cls))|(refine sL ?_;intro hlen)|(refine au [] rfl rfl rfl ⟨?_,rfl⟩;conv=>lhs;whnf)))
 ·rw[pX hb]
 ·refine aQ (fun k:Nat=>[(0,.sl 5 (a.map gV)),(1,.sl 5 (b.map gV)),(5,.int .i64 k)]) (fun _=>[]) (fun k=>k≤a.length∧mM xA a b k) (fun k=>a.length-k) 0 ⟨by omega,qc⟩ aI (fun k hk Q' hn he hr=> ?_)
  repeat'(first|refine sC ?_|((with_reducible refine aj ?_);first|(refine sS ?_;intro Q' hn he hr)|refine sA ?_)|(refine sH ?_;clear hn he hr Q')|refine sO ?_|((conv=>whnf);first|refine sK ?_|(refine sB ?_;repeat'(refine aA ?_ ?_<;>intro hb<;>try exact cls))|((with_reducible refine aZ ?_);(refine ku (.bool (xA _ _)) (YH _ _) rfl lg ?_))|refine sP ?_|(refine sE ?_;intro x hx)|(refine sL ?_;intro hlen)|refine sD ?_|(refine au [] rfl rfl rfl ⟨?_,rfl⟩;conv=>lhs;whnf)|(refine sH ?_;clear hn he hr Q')))
  ·rw[pW ‹a[k]? =some _› ‹b[k]? =some _› hb]
  ·exact⟨k+1,⟨by omega,pY hk.2 ‹a[k]? =some _› ‹b[k]? =some _› hb⟩,by omega,aI⟩
  ·rw[oC ah (fun j x y h=>hk.2 j x y ah)]
end Go.Eng
