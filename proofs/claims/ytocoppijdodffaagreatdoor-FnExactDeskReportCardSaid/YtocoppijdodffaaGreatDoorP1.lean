/-
  Marks of texts, lists of numbers and of texts: what the scaffolding functions do.
  No conditions.
-/
import Derived.Test.YtocoppijdodffaaGreatDoorED
import Derived.Test.YtocoppijdodffaaGreatDoorProg
set_option linter.unusedVariables false
set_option linter.unusedSimpArgs false
set_option maxHeartbeats 4000000
namespace Go.Eng
open Go Go.RowKit Go.Proofs
set_option maxRecDepth 100000
theorem rY(k:Int)(h:k≤9223372036854775807):ak Tryz.prog 42 G0 0 [] [.int .i64 k] (fun d os=>d= .str (kN k)∧os=[]):=by
 refine aF Tryz.func42 rfl aB rfl (fun w0 F0 lent β0=> ?_)
 repeat'(first|refine sC ?_|((with_reducible refine aj ?_);first|(refine sS ?_;intro Q' hn he hr)|refine sA ?_)|(refine sH ?_;clear hn he hr Q')|((conv=>whnf);first|refine sK ?_|(refine sB ?_;repeat'(refine aA ?_ ?_<;>intro hb<;>try exact cls))|(refine au [] rfl rfl rfl ⟨?_,rfl⟩;conv=>lhs;whnf)))
 ·show D.str [109,48]=_
  rw[kN,if_pos hb]
 ·refine aQ (γ:=Nat×Nat×List UInt8) (fun x=>[(0,.int .i64 x.2.1),(3,.str x.2.2)]) (fun _=>[]) (fun x=>jr x.1 x.2.1 x.2.2=jr 20 k.toNat []∧x.2.1<10^x.1∧x.2.2.length+x.1≤20∧x.2.1≤k.toNat) (fun x=>x.1) (20,k.toNat,[]) ⟨rfl,(show k.toNat<100000000000000000000 from by omega),by simp,Nat.le_refl _⟩ (by refine aC rfl rfl rfl ⟨?_,rfl,trivial⟩;(conv=>rhs;whnf);refine congrArg (D.int _) ?_;show((k.toNat:Nat):Int)=k;omega) (fun x hk Q' hn he hr=> ?_)
  obtain⟨f,n,l⟩:=x
  obtain⟨h1,h2,h3,h4⟩:=hk
  simp only at h1 h2 h3 h4 hn
  have hmax:(l.length:Int)+1≤maxLen:=by simp only[maxLen];omega
  show awp _ _ Q' ⟨[(0,.int .i64 n),(3,.str l)],_,[],_,_⟩
  repeat'(first|refine sC ?_|((with_reducible refine aj ?_);first|(refine sS ?_;intro Q' hn he hr)|refine sA ?_)|(refine sH ?_;clear hn he hr Q')|((conv=>whnf);first|refine sK ?_|(refine sB ?_;repeat'(refine aA ?_ ?_<;>intro hb<;>try exact cls))|(refine bZ.mk ⟨(by decide:(10:Int)≠0),?_⟩)|(refine bn.to ((48+n % 10:Nat):Int) (by rw[Int.natCast_add,Int.ofNat_tmod];rfl) (wrap64 ah) ?_)|(refine bn.to ((48+n % 10:Nat):Int) rfl (Hg ah) ?_)|(refine lq.mk ⟨[UInt8.ofNat (48+n % 10)],?_,?_⟩)|(refine bZ.mk ⟨?_,?_⟩)|(refine bn.to ((n/10:Nat):Int) (Int.ofNat_tdiv n 10).symm (wrap64 ah) ?_)|(refine au [] rfl rfl rfl ⟨?_,rfl⟩;conv=>lhs;whnf)|(refine sH ?_;clear hn he hr Q')))
  ·simp[iW]
   omega
  ·simp only[List.length_cons,List.length_nil,maxLen]
   simp only[maxLen] at hmax
   omega
  ·have hf:f≠0:=fun e=>by
    subst e
    simp at h2
    omega
   obtain⟨f',rfl⟩:=Nat.exists_eq_succ_of_ne_zero hf
   refine⟨(f',n/10,UInt8.ofNat (48+n % 10)::l),⟨?_,?_,?_,?_⟩,?_,?_⟩
   ·rw[←h1]
    simp only[jr]
    rw[if_neg ah]
   ·simp only[Nat.pow_succ] at h2
    show n/10<10^f'
    omega
   ·simp only[List.length_cons]
    omega
   ·show n/10≤_
    omega
   ·exact Nat.lt_succ_self _
   ·exact aC rfl rfl rfl ⟨rfl,rfl,trivial⟩
  ·simp only[maxLen] at hmax⊢
   show 1+l.length≤_
   omega
  ·have hn0:n=0:=by omega
   subst hn0
   have h5:jr f 0 l=l:=by cases f<;>simp[jr]
   rw[h5] at h1
   show D.str (109::l)=_
   rw[kN,if_neg ah,h1]
theorem abd(a:List (Int))(left:Int)(h0:0≤left)(h1:left≤1048576):ak Tryz.prog 46 G0 0 [] [.sl 1 (a.map encI), .int .i64 left] (fun d os=>d= .int .i64 (if dG nT a≤left then left-dG nT a else-1)∧os=[]):=by
 rw[NH]
 refine aF Tryz.func46 rfl aB rfl (fun w0 F0 lent β0=> ?_)
 repeat'(first|refine sC ?_|((with_reducible refine aj ?_);first|(refine sS ?_;intro Q' hn he hr)|refine sA ?_)|(refine sH ?_;clear hn he hr Q')|((conv=>whnf);first|refine sK ?_|(refine sB ?_;repeat'(refine aA ?_ ?_<;>intro hb<;>try exact cls))|refine sP ?_|(refine sL ?_;intro hlen)|(refine au [] rfl rfl rfl ⟨?_,rfl⟩;conv=>lhs;whnf)))
 all_goals(first|rfl|(refine congrArg (D.int _) ?_;first|rfl|omega|(split<;>omega)))
def Xk:List D:=[.int .i64 0]
theorem abE(a:List (Int))(hs:a.length≤1048576):ak Tryz.prog 65 G0 0 [] [.sl 1 (a.map encI)] (fun d os=>d= .h 0∧os=[.row 2 1 (a.map encI)]):=by
 refine aF Tryz.func65 rfl aB rfl (fun w0 F0 lent β0=> ?_)
 repeat'(first|refine sC ?_|((with_reducible refine aj ?_);first|(refine sS ?_;intro Q' hn he hr)|refine sA ?_)|(refine sH ?_;clear hn he hr Q')|((conv=>whnf);first|refine sK ?_|refine sP ?_|(refine sL ?_;intro hlen)))
 refine aQ (fun k:Nat=>[(0,.sl 1 (a.map encI)),(3,.h 0),(4,.int .i64 k)]) (fun k=>[.row 2 1 (fill encI Xk a k)]) (fun k=>k≤a.length) (fun k=>a.length-k) 0 ah rQ (fun k hk Q' hn he hr=> ?_)
 repeat'(first|refine sC ?_|((with_reducible refine aj ?_);first|(refine sS ?_;intro Q' hn he hr)|refine sA ?_)|(refine sH ?_;clear hn he hr Q')|((conv=>whnf);first|refine sK ?_|(refine sB ?_;repeat'(refine aA ?_ ?_<;>intro hb<;>try exact cls))|((with_reducible refine bP ?_);(refine au [0] rfl rfl rfl ⟨rfl,?_⟩))|refine sP ?_|(refine sE ?_;intro x hx)|(refine sL ?_;intro hlen)|(refine sH ?_;clear hn he hr Q')))
 ·refine⟨k+1,by omega,by omega,?_⟩
  refine aC rfl rfl ?_ ⟨rfl,rfl,rfl,trivial⟩
  rw[←oI _ _ _ hx]
  rfl
 ·have h2:k=a.length:=by omega
  subst h2
  rw[←oH encI Xk a]
  rfl
theorem Yq(a b:List (Int)):ak Tryz.prog 90 G0 0 [] [.sl 1 (a.map encI), .sl 1 (b.map encI)] (fun d os=>d= .bool (gX bG a b)∧os=[]):=by
 refine aF Tryz.func90 rfl aB rfl (fun w0 F0 lent β0=> ?_)
 repeat'(first|refine sC ?_|((with_reducible refine aj ?_);first|(refine sS ?_;intro Q' hn he hr)|refine sA ?_)|(refine sH ?_;clear hn he hr Q')|((conv=>whnf);first|refine sK ?_|(refine sB ?_;repeat'(refine aA ?_ ?_<;>intro hb<;>try exact cls))|(refine sL ?_;intro hlen)|(refine au [] rfl rfl rfl ⟨?_,rfl⟩;conv=>lhs;whnf)))
 ·rw[pX hb]
 ·refine aQ (fun k:Nat=>[(0,.sl 1 (a.map encI)),(1,.sl 1 (b.map encI)),(5,.int .i64 k)]) (fun _=>[]) (fun k=>k≤a.length∧mM bG a b k) (fun k=>a.length-k) 0 ⟨by omega,qc⟩ aI (fun k hk Q' hn he hr=> ?_)
  repeat'(first|refine sC ?_|((with_reducible refine aj ?_);first|(refine sS ?_;intro Q' hn he hr)|refine sA ?_)|(refine sH ?_;clear hn he hr Q')|refine sO ?_|((conv=>whnf);first|refine sK ?_|(refine sB ?_;repeat'(refine aA ?_ ?_<;>intro hb<;>try exact cls))|refine sP ?_|(refine sE ?_;intro x hx)|(refine sL ?_;intro hlen)|refine sD ?_|(refine au [] rfl rfl rfl ⟨?_,rfl⟩;conv=>lhs;whnf)|(refine sH ?_;clear hn he hr Q')))
  ·rw[pW ‹a[k]? =some _› ‹b[k]? =some _› H9]
  ·exact⟨k+1,⟨by omega,pY hk.2 ‹a[k]? =some _› ‹b[k]? =some _› H9⟩,by omega,aI⟩
  ·rw[oC ah (fun j x y h=>hk.2 j x y ah)]
theorem O9(a:List (Int))(q:Int)(h0:0≤q∧q+1*a.length≤4611686018427387904):ak Tryz.prog 102 G0 1 [.row 2 1 (a.map encI)] [.h 0, .int .i64 q] (fun d os=>d= .int .i64 (q+1*a.length)∧os=[.row 2 1 ((jk (fun _ q=>q) 1 q a).map encI)]):=by
 refine aF Tryz.func102 rfl aB rfl (fun w0 F0 lent β0=> ?_)
 repeat'(first|refine sC ?_|((with_reducible refine aj ?_);first|(refine sS ?_;intro Q' hn he hr)|refine sA ?_)|(refine sH ?_;clear hn he hr Q')|((conv=>whnf);refine sK ?_))
 refine aQ (fun k:Nat=>[(0,.h 0),(1,.int .i64 (q+1*k)),(5,.int .i64 k)]) (fun k=>[.row 2 1 ((bF (fun _ q=>q) 1 q a k).map encI)]) (fun k=>k≤a.length) (fun k=>a.length-k) 0 ah qO (fun k hk Q' hn he hr=> ?_)
 repeat'(first|refine sC ?_|((with_reducible refine aj ?_);first|(refine sS ?_;intro Q' hn he hr)|refine sA ?_)|(refine sH ?_;clear hn he hr Q')|((conv=>whnf);first|refine sK ?_|(refine sB ?_;repeat'(refine aA ?_ ?_<;>intro hb<;>try exact cls))|(refine dD.bF fun hlen=> ?_)|(refine aW.bF ah ?_)|(refine aJ.bF ah fun x hx=> ?_)|((with_reducible refine bP ?_);(refine au [0] rfl rfl rfl ⟨?_,?_⟩))|refine sP ?_|(refine sH ?_;clear hn he hr Q')))
 ·refine⟨k+1,by omega,by omega,?_⟩
  refine aC rfl rfl ?_ ⟨rfl,?_,rfl,trivial⟩
  ·rw[←qA hx,List.map_set]
   try simp only[List.set_set]
   rfl
  ·(conv=>rhs;whnf);refine congrArg (D.int _) ?_;omega
 ·have h2:k=a.length:=by omega
  subst h2
  rfl
 ·have h2:k=a.length:=by omega
  subst h2
  rfl
theorem EW(a b:List (List UInt8)):ak Tryz.prog 8 G0 0 [] [.sl 1 (a.map encS), .sl 1 (b.map encS)] (fun d os=>d= .bool (gX eqStr a b)∧os=[]):=by
 refine aF Tryz.func8 rfl aB rfl (fun w0 F0 lent β0=> ?_)
 repeat'(first|refine sC ?_|((with_reducible refine aj ?_);first|(refine sS ?_;intro Q' hn he hr)|refine sA ?_)|(refine sH ?_;clear hn he hr Q')|((conv=>whnf);first|refine sK ?_|(refine sB ?_;repeat'(refine aA ?_ ?_<;>intro hb<;>try exact cls))|(refine sL ?_;intro hlen)|(refine au [] rfl rfl rfl ⟨?_,rfl⟩;conv=>lhs;whnf)))
 ·rw[pX hb]
 ·refine aQ (fun k:Nat=>[(0,.sl 1 (a.map encS)),(1,.sl 1 (b.map encS)),(5,.int .i64 k)]) (fun _=>[]) (fun k=>k≤a.length∧mM eqStr a b k) (fun k=>a.length-k) 0 ⟨by omega,qc⟩ aI (fun k hk Q' hn he hr=> ?_)
  repeat'(first|refine sC ?_|((with_reducible refine aj ?_);first|(refine sS ?_;intro Q' hn he hr)|refine sA ?_)|(refine sH ?_;clear hn he hr Q')|refine sO ?_|((conv=>whnf);first|refine sK ?_|(refine sB ?_;repeat'(refine aA ?_ ?_<;>intro hb<;>try exact cls))|refine sP ?_|(refine sE ?_;intro x hx)|(refine sL ?_;intro hlen)|refine sD ?_|(refine au [] rfl rfl rfl ⟨?_,rfl⟩;conv=>lhs;whnf)|(refine sH ?_;clear hn he hr Q')))
  ·rw[pW ‹a[k]? =some _› ‹b[k]? =some _› H9]
  ·exact⟨k+1,⟨by omega,pY hk.2 ‹a[k]? =some _› ‹b[k]? =some _› H9⟩,by omega,aI⟩
  ·rw[oC ah (fun j x y h=>hk.2 j x y ah)]
theorem ZG(a:List (List UInt8))(q:Int)(h0:0≤q∧q+1*a.length≤4611686018427387904):ak Tryz.prog 11 G0 1 [.row 9 1 (a.map encS)] [.h 0, .int .i64 q] (fun d os=>d= .int .i64 (q+1*a.length)∧os=[.row 9 1 ((jk (fun _ q=>kN q) 1 q a).map encS)]):=by
 refine aF Tryz.func11 rfl aB rfl (fun w0 F0 lent β0=> ?_)
 repeat'(first|refine sC ?_|((with_reducible refine aj ?_);first|(refine sS ?_;intro Q' hn he hr)|refine sA ?_)|(refine sH ?_;clear hn he hr Q')|((conv=>whnf);refine sK ?_))
 refine aQ (fun k:Nat=>[(0,.h 0),(1,.int .i64 (q+1*k)),(5,.int .i64 k)]) (fun k=>[.row 9 1 ((bF (fun _ q=>kN q) 1 q a k).map encS)]) (fun k=>k≤a.length) (fun k=>a.length-k) 0 ah qO (fun k hk Q' hn he hr=> ?_)
 repeat'(first|refine sC ?_|((with_reducible refine aj ?_);first|(refine sS ?_;intro Q' hn he hr)|refine sA ?_)|(refine sH ?_;clear hn he hr Q')|((conv=>whnf);first|refine sK ?_|(refine sB ?_;repeat'(refine aA ?_ ?_<;>intro hb<;>try exact cls))|(refine dD.bF fun hlen=> ?_)|(refine aW.bF ah ?_)|(refine aJ.bF ah fun x hx=> ?_)|((with_reducible refine aH ?_);(refine aG (rY _ ah) rfl rfl ?_))|((with_reducible refine bP ?_);(refine au [0] rfl rfl rfl ⟨?_,?_⟩))|refine sP ?_|(refine sH ?_;clear hn he hr Q')))
 ·refine⟨k+1,by omega,by omega,?_⟩
  refine aC rfl rfl ?_ ⟨rfl,?_,rfl,trivial⟩
  ·rw[←qA hx,List.map_set]
   try simp only[List.set_set]
   rfl
  ·(conv=>rhs;whnf);refine congrArg (D.int _) ?_;omega
 ·have h2:k=a.length:=by omega
  subst h2
  rfl
 ·have h2:k=a.length:=by omega
  subst h2
  rfl
theorem Px(q:Int):ak Tryz.prog 11 G0 0 [] [.sl 1 [], .int .i64 q] (fun d os=>d= .int .i64 q∧os=[]):=by
 refine aF Tryz.func11 rfl aB rfl (fun w0 F0 lent β0=> ?_)
 repeat'(first|refine sC ?_|((with_reducible refine aj ?_);first|(refine sS ?_;intro Q' hn he hr)|refine sA ?_)|(refine sH ?_;clear hn he hr Q')|((conv=>whnf);refine sK ?_))
 refine aQ (fun _:Nat=>[(0,.sl 1 []),(1,.int .i64 q),(5,.int .i64 0)]) (fun _=>[]) (fun _=>True) (fun _=>0) 0 trivial aI (fun k hk Q' hn he hr=> ?_)
 repeat'(first|refine sC ?_|((with_reducible refine aj ?_);first|(refine sS ?_;intro Q' hn he hr)|refine sA ?_)|(refine sH ?_;clear hn he hr Q')|((conv=>whnf);first|refine sK ?_|(refine sB ?_;repeat'(refine aA ?_ ?_<;>intro hb<;>try exact cls))|refine sP ?_|(refine au [] rfl rfl rfl ⟨?_,rfl⟩;conv=>lhs;whnf)|(refine sH ?_;clear hn he hr Q')))
theorem Ov(a:List (List UInt8))(q:Int)(h0:0≤q∧q+1*a.length≤4611686018427387904):ak Tryz.prog 12 G0 0 [] [.sl 1 ((jk (fun _ q=>kN q) 1 q a).map encS), .int .i64 q] (fun d os=>d= .int .i64 (q+1*a.length)∧os=[]):=by
 refine aF Tryz.func12 rfl aB rfl (fun w0 F0 lent β0=> ?_)
 repeat'(first|refine sC ?_|((with_reducible refine aj ?_);first|(refine sS ?_;intro Q' hn he hr)|refine sA ?_)|(refine sH ?_;clear hn he hr Q')|((conv=>whnf);refine sK ?_))
 refine aQ (fun k:Nat=>[(0,.sl 1 ((jk (fun _ q=>kN q) 1 q a).map encS)),(1,.int .i64 (q+1*k)),(5,.int .i64 k)]) (fun _=>[]) (fun k=>k≤a.length) (fun k=>a.length-k) 0 ah aI (fun k hk Q' hn he hr=> ?_)
 repeat'(first|refine sC ?_|((with_reducible refine aj ?_);first|(refine sS ?_;intro Q' hn he hr)|refine sA ?_)|(refine sH ?_;clear hn he hr Q')|refine sO ?_|((conv=>whnf);first|refine sK ?_|(refine sB ?_;repeat'(refine aA ?_ ?_<;>intro hb<;>try exact cls))|(refine dD.jk fun hlen=> ?_)|(refine aJ.jk ah fun y hy=> ?_)|((with_reducible refine aZ ?_);(refine ku (.str (kN _)) (rY _ ah) rfl lg ?_))|refine sP ?_|refine sD ?_|(refine au [] rfl rfl rfl ⟨?_,rfl⟩;conv=>lhs;whnf)|(refine sH ?_;clear hn he hr Q')))
 ·exact⟨k+1,by omega,by omega,aI⟩
 ·have h2:k=a.length:=by omega
  subst h2
  rfl
theorem Ox(q:Int):ak Tryz.prog 12 G0 0 [] [.sl 1 [], .int .i64 q] (fun d os=>d= .int .i64 q∧os=[]):=by
 refine aF Tryz.func12 rfl aB rfl (fun w0 F0 lent β0=> ?_)
 repeat'(first|refine sC ?_|((with_reducible refine aj ?_);first|(refine sS ?_;intro Q' hn he hr)|refine sA ?_)|(refine sH ?_;clear hn he hr Q')|((conv=>whnf);refine sK ?_))
 refine aQ (fun _:Nat=>[(0,.sl 1 []),(1,.int .i64 q),(5,.int .i64 0)]) (fun _=>[]) (fun _=>True) (fun _=>0) 0 trivial aI (fun k hk Q' hn he hr=> ?_)
 repeat'(first|refine sC ?_|((with_reducible refine aj ?_);first|(refine sS ?_;intro Q' hn he hr)|refine sA ?_)|(refine sH ?_;clear hn he hr Q')|((conv=>whnf);first|refine sK ?_|(refine sB ?_;repeat'(refine aA ?_ ?_<;>intro hb<;>try exact cls))|refine sP ?_|(refine au [] rfl rfl rfl ⟨?_,rfl⟩;conv=>lhs;whnf)|(refine sH ?_;clear hn he hr Q')))
end Go.Eng
