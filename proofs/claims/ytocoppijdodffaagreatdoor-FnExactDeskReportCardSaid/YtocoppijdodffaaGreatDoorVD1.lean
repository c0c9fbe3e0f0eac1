/-
  Holds, offers and sites: whether they are valid, by the program and by the reference.
  No conditions.
-/
import Derived.Test.YtocoppijdodffaaGreatDoorVX
set_option linter.unusedVariables false
set_option linter.unusedSimpArgs false
set_option maxHeartbeats 4000000
namespace Go.Eng
open Go Go.RowKit Go.Proofs
set_option maxRecDepth 100000
theorem SL{n l h:Int}(hb:inB n l h=true):l≤n∧n≤h:=by simpa[inB] using hb
def holdB(x:jh):Bool:=inB x.xC 0 7200000&&inB x.iZ 1 1800000
def tC(a b:jh):Bool:=decide (a.xC<b.xC)
def holdsB(a:List jh):Bool:=decide (a.length≤16)&&jG holdB tC a
theorem adW{a:List jh}(h: ¬a.length≤16):holdsB a=false:=by simp[holdsB,h]
def tK(x:eP):Bool:=nameB x.fId&&(nameB x.bT&&(inB x.vI 0 1439&&(inB x.iZ 1 (1440-x.vI)&&inB x.Am 0 10000)))
def zl(a b:eP):Bool:=Op.bytesLess a.fId b.fId
def oU(a:List eP):Bool:=decide (a.length≤16)&&jG tK zl a
theorem afh{a:List eP}(h: ¬a.length≤16):oU a=false:=by simp[oU,h]
def Ez(x:mF):Bool:=nameB x.fName&&(inB x.xG (-180000) 180000&&inB x.xE (-90000) 90000)
theorem Y1(x:mF):ak Tryz.prog 79 G0 0 [] [.agg (wU x)] (fun e os=>e= .bool (Ez x)∧os=[]):=by
 refine aF Tryz.func79 rfl aB rfl (fun w0 F0 lent β0=> ?_)
 repeat'(first|refine sC ?_|((with_reducible refine aj ?_);first|(refine sS ?_;intro Q' hn he hr)|refine sA ?_)|(refine sH ?_;clear hn he hr Q')|((conv=>whnf);first|refine sK ?_|(refine sB ?_;repeat'(first|refine sb0 ?_|(refine aA ?_ ?_<;>intro hb<;>try exact cls)))|((with_reducible refine aH ?_);first|(refine aG (rX _) rfl rfl ?_)|(refine aG (iQ _ _ _) rfl rfl ?_))|(refine au [] rfl rfl rfl ⟨?_,rfl⟩;conv=>lhs;whnf)))
 all_goals simp_all[Ez]
theorem aaf(x:mF)(r:List D):ak Tryz.prog 59 G0 0 [] [.rp (wU x++r)] (fun e os=>e= .bool (Ez x)∧os=[]):=by
 refine aF Tryz.func59 rfl aB rfl (fun w0 F0 lent β0=> ?_)
 repeat'(first|refine sC ?_|((with_reducible refine aj ?_);first|(refine sS ?_;intro Q' hn he hr)|refine sA ?_)|(refine sH ?_;clear hn he hr Q')|((conv=>whnf);first|refine sK ?_|(refine sB ?_;repeat'(first|refine sb0 ?_|(refine aA ?_ ?_<;>intro hb<;>try exact cls)))|((with_reducible refine aH ?_);first|(refine aG (rZ _) rfl rfl ?_)|(refine aG (iy _ _ _) rfl rfl ?_)|(refine aG (PG _) rfl rfl ?_))|(refine au [] rfl rfl rfl ⟨?_,rfl⟩;conv=>lhs;whnf)))
 all_goals simp_all[Ez]
theorem Zv(x:eP):ak Tryz.prog 152 G0 0 [] [.agg (iq x)] (fun e os=>e= .bool (tK x)∧os=[]):=by
 refine aF Tryz.func152 rfl aB rfl (fun w0 F0 lent β0=> ?_)
 repeat'(first|refine sC ?_|((with_reducible refine aj ?_);first|(refine sS ?_;intro Q' hn he hr)|refine sA ?_)|(refine sH ?_;clear hn he hr Q')|((conv=>whnf);first|refine sK ?_|(refine sB ?_;repeat'(first|refine sb0 ?_|(refine aA ?_ ?_<;>intro hb<;>try exact cls)))|(refine bn.lD (by have J5:inB x.vI 0 1439=true:=aO;have h78:=SL J5;omega) ?_)|((with_reducible refine aH ?_);first|(refine aG (rX _) rfl rfl ?_)|(refine aG (iQ _ _ _) rfl rfl ?_))|(refine au [] rfl rfl rfl ⟨?_,rfl⟩;conv=>lhs;whnf)))
 all_goals simp_all[tK]
theorem aaG(x:eP):ak Tryz.prog 126 G0 0 [] [.rp (iq x)] (fun e os=>e= .bool (tK x)∧os=[]):=by
 refine aF Tryz.func126 rfl aB rfl (fun w0 F0 lent β0=> ?_)
 repeat'(first|refine sC ?_|((with_reducible refine aj ?_);first|(refine sS ?_;intro Q' hn he hr)|refine sA ?_)|(refine sH ?_;clear hn he hr Q')|refine sO ?_|((conv=>whnf);first|refine sK ?_|(refine sB ?_;repeat'(first|refine sb0 ?_|(refine aA ?_ ?_<;>intro hb<;>try exact cls)))|(refine bn.lD (by have J5:inB x.vI 0 1439=true:=aO;have h78:=SL J5;omega) ?_)|((with_reducible refine aZ ?_);first|(refine aT (rZ _) rfl rfl ?_)|(refine aT (iy _ _ _) rfl rfl ?_))|refine sD ?_|(refine au [] rfl rfl rfl ⟨?_,rfl⟩;conv=>lhs;whnf)))
 all_goals simp_all[tK]
theorem YW(a:List jh):ak Tryz.prog 76 G0 0 [] [.sl 2 (a.map iK)] (fun d os=>d= .bool (holdsB a)∧os=[]):=by
 refine aF Tryz.func76 rfl aB rfl (fun w0 F0 lent β0=> ?_)
 repeat'(first|refine sC ?_|((with_reducible refine aj ?_);first|(refine sS ?_;intro Q' hn he hr)|refine sA ?_)|(refine sH ?_;clear hn he hr Q')|((conv=>whnf);first|refine sK ?_|(refine sB ?_;repeat'(refine aA ?_ ?_<;>intro hb<;>try exact cls))|(refine sL ?_;intro hlen)|(refine au [] rfl rfl rfl ⟨?_,rfl⟩;conv=>lhs;whnf)))
 ·rw[adW ah]
 refine aQ (fun k:Nat=>[(2,.bool false),(8,.sl 2 (a.map iK)),(0,.sl 2 (a.map iK)),(9,.int .i64 a.length),(10,.int .i64 k)]) (fun _=>[]) (fun k=>k≤a.length∧jT holdB tC a k) (fun k=>a.length-k) 0 ⟨by omega,ng⟩ aI (fun k hk Q' hn he hr=> ?_)
 repeat'(first|refine sC ?_|((with_reducible refine aj ?_);first|(refine sS ?_;intro Q' hn he hr)|refine sA ?_)|(refine sH ?_;clear hn he hr Q')|refine sO ?_|((conv=>whnf);first|refine sK ?_|(refine sB ?_;repeat'(first|refine sb0 ?_|(refine aA ?_ ?_<;>intro hb<;>try exact cls)))|((with_reducible refine aZ ?_);(refine aT (iQ _ _ _) rfl rfl ?_))|refine sP ?_|(refine sE ?_;intro x hx)|(refine sF ?_;intro i y hi hy)|refine sD ?_|(refine au [] rfl rfl rfl ⟨?_,rfl⟩;conv=>lhs;whnf)|(refine sH ?_;clear hn he hr Q')))
 all_goals first
  |(have h9:=mW (p:=holdB) (lt:=tC) hx (by simp only[holdB,Bool.and_eq_false_iff];first|(left;assumption)|(right;assumption));simp[holdsB,h9];done)
  |(have h9:=mX (p:=holdB) (lt:=tC) hx ah hy (by simp only[tC,decide_eq_false_iff_not];omega);simp[holdsB,h9];done)
  |(refine⟨k+1,⟨by omega,mZ hk.2 hx (by simp only[holdB,Bool.and_eq_true];exact⟨by assumption,by assumption⟩) (fun i' y' hi' hy'=> ?_)⟩,by omega,aI⟩;first|(exfalso;omega)|(obtain rfl:i'=i:=ah;rw[hy] at hy';cases hy';exact(by simp only[tC,decide_eq_true_eq];omega)))
  |(have h9:=iF hk.2 ah;simp[holdsB,h9];done)
  |(have h9:=iF hk.2 ah;simp[holdsB,h9];omega)
  |trace_state
theorem aax(n:Int):ak Tryz.prog 125 G0 0 [] [.int .i64 n] (fun d os=>d= .bool (inB n 0 7200000)∧os=[]):=by
 refine aF Tryz.func125 rfl aB rfl (fun w0 F0 lent β0=> ?_)
 repeat'(first|refine sC ?_|((with_reducible refine aj ?_);first|(refine sS ?_;intro Q' hn he hr)|refine sA ?_)|(refine sH ?_;clear hn he hr Q')|((conv=>whnf);first|refine sK ?_|((with_reducible refine aH ?_);(refine aG (iy _ _ _) rfl rfl ?_))|(refine au [] rfl rfl rfl ⟨?_,rfl⟩;conv=>lhs;whnf)))
theorem aaz(a:List jh):ak Tryz.prog 56 G0 0 [] [.sl 2 (a.map iK)] (fun d os=>d= .bool (holdsB a)∧os=[]):=by
 refine aF Tryz.func56 rfl aB rfl (fun w0 F0 lent β0=> ?_)
 repeat'(first|refine sC ?_|((with_reducible refine aj ?_);first|(refine sS ?_;intro Q' hn he hr)|refine sA ?_)|(refine sH ?_;clear hn he hr Q')|((conv=>whnf);refine sK ?_))
 refine aQ (fun k:Nat=>[(2,.bool false),(0,.sl 2 (a.map iK)),(3,.int .i64 k)]) (fun _=>[]) (fun k=>k≤a.length∧jT holdB tC a k) (fun k=>a.length-k) 0 ⟨by omega,ng⟩ aI (fun k hk Q' hn he hr=> ?_)
 repeat'(first|refine sC ?_|((with_reducible refine aj ?_);first|(refine sS ?_;intro Q' hn he hr)|refine sA ?_)|(refine sH ?_;clear hn he hr Q')|refine sO ?_|((conv=>whnf);first|refine sK ?_|(refine sB ?_;repeat'(first|refine sb0 ?_|(refine aA ?_ ?_<;>intro hb<;>try exact cls)))|((with_reducible refine aZ ?_);first|(refine aT (aax _) rfl rfl ?_)|(refine aT (iy _ _ _) rfl rfl ?_))|refine sP ?_|(refine sE ?_;intro x hx)|(refine sF ?_;intro i y hi hy)|(refine sL ?_;intro hlen)|refine sD ?_|(refine au [] rfl rfl rfl ⟨?_,rfl⟩;conv=>lhs;whnf)|(refine sH ?_;clear hn he hr Q')))
 all_goals first
  |(have h9:=mW (p:=holdB) (lt:=tC) hx (by simp only[holdB,Bool.and_eq_false_iff];first|(left;assumption)|(right;assumption));simp[holdsB,h9];done)
  |(have h9:=mX (p:=holdB) (lt:=tC) hx ah hy (by simp only[tC,decide_eq_false_iff_not];omega);simp[holdsB,h9];done)
  |(refine⟨k+1,⟨by omega,mZ hk.2 hx (by simp only[holdB,Bool.and_eq_true];exact⟨by assumption,by assumption⟩) (fun i' y' hi' hy'=> ?_)⟩,by omega,aI⟩;first|(exfalso;omega)|(obtain rfl:i'=i:=ah;rw[hy] at hy';cases hy';exact(by simp only[tC,decide_eq_true_eq];omega)))
  |(have h9:=iF hk.2 ah;simp[holdsB,h9];done)
  |(have h9:=iF hk.2 ah;simp[holdsB,h9];omega)
  |trace_state
theorem Y0(a:List eP):ak Tryz.prog 77 G0 0 [] [.sl 5 (a.map iq)] (fun d os=>d= .bool (oU a)∧os=[]):=by
 refine aF Tryz.func77 rfl aB rfl (fun w0 F0 lent β0=> ?_)
 repeat'(first|refine sC ?_|((with_reducible refine aj ?_);first|(refine sS ?_;intro Q' hn he hr)|refine sA ?_)|(refine sH ?_;clear hn he hr Q')|((conv=>whnf);first|refine sK ?_|(refine sB ?_;repeat'(refine aA ?_ ?_<;>intro hb<;>try exact cls))|(refine sL ?_;intro hlen)|(refine au [] rfl rfl rfl ⟨?_,rfl⟩;conv=>lhs;whnf)))
 ·rw[afh ah]
 refine aQ (fun k:Nat=>[(2,.bool false),(8,.sl 5 (a.map iq)),(0,.sl 5 (a.map iq)),(9,.int .i64 a.length),(10,.int .i64 k)]) (fun _=>[]) (fun k=>k≤a.length∧jT tK zl a k) (fun k=>a.length-k) 0 ⟨by omega,ng⟩ aI (fun k hk Q' hn he hr=> ?_)
 repeat'(first|refine sC ?_|((with_reducible refine aj ?_);first|(refine sS ?_;intro Q' hn he hr)|refine sA ?_)|(refine sH ?_;clear hn he hr Q')|refine sO ?_|((conv=>whnf);first|refine sK ?_|(refine sB ?_;repeat'(first|refine sb0 ?_|(refine aA ?_ ?_<;>intro hb<;>try exact cls)))|((with_reducible refine aZ ?_);(refine aT (Zv _) rfl rfl ?_))|refine sP ?_|(refine sE ?_;intro x hx)|(refine sF ?_;intro i y hi hy)|refine sD ?_|(refine au [] rfl rfl rfl ⟨?_,rfl⟩;conv=>lhs;whnf)|(refine sH ?_;clear hn he hr Q')))
 all_goals first
  |(have h9:=mW (p:=tK) (lt:=zl) hx aO;simp[oU,h9];done)
  |(have h9:=mX (p:=tK) (lt:=zl) hx ah hy aO;simp[oU,h9];done)
  |(refine⟨k+1,⟨by omega,mZ hk.2 hx aO (fun i' y' hi' hy'=> ?_)⟩,by omega,aI⟩;first|(exfalso;omega)|(obtain rfl:i'=i:=ah;rw[hy] at hy';cases hy';assumption))
  |(have h9:=iF hk.2 ah;simp[oU,h9];done)
  |(have h9:=iF hk.2 ah;simp[oU,h9];omega)
theorem aaF(a:List eP):ak Tryz.prog 57 G0 0 [] [.sl 5 (a.map iq)] (fun d os=>d= .bool (oU a)∧os=[]):=by
 refine aF Tryz.func57 rfl aB rfl (fun w0 F0 lent β0=> ?_)
 repeat'(first|refine sC ?_|((with_reducible refine aj ?_);first|(refine sS ?_;intro Q' hn he hr)|refine sA ?_)|(refine sH ?_;clear hn he hr Q')|((conv=>whnf);refine sK ?_))
 refine aQ (fun k:Nat=>[(2,.bool false),(0,.sl 5 (a.map iq)),(3,.int .i64 k)]) (fun _=>[]) (fun k=>k≤a.length∧jT tK zl a k) (fun k=>a.length-k) 0 ⟨by omega,ng⟩ aI (fun k hk Q' hn he hr=> ?_)
 repeat'(first|refine sC ?_|((with_reducible refine aj ?_);first|(refine sS ?_;intro Q' hn he hr)|refine sA ?_)|(refine sH ?_;clear hn he hr Q')|refine sO ?_|((conv=>whnf);first|refine sK ?_|(refine sB ?_;repeat'(first|refine sb0 ?_|(refine aA ?_ ?_<;>intro hb<;>try exact cls)))|((with_reducible refine aZ ?_);(refine lu (aaG _) rfl ?_))|refine sP ?_|(refine sE ?_;intro x hx)|(refine sF ?_;intro i y hi hy)|(refine sL ?_;intro hlen)|refine sD ?_|(refine au [] rfl rfl rfl ⟨?_,rfl⟩;conv=>lhs;whnf)|(refine sH ?_;clear hn he hr Q')))
 all_goals first
  |(have h9:=mW (p:=tK) (lt:=zl) hx aO;simp[oU,h9];done)
  |(have h9:=mX (p:=tK) (lt:=zl) hx ah hy aO;simp[oU,h9];done)
  |(refine⟨k+1,⟨by omega,mZ hk.2 hx aO (fun i' y' hi' hy'=> ?_)⟩,by omega,aI⟩;first|(exfalso;omega)|(obtain rfl:i'=i:=ah;rw[hy] at hy';cases hy';assumption))
  |(have h9:=iF hk.2 ah;simp[oU,h9];done)
  |(have h9:=iF hk.2 ah;simp[oU,h9];omega)
end Go.Eng
