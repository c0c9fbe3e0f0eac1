/-
  Names: the contracts of the program's function and of the reference's.
  No conditions.
-/
import Derived.Test.YtocoppijdodffaaGreatDoorED
import Derived.Test.YtocoppijdodffaaGreatDoorProg
set_option linter.unusedVariables false
set_option linter.unusedSimpArgs false
set_option maxHeartbeats 4000000
namespace Go.Eng
open Go Go.RowKit Go.Proofs
set_option maxRecDepth 100000
def inB(n l h:Int):Bool:=decide (l≤n∧n≤h)
theorem iQ(n l h:Int):ak Tryz.prog 151 G0 0 [] [.int .i64 n, .int .i64 l, .int .i64 h] (fun d os=>d= .bool (inB n l h)∧os=[]):=by
 refine aF Tryz.func151 rfl aB rfl (fun w0 F0 lent β0=> ?_)
 repeat'(first|refine sC ?_|((with_reducible refine aj ?_);first|(refine sS ?_;intro Q' hn he hr)|refine sA ?_)|(refine sH ?_;clear hn he hr Q')|((conv=>whnf);first|refine sK ?_|(refine sB ?_;repeat'(first|refine sb0 ?_|(refine aA ?_ ?_<;>intro hb<;>try exact cls)))|(refine au [] rfl rfl rfl ⟨?_,rfl⟩;conv=>lhs;whnf)))
 all_goals simp[inB]
 all_goals omega
theorem iy(n l h:Int):ak Tryz.prog 118 G0 0 [] [.int .i64 n, .int .i64 l, .int .i64 h] (fun d os=>d= .bool (inB n l h)∧os=[]):=by
 refine aF Tryz.func118 rfl aB rfl (fun w0 F0 lent β0=> ?_)
 repeat'(first|refine sC ?_|((with_reducible refine aj ?_);first|(refine sS ?_;intro Q' hn he hr)|refine sA ?_)|(refine sH ?_;clear hn he hr Q')|((conv=>whnf);first|refine sK ?_|(refine sB ?_;repeat'(first|refine sb0 ?_|(refine aA ?_ ?_<;>intro hb<;>try exact cls)))|(refine au [] rfl rfl rfl ⟨?_,rfl⟩;conv=>lhs;whnf)))
 all_goals simp[inB]
 all_goals omega
theorem O4(a b:Int):ak Tryz.prog 247 G0 0 [] [.int .i64 a, .int .i64 b] (fun d os=>d= .int .i64 (min a b)∧os=[]):=by
 refine aF Tryz.func247 rfl aB rfl (fun w0 F0 lent β0=> ?_)
 repeat'(first|refine sC ?_|((with_reducible refine aj ?_);first|(refine sS ?_;intro Q' hn he hr)|refine sA ?_)|(refine sH ?_;clear hn he hr Q')|((conv=>whnf);first|refine sK ?_|(refine sB ?_;repeat'(refine aA ?_ ?_<;>intro hb<;>try exact cls))|(refine au [] rfl rfl rfl ⟨?_,rfl⟩;conv=>lhs;whnf)))
 all_goals(refine congrArg (D.int _) ?_;omega)
theorem EX(a b:Int):ak Tryz.prog 246 G0 0 [] [.int .i64 a, .int .i64 b] (fun d os=>d= .int .i64 (max a b)∧os=[]):=by
 refine aF Tryz.func246 rfl aB rfl (fun w0 F0 lent β0=> ?_)
 repeat'(first|refine sC ?_|((with_reducible refine aj ?_);first|(refine sS ?_;intro Q' hn he hr)|refine sA ?_)|(refine sH ?_;clear hn he hr Q')|((conv=>whnf);first|refine sK ?_|(refine sB ?_;repeat'(refine aA ?_ ?_<;>intro hb<;>try exact cls))|(refine au [] rfl rfl rfl ⟨?_,rfl⟩;conv=>lhs;whnf)))
 all_goals(refine congrArg (D.int _) ?_;omega)
def bQ(n:Int):Int:=if n<0 then-n else n
theorem ET(n:Int)(h: -9223372036854775807≤n∧n≤9223372036854775807):ak Tryz.prog 312 G0 0 [] [.int .i64 n] (fun d os=>d= .int .i64 (bQ n)∧os=[]):=by
 refine aF Tryz.func312 rfl aB rfl (fun w0 F0 lent β0=> ?_)
 repeat'(first|refine sC ?_|((with_reducible refine aj ?_);first|(refine sS ?_;intro Q' hn he hr)|refine sA ?_)|(refine sH ?_;clear hn he hr Q')|((conv=>whnf);first|refine sK ?_|(refine sB ?_;repeat'(refine aA ?_ ?_<;>intro hb<;>try exact cls))|refine sP ?_|(refine au [] rfl rfl rfl ⟨?_,rfl⟩;conv=>lhs;whnf)))
 all_goals(refine congrArg (D.int _) ?_;unfold bQ;split<;>omega)
theorem O5(n:Int)(h: -9223372036854775807≤n∧n≤9223372036854775807):ak Tryz.prog 352 G0 0 [] [.int .i64 n] (fun d os=>d= .int .i64 (bQ n)∧os=[]):=by
 refine aF Tryz.func352 rfl aB rfl (fun w0 F0 lent β0=> ?_)
 repeat'(first|refine sC ?_|((with_reducible refine aj ?_);first|(refine sS ?_;intro Q' hn he hr)|refine sA ?_)|(refine sH ?_;clear hn he hr Q')|((conv=>whnf);first|refine sK ?_|(refine sB ?_;repeat'(refine aA ?_ ?_<;>intro hb<;>try exact cls))|refine sP ?_|(refine au [] rfl rfl rfl ⟨?_,rfl⟩;conv=>lhs;whnf)))
 all_goals(refine congrArg (D.int _) ?_;unfold bQ;split<;>omega)
end Go.Eng
set_option linter.unusedVariables false
set_option linter.unusedSimpArgs false
set_option maxHeartbeats 4000000
namespace Go.Eng
open Go Go.RowKit Go.Proofs
set_option maxRecDepth 100000
def l9(c:UInt8):Bool:=decide (97≤c.toNat)&&decide (c.toNat≤122)
def pV(c:UInt8):Bool:=decide (48≤c.toNat)&&decide (c.toNat≤57)
def headB(l:List UInt8):Bool:=match l with
 |[]=>false
 |c::_=>l9 c
def nameB(l:List UInt8):Bool:=decide (1≤l.length)&&(decide (l.length≤10)&&(headB l&&l.all fun c=>l9 c||pV c))
theorem Dc(c:UInt8):ak Tryz.prog 194 G0 0 [] [.int .u8 c.toNat] (fun d os=>d= .bool (l9 c)∧os=[]):=by
 refine aF Tryz.func194 rfl aB rfl (fun w0 F0 lent β0=> ?_)
 repeat'(first|refine sC ?_|((with_reducible refine aj ?_);first|(refine sS ?_;intro Q' hn he hr)|refine sA ?_)|(refine sH ?_;clear hn he hr Q')|((conv=>whnf);first|refine sK ?_|(refine sB ?_;repeat'(first|refine sb0 ?_|(refine aA ?_ ?_<;>intro hb<;>try exact cls)))|(refine au [] rfl rfl rfl ⟨?_,rfl⟩;conv=>lhs;whnf)))
 all_goals(refine congrArg D.bool ?_;rw[Bool.eq_iff_iff];simp only[l9,Bool.and_eq_true,Bool.or_eq_true,decide_eq_true_eq,Bool.not_eq_true',decide_eq_false_iff_not,cond_true,cond_false,Bool.true_and,Bool.false_and,Bool.and_true,Bool.and_false,Bool.false_or,Bool.or_false,Bool.true_or,Bool.or_true,reduceCtorEq,true_iff,false_iff,iff_true,iff_false];omega)
theorem EY(c:UInt8):ak Tryz.prog 195 G0 0 [] [.int .u8 c.toNat] (fun d os=>d= .bool (pV c)∧os=[]):=by
 refine aF Tryz.func195 rfl aB rfl (fun w0 F0 lent β0=> ?_)
 repeat'(first|refine sC ?_|((with_reducible refine aj ?_);first|(refine sS ?_;intro Q' hn he hr)|refine sA ?_)|(refine sH ?_;clear hn he hr Q')|((conv=>whnf);first|refine sK ?_|(refine sB ?_;repeat'(first|refine sb0 ?_|(refine aA ?_ ?_<;>intro hb<;>try exact cls)))|(refine au [] rfl rfl rfl ⟨?_,rfl⟩;conv=>lhs;whnf)))
 all_goals(refine congrArg D.bool ?_;rw[Bool.eq_iff_iff];simp only[pV,Bool.and_eq_true,Bool.or_eq_true,decide_eq_true_eq,Bool.not_eq_true',decide_eq_false_iff_not,cond_true,cond_false,Bool.true_and,Bool.false_and,Bool.and_true,Bool.and_false,Bool.false_or,Bool.or_false,Bool.true_or,Bool.or_true,reduceCtorEq,true_iff,false_iff,iff_true,iff_false];omega)
theorem rX(l:List UInt8):ak Tryz.prog 154 G0 0 [] [.str l] (fun d os=>d= .bool (nameB l)∧os=[]):=by
 refine aF Tryz.func154 rfl aB rfl (fun w0 F0 lent β0=> ?_)
 cases l with
 |nil=>
  have hl0:([]:List UInt8).length=0:=rfl
  repeat'(first|refine sC ?_|((with_reducible refine aj ?_);first|(refine sS ?_;intro Q' hn he hr)|refine sA ?_)|(refine sH ?_;clear hn he hr Q')|((conv=>whnf);first|refine sK ?_|(refine sB ?_;repeat'(first|refine sb0 ?_|(refine aA ?_ ?_<;>intro hb<;>try exact cls)))|refine sP ?_|(refine au [] rfl rfl rfl ⟨?_,rfl⟩;conv=>lhs;whnf)))
  all_goals rfl
 |cons c r=>
  have hl1:(c::r).length=r.length+1:=List.length_cons
  repeat'(first|refine sC ?_|((with_reducible refine aj ?_);first|(refine sS ?_;intro Q' hn he hr)|refine sA ?_)|(refine sH ?_;clear hn he hr Q')|((conv=>whnf);first|refine sK ?_|(refine sB ?_;repeat'(first|refine sb0 ?_|(refine aA ?_ ?_<;>intro hb<;>try exact cls)))|(refine iJ.lit 0 rfl rfl ?_)|(refine sL ?_;intro hlen)|(refine au [] rfl rfl rfl ⟨?_,rfl⟩;conv=>lhs;whnf)))
  ·simp[nameB];omega
  ·simp[nameB,headB,l9];omega
  ·simp[nameB,headB,l9];omega
  ·refine aQ (fun k:Nat=>[(0,.str (c::r)),(3,.int .i64 k)]) (fun _=>[]) (fun k=>k≤(c::r).length∧uF (fun c=>l9 c||pV c) (c::r) k) (fun k=>(c::r).length-k) 0 ⟨by omega,Cj⟩ aI (fun k hk Q' hn he hr=> ?_)
   repeat'(first|refine sC ?_|((with_reducible refine aj ?_);first|(refine sS ?_;intro Q' hn he hr)|refine sA ?_)|(refine sH ?_;clear hn he hr Q')|((conv=>whnf);first|refine sK ?_|(refine sB ?_;repeat'(first|refine sb0 ?_|(refine aA ?_ ?_<;>intro hb<;>try exact cls)))|refine sP ?_|(refine sE ?_;intro x hx)|(refine sL ?_;intro hlen)|(refine au [] rfl rfl rfl ⟨?_,rfl⟩;conv=>lhs;whnf)|(refine sH ?_;clear hn he hr Q')))
   all_goals first
    |exact⟨k+1,⟨by omega,Ci hk.2 ‹(c::r)[k]? =some _› (by simp[l9,pV];omega)⟩,by omega,aI⟩
    |(have h9:=Cm (p:=fun c=>l9 c||pV c) ‹(c::r)[k]? =some _› (by simp[l9,pV];omega);simp[nameB,h9];done)
    |(have h9:=CB hk.2 ah;rw[nameB,h9];simp[headB,l9];omega)
theorem rZ(l:List UInt8):ak Tryz.prog 128 G0 0 [] [.str l] (fun d os=>d= .bool (nameB l)∧os=[]):=by
 refine aF Tryz.func128 rfl aB rfl (fun w0 F0 lent β0=> ?_)
 cases l with
 |nil=>
  have hl0:([]:List UInt8).length=0:=rfl
  repeat'(first|refine sC ?_|((with_reducible refine aj ?_);first|(refine sS ?_;intro Q' hn he hr)|refine sA ?_)|(refine sH ?_;clear hn he hr Q')|((conv=>whnf);first|refine sK ?_|(refine sB ?_;repeat'(first|refine sb0 ?_|(refine aA ?_ ?_<;>intro hb<;>try exact cls)))|(refine au [] rfl rfl rfl ⟨?_,rfl⟩;conv=>lhs;whnf)))
  all_goals rfl
 |cons c r=>
  have hl1:(c::r).length=r.length+1:=List.length_cons
  repeat'(first|refine sC ?_|((with_reducible refine aj ?_);first|(refine sS ?_;intro Q' hn he hr)|refine sA ?_)|(refine sH ?_;clear hn he hr Q')|((conv=>whnf);first|refine sK ?_|(refine sB ?_;repeat'(first|refine sb0 ?_|(refine aA ?_ ?_<;>intro hb<;>try exact cls)))|(refine iJ.lit 0 rfl rfl ?_)|((with_reducible refine aH ?_);(refine aG (Dc _) rfl rfl ?_))|(refine sL ?_;intro hlen)|(refine au [] rfl rfl rfl ⟨?_,rfl⟩;conv=>lhs;whnf)))
  ·simp[nameB];omega
  ·simp[nameB,headB,hb]
  ·refine aQ (fun k:Nat=>[(0,.str (c::r)),(3,.int .i64 k)]) (fun _=>[]) (fun k=>k≤(c::r).length∧uF (fun c=>l9 c||pV c) (c::r) k) (fun k=>(c::r).length-k) 0 ⟨by omega,Cj⟩ aI (fun k hk Q' hn he hr=> ?_)
   repeat'(first|refine sC ?_|((with_reducible refine aj ?_);first|(refine sS ?_;intro Q' hn he hr)|refine sA ?_)|(refine sH ?_;clear hn he hr Q')|((conv=>whnf);first|refine sK ?_|(refine sB ?_;repeat'(first|refine sb0 ?_|(refine aA ?_ ?_<;>intro hb<;>try exact cls)))|((with_reducible refine aH ?_);first|(refine aG (Dc _) rfl rfl ?_)|(refine aG (EY _) rfl rfl ?_))|refine sP ?_|(refine sE ?_;intro x hx)|(refine sL ?_;intro hlen)|(refine au [] rfl rfl rfl ⟨?_,rfl⟩;conv=>lhs;whnf)|(refine sH ?_;clear hn he hr Q')))
   all_goals first
    |exact⟨k+1,⟨by omega,Ci hk.2 ‹(c::r)[k]? =some _› zL⟩,by omega,aI⟩
    |(have h9:=Cm (p:=fun c=>l9 c||pV c) ‹(c::r)[k]? =some _› zL;simp[nameB,h9];done)
    |(have h9:=CB hk.2 ah;rw[nameB,h9];simp[headB, *];omega)
end Go.Eng
