/-
  Contracts of functions of the program and of the reference, and plain laws: a bundle of texts.
  No conditions.
-/
import Derived.Test.YtocoppijdodffaaGreatDoorTX
import Derived.Test.YtocoppijdodffaaGreatDoorAX
set_option linter.unusedVariables false
set_option linter.unusedSimpArgs false
set_option maxHeartbeats 4000000
namespace Go.Eng
open Go Ieee
set_option maxRecDepth 100000
theorem acu(neg:Bool)(n drop:Nat):Toward.even.cut neg n drop≤n/(1<<<min drop (n.log2+2))+1:=by
 have h: ∀b:Bool,b.toNat≤1:=by decide
 show n/(1<<<min drop (n.log2+2))+Bool.toNat _≤_
 exact Nat.add_le_add_left (h _) _
theorem acv(neg:Bool)(n:Nat):Toward.even.cut neg n 0=n:=by
 unfold Toward.cut
 simp[Nat.mod_one]
theorem Vq(mag:Nat)(place:Int)(L:Nat)(hL:(max (place+mag.log2-52) (-1074)+1074).toNat≤L)(hL2:L≤2000):
 ∃m p,double.read (double.nearest false mag place)= .number false m p∧m<2^53∧ -1074≤p∧p≤ -1074+L+1:=by
 have e1:double.fractionBits=52:=rfl
 have e2:double.leastPlace= -1074:=by decide
 have e3:double.binade=2^52:=rfl
 have e4:double.infRung=2047*2^52:=by decide
 have e5:double.signWeight=2^63:=by decide
 obtain⟨r,hr,hrl⟩: ∃r,double.nearest false mag place=r∧r≤L*2^52+2^53:=by
  refine⟨_,rfl,?_⟩
  unfold Format.nearest
  split
  ·exact Nat.zero_le _
  ·rename_i hm
   simp only[Format.word,Bool.false_eq_true,if_false,e1,e2,e3]
   refine Nat.le_trans (Nat.min_le_left _ _) ?_
   generalize hlast:max (place+(mag.log2:Int)-52) (-1074)=last at hL⊢
   have h1:(last- -1074).toNat≤L:=by rw[show last- -1074=last+1074 by omega];exact hL
   have h2:Toward.even.cut false (mag<<<(place-last).toNat) (last-place).toNat≤2^53:=by
    have hlt:=Nat.lt_log2_self (n:=mag)
    have hp:place+(mag.log2:Int)-52≤last:=by omega
    rcases Int.lt_or_le place last with hc|hc
    ·rw[show(place-last).toNat=0 by omega,Nat.shiftLeft_zero]
     refine Nat.le_trans (acu _ _ _) ?_
     rw[Nat.one_shiftLeft]
     have h3:mag/2^min (last-place).toNat (mag.log2+2)<2^53:=by
      rw[Nat.div_lt_iff_lt_mul (Nat.two_pow_pos _),←Nat.pow_add]
      exact Nat.lt_of_lt_of_le hlt (Nat.pow_le_pow_right ah ah)
     omega
    ·rw[show(last-place).toNat=0 by omega,acv,Nat.shiftLeft_eq]
     have h3:mag*2^(place-last).toNat<2^(mag.log2+1)*2^(place-last).toNat:=Nat.mul_lt_mul_of_pos_right hlt (Nat.two_pow_pos _)
     rw[←Nat.pow_add] at h3
     exact Nat.le_trans (Nat.le_of_lt h3) (Nat.pow_le_pow_right ah ah)
   exact Nat.add_le_add (Nat.mul_le_mul_right _ h1) h2
 have hr2:r<2047*2^52:=by omega
 rw[hr]
 unfold Format.read
 simp only[e2,e3,e4,e5]
 have h0:r/2^63=0:=Nat.div_eq_of_lt ah
 have h1:r % 2^63=r:=Nat.mod_eq_of_lt ah
 rw[h0,h1]
 rcases Nat.lt_or_ge r (2^52) with hc|hc
 ·rw[if_pos hc]
  exact⟨_,_,rfl,by omega,by omega,by omega⟩
 ·rw[if_neg ah,if_pos hr2]
  refine⟨_,_,rfl,?_,by omega,?_⟩
  ·have:=Nat.mod_lt r (show 2^52>0 by omega)
   omega
  ·have:r/2^52≤L+2:=by
    have:=Nat.div_le_div_right (c:=2^52) hrl
    omega
   omega
theorem MX(n:Nat): ∀(todo root:Nat),root*root≤n→Datum.rootFrom n todo root*Datum.rootFrom n todo root≤n
 |0,root,h=>h
 |todo+1,root,h=>by
  unfold Datum.rootFrom
  simp only
  split
  ·rename_i h2;exact MX n todo _ h2
  ·exact MX n todo _ h
theorem agN(n:Int)(h:0<n∧n≤9223372036854775807): ∃r m,double.sqrt (floatOfInt .f64 n)=some r∧floatToIntVal .f64 r .i64=some m∧0≤m∧m≤9223372036854775807:=by
 have hx:floatOfInt .f64 n=double.nearest false n.natAbs 0:=by
  show double.write (.number (n<0) n.natAbs 0)=_
  rw[decide_eq_false ah];rfl
 have ahz:n.natAbs.log2≤62:=by
  have:=(Nat.log2_lt (n:=n.natAbs) (k:=63) ah).2 ah
  omega
 obtain⟨m,p,hm,hmb,hp1,hp2⟩:=Vq n.natAbs 0 1084 ah ah
 rw[hx]
 unfold Format.sqrt
 rw[hm]
 have key: ∃M P,Datum.root (double.fractionBits+2) (.number false m p)=some (.number false M P)∧(max (P+(M.log2:Int)-52) (-1074)+1074).toNat≤1060:=by
  unfold Datum.root
  simp only
  split
  ·rename_i h0
   subst h0
   refine⟨0,p,rfl,?_⟩
   simp only[show Nat.log2 0=0 by decide]
   omega
  ·rename_i h0
   refine⟨_,_,rfl,?_⟩
   rw[show double.fractionBits+2=54 from rfl]
   have hl:m.log2≤52:=by
    have:=(Nat.log2_lt (n:=m) (k:=53) ah).2 hmb
    omega
   generalize hmore:2*54-m.log2+((p-((2*54-m.log2:Nat):Int)) % 2).toNat=more
   have ahB:56≤more∧more≤109-m.log2:=by omega
   have hn:m<<<more<2^110:=by
    rw[Nat.shiftLeft_eq]
    have h1:=Nat.lt_log2_self (n:=m)
    have h2:m*2^more<2^(m.log2+1)*2^more:=Nat.mul_lt_mul_of_pos_right h1 (Nat.two_pow_pos _)
    rw[←Nat.pow_add] at h2
    exact Nat.lt_of_lt_of_le h2 (Nat.pow_le_pow_right ah ah)
   have SA:=MX (m<<<more) ((m<<<more).log2/2+1) 0 (Nat.zero_le _)
   generalize hw:Datum.rootFrom (m<<<more) ((m<<<more).log2/2+1) 0=whole at SA⊢
   have hwb:whole<2^55:=by
    rcases Nat.lt_or_ge whole (2^55) with h1|h1
    ·exact h1
    ·have:=Nat.mul_le_mul h1 h1
     omega
   have hb: ∀b:Bool,b.toNat≤1:=by decide
   have hM:=hb (whole*whole != m<<<more)
   generalize (whole*whole != m<<<more).toNat=bt at hM⊢
   have hlM:(2*whole+bt).log2≤55:=by
    rcases Nat.eq_zero_or_pos (2*whole+bt) with h1|h1
    ·rw[h1];decide
    ·have:=(Nat.log2_lt (n:=2*whole+bt) (k:=56) ah).2 ah
     omega
   omega
 obtain⟨M,P,hroot,hL⟩:=key
 rw[hroot]
 obtain⟨m2,p2,hm2,ahA,hq1,hq2⟩:=Vq M P 1060 hL ah
 have hcut:Toward.zero.cut false m2 (-p2).toNat≤m2:=by
  unfold Toward.cut
  show m2/_+0≤m2
  exact Nat.div_le_self _ _
 refine⟨double.nearest false M P,(Toward.zero.cut false m2 (-p2).toNat:Nat),rfl,?_,by omega,by omega⟩
 unfold floatToIntVal
 have hd:(FloatKind.f64.decode (double.nearest false M P)).toInt .zero=some ((Toward.zero.cut false m2 (-p2).toNat:Nat):Int):=by
  show(double.read (double.nearest false M P)).toInt .zero=_
  rw[hm2]
  unfold Datum.toInt Datum.integral
  simp only
  rw[show p2.toNat=0 by omega,Nat.shiftLeft_zero]
  rfl
 rw[hd]
 simp only
 rw[if_pos]
 exact⟨by show(-9223372036854775808:Int)≤_;omega,by show _≤(9223372036854775807:Int);omega⟩
end Go.Eng
namespace Go.Eng
open Go Go.RowKit Go.Proofs
set_option maxRecDepth 100000
theorem CV(a:Int)(ha:bU a):ak Tryz.prog 280 GS 0 [] [.int .i64 a] (fun d os=>d= .int .i64 (lC a)∧os=[]):=by
 unfold bU at ha
 refine aF Tryz.func280 rfl aB rfl (fun w0 F0 lent β0=> ?_)
 repeat'(first|refine sC ?_|((with_reducible refine aj ?_);first|(refine sS ?_;intro Q' hn he hr)|refine sA ?_)|(refine sH ?_;clear hn he hr Q')|((conv=>whnf);first|refine sK ?_|((with_reducible refine aH ?_);first|(refine aG (ak.aU (uG a ha)) rfl rfl ?_)|(refine aG (zW _ eY) rfl rfl ?_))|refine sP ?_|(refine au [] rfl rfl rfl ⟨?_,rfl⟩;conv=>lhs;whnf)))
 all_goals rfl
theorem EZ(a:Int)(ha:bU a):ak Tryz.prog 261 G0 0 [] [.int .i64 a] (fun d os=>d= .int .i64 (lC a)∧os=[]):=by
 unfold bU at ha
 refine aF Tryz.func261 rfl aB rfl (fun w0 F0 lent β0=> ?_)
 repeat'(first|refine sC ?_|((with_reducible refine aj ?_);first|(refine sS ?_;intro Q' hn he hr)|refine sA ?_)|(refine sH ?_;clear hn he hr Q')|((conv=>whnf);first|refine sK ?_|((with_reducible refine aH ?_);first|(refine aG (zY a ha) rfl rfl ?_)|(refine aG (Df _ eY) rfl rfl ?_))|refine sP ?_|(refine au [] rfl rfl rfl ⟨?_,rfl⟩;conv=>lhs;whnf)))
 all_goals rfl
def fO(lG kM:Int):bI:=⟨fU (lC kM*lC lG) 1000000,fU (lC kM*jI lG) 1000000,jI kM⟩
def fE(m:Int)(v:bI):Prop:=(-m≤v.fX∧v.fX≤m)∧(-m≤v.fY∧v.fY≤m)∧(-m≤v.fZ∧v.fZ≤m)
theorem sN(lG kM:Int):fE 1000000 (fO lG kM):=by
 have h1:=bH (nK kM) (nK lG) ah
 have h2:=bH (nK kM) (um lG) ah
 exact⟨lI ah ah ah,lI ah ah ah,um kM⟩
theorem CY(lG kM:Int)(h1:bU lG)(h2:bU kM):ak Tryz.prog 284 GS 0 [] [.int .i64 lG, .int .i64 kM] (fun d os=>d= .agg (eu (fO lG kM))∧os=[]):=by
 have hb1:=bH (nK kM) (nK lG) ah
 have hb2:=bH (nK kM) (um lG) ah
 refine aF Tryz.func284 rfl aB rfl (fun w0 F0 lent β0=> ?_)
 repeat'(first|refine sC ?_|((with_reducible refine aj ?_);first|(refine sS ?_;intro Q' hn he hr)|refine sA ?_)|(refine sH ?_;clear hn he hr Q')|((conv=>whnf);first|refine sK ?_|((with_reducible refine aH ?_);first|(refine aG (CV _ h1) rfl rfl ?_)|(refine aG (CV _ h2) rfl rfl ?_)|(refine aG (zW _ h1) rfl rfl ?_)|(refine aG (zW _ h2) rfl rfl ?_)|(refine aG (ak.aU (zX _ _ ah ah)) rfl rfl ?_))|refine sP ?_|(refine au [] rfl rfl rfl ⟨?_,rfl⟩;conv=>lhs;whnf)))
 all_goals rfl
theorem Dh(lG kM:Int)(h1:bU lG)(h2:bU kM):ak Tryz.prog 290 G0 0 [] [.int .i64 lG, .int .i64 kM] (fun d os=>d= .agg (eu (fO lG kM))∧os=[]):=by
 have hb1:=bH (nK kM) (nK lG) ah
 have hb2:=bH (nK kM) (um lG) ah
 refine aF Tryz.func290 rfl aB rfl (fun w0 F0 lent β0=> ?_)
 repeat'(first|refine sC ?_|((with_reducible refine aj ?_);first|(refine sS ?_;intro Q' hn he hr)|refine sA ?_)|(refine sH ?_;clear hn he hr Q')|((conv=>whnf);first|refine sK ?_|((with_reducible refine aH ?_);first|(refine aG (EZ _ h1) rfl rfl ?_)|(refine aG (EZ _ h2) rfl rfl ?_)|(refine aG (Df _ h1) rfl rfl ?_)|(refine aG (Df _ h2) rfl rfl ?_)|(refine aG (vC _ _ ah ah) rfl rfl ?_))|refine sP ?_|(refine au [] rfl rfl rfl ⟨?_,rfl⟩;conv=>lhs;whnf)))
 all_goals rfl
def Dn(a b:bI):bI:=⟨fU (a.fY*b.fZ-a.fZ*b.fY) 1000000,fU (a.fZ*b.fX-a.fX*b.fZ) 1000000,fU (a.fX*b.fY-a.fY*b.fX) 1000000⟩
def Ai(a b:bI):Int:=fU (a.fX*b.fX+a.fY*b.fY+a.fZ*b.fZ) 1000000
theorem yN{a b:bI}(ha:fE 1000000 a)(hb:fE 1000000 b):fE 2000000 (Dn a b):=by
 obtain⟨ax,ay,az⟩:=ha
 obtain⟨bx,oh,bz⟩:=hb
 have h1:=bH ay bz ah
 have h2:=bH az oh ah
 have h3:=bH az bx ah
 have h4:=bH ax bz ah
 have h5:=bH ax oh ah
 have h6:=bH ay bx ah
 exact⟨lI ah ah ah,lI ah ah ah,lI ah ah ah⟩
theorem QF{a b:bI}(ha:fE 1000000 a)(hb:fE 1000000 b): -3000000≤Ai a b∧Ai a b≤3000000:=by
 obtain⟨ax,ay,az⟩:=ha
 obtain⟨bx,oh,bz⟩:=hb
 have h1:=bH ax bx ah
 have h2:=bH ay oh ah
 have h3:=bH az bz ah
 exact lI ah ah ah
set_option maxHeartbeats 4000000 in
theorem OO(a b:bI)(ha:fE 1000000 a)(hb:fE 1000000 b):ak Tryz.prog 320 G0 0 [] [.agg (eu a), .agg (eu b)] (fun d os=>d= .agg (eu (Dn a b))∧os=[]):=by
 obtain⟨ax,ay,az⟩:=ha
 obtain⟨bx,oh,bz⟩:=hb
 have h1:=bH ay bz ah
 have h2:=bH az oh ah
 have h3:=bH az bx ah
 have h4:=bH ax bz ah
 have h5:=bH ax oh ah
 have h6:=bH ay bx ah
 refine aF Tryz.func320 rfl aB rfl (fun w0 F0 lent β0=> ?_)
 repeat'(first|refine sC ?_|((with_reducible refine aj ?_);first|(refine sS ?_;intro Q' hn he hr)|refine sA ?_)|(refine sH ?_;clear hn he hr Q')|refine sO ?_|((conv=>whnf);first|refine sK ?_|((with_reducible refine aZ ?_);(refine aT (zX _ _ ah ah) rfl rfl ?_))|refine sP ?_|refine sD ?_|(refine au [] rfl rfl rfl ⟨?_,rfl⟩;conv=>lhs;whnf)))
 all_goals rfl
set_option maxHeartbeats 4000000 in
theorem IV(a b:bI)(ha:fE 1000000 a)(hb:fE 1000000 b):ak Tryz.prog 343 G0 0 [] [.agg (eu a), .agg (eu b)] (fun d os=>d= .agg (eu (Dn a b))∧os=[]):=by
 obtain⟨ax,ay,az⟩:=ha
 obtain⟨bx,oh,bz⟩:=hb
 have h1:=bH ay bz ah
 have h2:=bH az oh ah
 have h3:=bH az bx ah
 have h4:=bH ax bz ah
 have h5:=bH ax oh ah
 have h6:=bH ay bx ah
 refine aF Tryz.func343 rfl aB rfl (fun w0 F0 lent β0=> ?_)
 repeat'(first|refine sC ?_|((with_reducible refine aj ?_);first|(refine sS ?_;intro Q' hn he hr)|refine sA ?_)|(refine sH ?_;clear hn he hr Q')|refine sO ?_|((conv=>whnf);first|refine sK ?_|((with_reducible refine aZ ?_);(refine aT (vC _ _ ah ah) rfl rfl ?_))|refine sP ?_|refine sD ?_|(refine au [] rfl rfl rfl ⟨?_,rfl⟩;conv=>lhs;whnf)))
 all_goals rfl
set_option maxHeartbeats 4000000 in
theorem OQ(a b:bI)(ha:fE 1000000 a)(hb:fE 1000000 b):ak Tryz.prog 321 G0 0 [] [.agg (eu a), .agg (eu b)] (fun d os=>d= .int .i64 (Ai a b)∧os=[]):=by
 obtain⟨ax,ay,az⟩:=ha
 obtain⟨bx,oh,bz⟩:=hb
 have h1:=bH ax bx ah
 have h2:=bH ay oh ah
 have h3:=bH az bz ah
 refine aF Tryz.func321 rfl aB rfl (fun w0 F0 lent β0=> ?_)
 repeat'(first|refine sC ?_|((with_reducible refine aj ?_);first|(refine sS ?_;intro Q' hn he hr)|refine sA ?_)|(refine sH ?_;clear hn he hr Q')|((conv=>whnf);first|refine sK ?_|((with_reducible refine aH ?_);(refine aG (zX _ _ ah ah) rfl rfl ?_))|refine sP ?_|(refine au [] rfl rfl rfl ⟨?_,rfl⟩;conv=>lhs;whnf)))
 all_goals rfl
set_option maxHeartbeats 4000000 in
theorem IW(a b:bI)(ha:fE 1000000 a)(hb:fE 1000000 b):ak Tryz.prog 344 G0 0 [] [.agg (eu a), .agg (eu b)] (fun d os=>d= .int .i64 (Ai a b)∧os=[]):=by
 obtain⟨ax,ay,az⟩:=ha
 obtain⟨bx,oh,bz⟩:=hb
 have h1:=bH ax bx ah
 have h2:=bH ay oh ah
 have h3:=bH az bz ah
 refine aF Tryz.func344 rfl aB rfl (fun w0 F0 lent β0=> ?_)
 repeat'(first|refine sC ?_|((with_reducible refine aj ?_);first|(refine sS ?_;intro Q' hn he hr)|refine sA ?_)|(refine sH ?_;clear hn he hr Q')|((conv=>whnf);first|refine sK ?_|((with_reducible refine aH ?_);(refine aG (vC _ _ ah ah) rfl rfl ?_))|refine sP ?_|(refine au [] rfl rfl rfl ⟨?_,rfl⟩;conv=>lhs;whnf)))
 all_goals rfl
end Go.Eng
namespace Go.Eng
open Go Go.RowKit Go.Proofs
set_option maxRecDepth 100000
theorem VH(n:Nat): ∃r:Nat,r*r≤n∧n<(r+1)*(r+1):=by
 induction n with
 |zero=>exact⟨0,by simp,by simp⟩
 |succ n ih=>
  obtain⟨r,h1,h2⟩:=ih
  rcases Nat.lt_or_ge (n+1) ((r+1)*(r+1)) with h|h
  ·exact⟨r,by omega,h⟩
  ·refine⟨r+1,h,?_⟩
   have:(r+1)*(r+1)<(r+1+1)*(r+1+1):=Nat.mul_lt_mul_of_lt_of_lt ah ah
   omega
noncomputable def iH(n:Nat):Nat:=Classical.choose (VH n)
theorem MZ(n:Nat):iH n*iH n≤n∧n<(iH n+1)*(iH n+1):=Classical.choose_spec (VH n)
theorem Gw{n r:Nat}(h1:r*r≤n)(h2:n<(r+1)*(r+1)):iH n=r:=by
 obtain⟨g1,g2⟩:=MZ n
 rcases Nat.lt_trichotomy (iH n) r with h|h|h
 ·have:=Nat.mul_le_mul (show iH n+1≤r from h) (show iH n+1≤r from h)
  omega
 ·exact h
 ·have:=Nat.mul_le_mul (show r+1≤iH n from h) (show r+1≤iH n from h)
  omega
theorem acX{X:Ctx}{f:FuncId}{fn:Func}{x r:Nat}{st:St}{K:D→Prop}(hf:X.P.funcs[f]? =some fn)(hname:(fn.name== "runtime.NumGoroutine")=false)
 (hb:fn.body.isNone=true)(hn:Extern.findNext fn=none)(he:Extern.find fn=some Extern.MathSqrt.sqrt)(hs:Ieee.double.sqrt x=some r)(hk:K (.v (.float .f64 r))):wF X f [.v (.float .f64 x)] st K:=by
 refine acW hf hname hb hn he _ hk fun w F β vs hl hrep=> ?_
 have h0:=(hrep 0 fB).kZ
 refine⟨.float .f64 r,?_, .ro _ _ (.v _)⟩
 have hv:vs=[.float .f64 x]:=by
  match vs,hl with
  |[a],_=>simpa using h0
 rw[hv]
 show(match Ieee.double.sqrt x with
  |some r=>(pure (.float .f64 r):Sem Value)
  |none=>_).run X.P w=_
 rw[hs]
 rfl
theorem ZH(x r:Nat)(hs:Ieee.double.sqrt x=some r):ak Tryz.prog 340 G0 0 [] [.v (.float .f64 x)] (fun d os=>d= .v (.float .f64 r)∧os=[]):=by
 refine aF Tryz.func340 rfl aB rfl (fun w0 F0 lent β0=> ?_)
 repeat'(first|refine sC ?_|((with_reducible refine aj ?_);first|(refine sS ?_;intro Q' hn he hr)|refine sA ?_)|(refine sH ?_;clear hn he hr Q')|((conv=>whnf);first|refine sK ?_|(refine CallS.ext (acX Tryz.func351 aB rfl dA dA hs ?_))|(refine au [] rfl rfl rfl ⟨?_,rfl⟩;conv=>lhs;whnf)))
 all_goals rfl
set_option maxHeartbeats 4000000 in
theorem C9(n:Nat)(hnb:n≤9223372036854775807):ak Tryz.prog 346 G0 0 [] [.int .i64 n] (fun d os=>d= .int .i64 (iH n)∧os=[]):=by
 refine aF Tryz.func346 rfl aB rfl (fun w0 F0 lent β0=> ?_)
 repeat'(first|refine sC ?_|((with_reducible refine aj ?_);first|(refine sS ?_;intro Q' hn he hr)|refine sA ?_)|(refine sH ?_;clear hn he hr Q')|((conv=>whnf);refine sK ?_))
 refine aQ (fun p:Nat×Nat=>[(0,.int .i64 n),(3,.int .i64 p.1),(4,.int .i64 p.2)]) (fun _=>[]) (fun p=>p.1≤p.2∧p.2≤3037000499∧p.1*p.1≤n∧n<(p.2+1)*(p.2+1)) (fun p=>p.2-p.1) (0,3037000499) ⟨by simp,by simp,by simp,by simp;omega⟩ aI (fun p hk Q' hn he hr=> ?_)
 obtain⟨low,high⟩:=p
 obtain⟨h1,h2,h3,h4⟩:=hk
 simp only at h1 h2 h3 h4⊢
 obtain⟨mid,hmid⟩: ∃mid:Nat,mid=(low+high+1)/2:=⟨_,rfl⟩
 have hq:((low:Int)+high+1).tdiv 2=(mid:Int):=by rw[Int.tdiv_eq_ediv_of_nonneg ah];omega
 have hmb:=bH (x:=(mid:Int)) (y:=(mid:Int)) (m:=3037000499) (n:=3037000499) ah ah ah
 repeat'(first|refine sC ?_|((with_reducible refine aj ?_);first|(refine sS ?_;intro Q' hn he hr)|refine sA ?_)|(refine sH ?_;clear hn he hr Q')|((conv=>whnf);first|refine sK ?_|(refine sB ?_;repeat'(refine aA ?_ ?_<;>intro hb<;>try exact cls))|(refine bZ.mk ⟨by omega,?_⟩)|(refine bn.to (mid:Int) hq (wrap64 ah) ?_)|refine sP ?_|(refine au [] rfl rfl rfl ⟨?_,rfl⟩;conv=>lhs;whnf)|(refine sH ?_;clear hn he hr Q')))
 ·rw[←Int.natCast_mul] at hb
  exact⟨(mid,high),⟨by simp;omega,by simp;omega,by simp;omega,by simpa using h4⟩,by simp;omega,aI⟩
 ·rw[←Int.natCast_mul] at hb
  refine⟨(low,mid-1),⟨by simp;omega,by simp;omega,by simpa using h3,?_⟩,by simp;omega,aI⟩
  show n<(mid-1+1)*(mid-1+1)
  rw[show mid-1+1=mid by omega];omega
 ·have:low=high:=by omega
  subst this
  rw[Gw h3 h4]
set_option maxHeartbeats 4000000 in
theorem CX(n:Nat)(hnb:n≤9223372036854775807):ak Tryz.prog 316 G0 0 [] [.int .i64 n] (fun d os=>d= .int .i64 (iH n)∧os=[]):=by
 rcases Nat.eq_zero_or_pos n with rfl|hpos
 ·rw[Gw (n:=0) (r:=0) fB fB]
  refine aF Tryz.func316 rfl aB rfl (fun w0 F0 lent β0=> ?_)
  repeat'(first|refine sC ?_|((with_reducible refine aj ?_);first|(refine sS ?_;intro Q' hn he hr)|refine sA ?_)|(refine sH ?_;clear hn he hr Q')|((conv=>whnf);first|refine sK ?_|(refine sB ?_;repeat'(refine aA ?_ ?_<;>intro hb<;>try exact cls))|(refine au [] rfl rfl rfl ⟨?_,rfl⟩;conv=>lhs;whnf)))
  all_goals rfl
 ·obtain⟨x,m,hx,hm,hm0,hm1⟩:=agN (n:Int) ah
  refine aF Tryz.func316 rfl aB rfl (fun w0 F0 lent β0=> ?_)
  repeat'(first|refine sC ?_|((with_reducible refine aj ?_);first|(refine sS ?_;intro Q' hn he hr)|refine sA ?_)|(refine sH ?_;clear hn he hr Q')|((conv=>whnf);first|refine sK ?_|(refine sB ?_;repeat'(refine aA ?_ ?_<;>intro hb<;>try exact cls))|(refine wG.mk ⟨m,hm,?_⟩)|((with_reducible refine aH ?_);(refine aG (ZH _ x hx) rfl rfl ?_))))
  obtain⟨r0,hr0⟩: ∃r0:Nat,(bif false then(if 3037000499>m then 3037000499 else m) else if 3037000499<m then 3037000499 else m)=(r0:Int)∧r0≤3037000499:=by
   refine⟨(if 3037000499<m then 3037000499 else m).toNat,?_,?_⟩<;>(try simp only[cond_false])<;>split<;>omega
  refine aQ (fun r:Nat=>[(0,.int .i64 n),(3,.int .i64 r)]) (fun _=>[]) (fun r=>r≤3037000499) (fun r=>r) r0 hr0.2 (by refine aC rfl rfl rfl ⟨rfl,?_,trivial⟩;rw[←hr0.1];rfl) (fun r hk Q' hn he hr=> ?_)
  have hmb:=bH (x:=(r:Int)) (y:=(r:Int)) (m:=3037000499) (n:=3037000499) ah ah ah
  repeat'(first|refine sC ?_|((with_reducible refine aj ?_);first|(refine sS ?_;intro Q' hn he hr)|refine sA ?_)|(refine sH ?_;clear hn he hr Q')|((conv=>whnf);first|refine sK ?_|(refine sB ?_;repeat'(refine aA ?_ ?_<;>intro hb<;>try exact cls))|refine sP ?_|(refine sH ?_;clear hn he hr Q')))
  ·rw[←Int.natCast_mul] at hb
   have ahC:r≠0:=fun h=>by rw[h] at hb;omega
   exact⟨r-1,by omega,by omega,aI⟩
  have hle:r*r≤n:=by rw[←Int.natCast_mul] at hb;omega
  refine aQ (fun r:Nat=>[(0,.int .i64 n),(3,.int .i64 r)]) (fun _=>[]) (fun r=>r≤3037000499∧r*r≤n) (fun r=>3037000499-r) r ⟨hk,hle⟩ aI (fun r hk Q' hn he hr=> ?_)
  obtain⟨hk,hle⟩:=hk
  have hmb:=bH (x:=(r:Int)+1) (y:=(r:Int)+1) (m:=3037000500) (n:=3037000500) ah ah ah
  by_cases hlt:r<3037000499
  ·have hmb:=bH (x:=(r:Int)+1) (y:=(r:Int)+1) (m:=3037000499) (n:=3037000499) ah ah ah
   have SA:((r:Int)+1)*((r:Int)+1)=(((r+1)*(r+1):Nat):Int):=by rw[Int.natCast_mul];rfl
   repeat'(first|refine sC ?_|((with_reducible refine aj ?_);first|(refine sS ?_;intro Q' hn he hr)|refine sA ?_)|(refine sH ?_;clear hn he hr Q')|((conv=>whnf);first|refine sK ?_|(refine sB ?_;repeat'(first|refine sb0 ?_|(refine aA ?_ ?_<;>intro hb<;>try exact cls)))|refine sP ?_|(refine au [] rfl rfl rfl ⟨?_,rfl⟩;conv=>lhs;whnf)|(refine sH ?_;clear hn he hr Q')))
   ·exact⟨r+1,⟨by omega,by omega⟩,by omega,aI⟩
   ·rw[Gw hle ah]
  ·obtain rfl:r=3037000499:=by omega
   repeat'(first|refine sC ?_|((with_reducible refine aj ?_);first|(refine sS ?_;intro Q' hn he hr)|refine sA ?_)|(refine sH ?_;clear hn he hr Q')|((conv=>whnf);first|refine sK ?_|(refine sB ?_;repeat'(first|refine sb0 ?_|(refine aA ?_ ?_<;>intro hb<;>try exact cls)))|(refine au [] rfl rfl rfl ⟨?_,rfl⟩;conv=>lhs;whnf)|(refine sH ?_;clear hn he hr Q')))
   rw[Gw hle ah]
end Go.Eng
namespace Go.Eng
open Go Go.RowKit Go.Proofs
set_option maxRecDepth 100000
def yw(v:bI):Nat:=(v.fX*v.fX+v.fY*v.fY+v.fZ*v.fZ).toNat
noncomputable def lenV(v:bI):Int:=iH (yw v)
theorem sq_pos(x:Int):0≤x*x:=by
 rcases Int.lt_or_le x 0 with h|h
 ·have:=Int.mul_nonneg (show 0≤ -x by omega) (show 0≤ -x by omega)
  rwa [Int.neg_mul_neg] at this
 ·exact Int.mul_nonneg h h
theorem NC{v:bI}(h:fE 2000000 v):v.fX*v.fX+v.fY*v.fY+v.fZ*v.fZ=(yw v:Int)∧yw v≤12000000000000:=by
 obtain⟨hx,hy,hz⟩:=h
 have h1:=bH hx hx ah
 have h2:=bH hy hy ah
 have h3:=bH hz hz ah
 have g1:=sq_pos v.fX
 have g2:=sq_pos v.fY
 have g3:=sq_pos v.fZ
 unfold yw
 omega
theorem TM{v:bI}(h:fE 2000000 v):0≤lenV v∧lenV v≤3500000:=by
 have h1:=(NC h).2
 have h2:=(MZ (yw v)).1
 unfold lenV
 refine⟨by omega,?_⟩
 rcases Nat.lt_or_ge 3500000 (iH (yw v)) with h3|h3
 ·have:=Nat.mul_le_mul h3 h3
  omega
 ·omega
theorem OW(v:bI)(h:fE 2000000 v):ak Tryz.prog 319 G0 0 [] [.agg (eu v)] (fun d os=>d= .int .i64 (lenV v)∧os=[]):=by
 obtain⟨hs,hsb⟩:=NC h
 obtain⟨hx,hy,hz⟩:=h
 have h1:=bH hx hx ah
 have h2:=bH hy hy ah
 have h3:=bH hz hz ah
 refine aF Tryz.func319 rfl aB rfl (fun w0 F0 lent β0=> ?_)
 repeat'(first|refine sC ?_|((with_reducible refine aj ?_);first|(refine sS ?_;intro Q' hn he hr)|refine sA ?_)|(refine sH ?_;clear hn he hr Q')|((conv=>whnf);first|refine sK ?_|(refine bn.to (yw v:Int) hs (wrap64 ah) ?_)|((with_reducible refine aH ?_);(refine aG (CX _ ah) rfl rfl ?_))|refine sP ?_|(refine au [] rfl rfl rfl ⟨?_,rfl⟩;conv=>lhs;whnf)))
 all_goals rfl
theorem E5(v:bI)(h:fE 2000000 v):ak Tryz.prog 327 G0 0 [] [.agg (eu v)] (fun d os=>d= .int .i64 (lenV v)∧os=[]):=by
 obtain⟨hs,hsb⟩:=NC h
 obtain⟨hx,hy,hz⟩:=h
 have h1:=bH hx hx ah
 have h2:=bH hy hy ah
 have h3:=bH hz hz ah
 refine aF Tryz.func327 rfl aB rfl (fun w0 F0 lent β0=> ?_)
 repeat'(first|refine sC ?_|((with_reducible refine aj ?_);first|(refine sS ?_;intro Q' hn he hr)|refine sA ?_)|(refine sH ?_;clear hn he hr Q')|((conv=>whnf);first|refine sK ?_|(refine bn.to (yw v:Int) hs (wrap64 ah) ?_)|((with_reducible refine aH ?_);(refine aG (C9 _ ah) rfl rfl ?_))|refine sP ?_|(refine au [] rfl rfl rfl ⟨?_,rfl⟩;conv=>lhs;whnf)))
 all_goals rfl
def mG(T:Nat→Bool)(low high:Nat):Nat:=if _:low<high then(if T ((low+high)/2)=true then mG T low ((low+high)/2) else mG T ((low+high)/2+1) high) else low
termination_by high-low
decreasing_by all_goals omega
theorem CQ{T:Nat→Bool}{low high:Nat}(h: ¬low<high):mG T low high=low:=by rw[mG,dif_neg h]
theorem CS{T:Nat→Bool}{low high:Nat}(h:low<high)(ht:T ((low+high)/2)=true):mG T low high=mG T low ((low+high)/2):=by rw[mG,dif_pos h,if_pos ht]
theorem ES{T:Nat→Bool}{low high:Nat}(h:low<high)(ht: ¬T ((low+high)/2)=true):mG T low high=mG T ((low+high)/2+1) high:=by rw[mG,dif_pos h,if_neg ht]
theorem Yb{T:Nat→Bool} : ∀ {low high:Nat},low≤high→mG T low high≤high:=by
 intro low high
 induction hn:high-low using Nat.strongRecOn generalizing low high with
 |_ n ih=>
  intro h
  by_cases h1:low<high
  ·by_cases ht:T ((low+high)/2)=true
   ·rw[CS h1 ht]
    exact Nat.le_trans (ih _ ah rfl ah) ah
   ·rw[ES h1 ht]
    exact ih _ ah rfl ah
  ·rw[CQ h1];exact h
def nI(u v:Int)(n:Nat):Bool:=decide (lC n*u≤jI n*v)
def rW(y x:Int):Nat:=mG (nI (min (bQ x) (bQ y)) (max (bQ x) (bQ y))) 0 45000
def rV(y x:Int):Int:=if bQ x<bQ y then 90000-(rW y x:Int) else rW y x
def lN(y x:Int):Int:=if 0≤x∧0≤y then rV y x else if 0≤y then 180000-rV y x else if x<0 then 180000+rV y x else(-rV y x) % 360000
end Go.Eng
namespace Go.Eng
open Go Go.RowKit Go.Proofs
set_option maxRecDepth 100000
theorem bn.quo{a b m:Int}{K:Int→Prop}(h:a.tdiv b=m)(hm: -9223372036854775808≤m∧m≤9223372036854775807)(hK:K m):bn .i64 (a.tdiv b) K:=bn.to m h (wrap64 hm) hK
set_option maxHeartbeats 4000000 in
theorem Oy(y x:Int)(hy: -1000000000000≤y∧y≤1000000000000)(hx1: -1000000000000≤x∧x≤1000000000000)(h0: ¬(x=0∧y=0)):ak Tryz.prog 315 GS 0 [] [.int .i64 y, .int .i64 x] (fun d os=>d= .aN [.int .i64 (lN y x), .int .i64 0]∧os=[]):=by
 have hax:=wJ hx1
 have hay:=wJ hy
 have hv:inB y (-1000000000000) 1000000000000=true:=by simp[inB];omega
 have hv2:inB x (-1000000000000) 1000000000000=true:=by simp[inB];omega
 by_cases hx0:x=0
 ·have hy0:y≠0:=fun h=>h0 ⟨hx0,h⟩
  refine aF Tryz.func315 rfl aB rfl (fun w0 F0 lent β0=> ?_)
  repeat'(first|refine sC ?_|((with_reducible refine aj ?_);first|(refine sS ?_;intro Q' hn he hr)|refine sA ?_)|(refine sH ?_;clear hn he hr Q')|((conv=>whnf);first|refine sK ?_|(refine sB ?_;repeat'(first|refine sb0 ?_|(refine aA ?_ ?_<;>intro hb<;>try exact cls)))|((with_reducible refine aH ?_);first|(refine aG (ak.aU (iQ _ _ _)) rfl rfl ?_)|(refine aG (ak.aU (ET _ ah)) rfl rfl ?_))))
  refine aQ (fun p:Nat×Nat=>[(0,.int .i64 y),(1,.int .i64 x),(6,.int .i64 (bQ x)),(7,.int .i64 (bQ y)),(8,.int .i64 (min (bQ x) (bQ y))),(9,.int .i64 (max (bQ x) (bQ y))),(10,.int .i64 p.1),(11,.int .i64 p.2)]) (fun _=>[]) (fun p=>p.1≤p.2∧p.2≤45000∧mG (nI (min (bQ x) (bQ y)) (max (bQ x) (bQ y))) p.1 p.2=rW y x) (fun p=>p.2-p.1) (0,45000) ⟨by simp,by simp,by simp only[rW]⟩ (by refine aC rfl rfl rfl ?_;refine⟨rfl,rfl,rfl,rfl,?_,?_,rfl,rfl,trivial⟩<;>((conv=>rhs;whnf);refine congrArg (D.int _) ?_;simp only[cond_false,cond_true];split<;>omega)) (fun p hk Q' hn he hr=> ?_)
  obtain⟨low,high⟩:=p
  obtain⟨h1,h2,h3⟩:=hk
  simp only at h1 h2 h3⊢
  generalize hu:min (bQ x) (bQ y)=u at h3⊢
  generalize hvv:max (bQ x) (bQ y)=v at h3⊢
  obtain⟨mid,hmid⟩: ∃mid:Nat,mid=(low+high)/2:=⟨_,rfl⟩
  have hq:((low:Int)+high).tdiv 2=(mid:Int):=by rw[Int.tdiv_eq_ediv_of_nonneg ah];omega
  have hm1:=bH (x:=jI mid) (y:=v) (m:=1000000) (n:=1000000000000) (um _) ah ah
  have hm2:=bH (x:=lC mid) (y:=u) (m:=1000000) (n:=1000000000000) (nK _) ah ah
  repeat'(first|refine sC ?_|((with_reducible refine aj ?_);first|(refine sS ?_;intro Q' hn he hr)|refine sA ?_)|(refine sH ?_;clear hn he hr Q')|((conv=>whnf);first|refine sK ?_|(refine sB ?_;repeat'(first|refine sb0 ?_|(refine aA ?_ ?_<;>intro hb<;>try exact cls)))|(refine bZ.mk ⟨by omega,?_⟩)|(with_reducible refine bn.quo hq ah ?_)|((with_reducible refine aH ?_);first|(refine aG (zW _ eY) rfl rfl ?_)|(refine aG (CV _ eY) rfl rfl ?_)|(refine aG (ak.aU (uG _ eY)) rfl rfl ?_))|refine sP ?_|(refine au [] rfl rfl rfl ⟨?_,rfl⟩;conv=>lhs;whnf)|(refine sH ?_;clear hn he hr Q')))
  ·have hT:nI u v mid=true:=decide_eq_true hb
   rw[CS ah Cb,←hmid] at h3
   subst hu hvv
   exact⟨(low,mid),⟨by simp;omega,by simp;omega,h3⟩,by simp;omega,aI⟩
  ·have hT: ¬nI u v mid=true:=by unfold nI;simp;omega
   rw[ES ah Cb,←hmid] at h3
   subst hu hvv
   exact⟨(mid+1,high),⟨by simp;omega,by simp;omega,h3⟩,by simp;omega,aI⟩
  all_goals
   rw[CQ ah] at h3
   refine congrArg (fun n=>D.aN [D.int .i64 n,D.int .i64 0]) ?_
   unfold lN rV
   rw[←h3]
   (repeat' split)<;>omega
 ·skip
  refine aF Tryz.func315 rfl aB rfl (fun w0 F0 lent β0=> ?_)
  repeat'(first|refine sC ?_|((with_reducible refine aj ?_);first|(refine sS ?_;intro Q' hn he hr)|refine sA ?_)|(refine sH ?_;clear hn he hr Q')|((conv=>whnf);first|refine sK ?_|(refine sB ?_;repeat'(first|refine sb0 ?_|(refine aA ?_ ?_<;>intro hb<;>try exact cls)))|((with_reducible refine aH ?_);first|(refine aG (ak.aU (iQ _ _ _)) rfl rfl ?_)|(refine aG (ak.aU (ET _ ah)) rfl rfl ?_))))
  refine aQ (fun p:Nat×Nat=>[(0,.int .i64 y),(1,.int .i64 x),(6,.int .i64 (bQ x)),(7,.int .i64 (bQ y)),(8,.int .i64 (min (bQ x) (bQ y))),(9,.int .i64 (max (bQ x) (bQ y))),(10,.int .i64 p.1),(11,.int .i64 p.2)]) (fun _=>[]) (fun p=>p.1≤p.2∧p.2≤45000∧mG (nI (min (bQ x) (bQ y)) (max (bQ x) (bQ y))) p.1 p.2=rW y x) (fun p=>p.2-p.1) (0,45000) ⟨by simp,by simp,by simp only[rW]⟩ (by refine aC rfl rfl rfl ?_;refine⟨rfl,rfl,rfl,rfl,?_,?_,rfl,rfl,trivial⟩<;>((conv=>rhs;whnf);refine congrArg (D.int _) ?_;simp only[cond_false,cond_true];split<;>omega)) (fun p hk Q' hn he hr=> ?_)
  obtain⟨low,high⟩:=p
  obtain⟨h1,h2,h3⟩:=hk
  simp only at h1 h2 h3⊢
  generalize hu:min (bQ x) (bQ y)=u at h3⊢
  generalize hvv:max (bQ x) (bQ y)=v at h3⊢
  obtain⟨mid,hmid⟩: ∃mid:Nat,mid=(low+high)/2:=⟨_,rfl⟩
  have hq:((low:Int)+high).tdiv 2=(mid:Int):=by rw[Int.tdiv_eq_ediv_of_nonneg ah];omega
  have hm1:=bH (x:=jI mid) (y:=v) (m:=1000000) (n:=1000000000000) (um _) ah ah
  have hm2:=bH (x:=lC mid) (y:=u) (m:=1000000) (n:=1000000000000) (nK _) ah ah
  repeat'(first|refine sC ?_|((with_reducible refine aj ?_);first|(refine sS ?_;intro Q' hn he hr)|refine sA ?_)|(refine sH ?_;clear hn he hr Q')|((conv=>whnf);first|refine sK ?_|(refine sB ?_;repeat'(first|refine sb0 ?_|(refine aA ?_ ?_<;>intro hb<;>try exact cls)))|(refine bZ.mk ⟨by omega,?_⟩)|(with_reducible refine bn.quo hq ah ?_)|((with_reducible refine aH ?_);first|(refine aG (zW _ eY) rfl rfl ?_)|(refine aG (CV _ eY) rfl rfl ?_)|(refine aG (ak.aU (uG _ eY)) rfl rfl ?_))|refine sP ?_|(refine au [] rfl rfl rfl ⟨?_,rfl⟩;conv=>lhs;whnf)|(refine sH ?_;clear hn he hr Q')))
  ·have hT:nI u v mid=true:=decide_eq_true hb
   rw[CS ah Cb,←hmid] at h3
   subst hu hvv
   exact⟨(low,mid),⟨by simp;omega,by simp;omega,h3⟩,by simp;omega,aI⟩
  ·have hT: ¬nI u v mid=true:=by unfold nI;simp;omega
   rw[ES ah Cb,←hmid] at h3
   subst hu hvv
   exact⟨(mid+1,high),⟨by simp;omega,by simp;omega,h3⟩,by simp;omega,aI⟩
  all_goals
   rw[CQ ah] at h3
   refine congrArg (fun n=>D.aN [D.int .i64 n,D.int .i64 0]) ?_
   unfold lN rV
   rw[←h3]
   (repeat' split)<;>omega
end Go.Eng
namespace Go.Eng
open Go Go.RowKit Go.Proofs
set_option maxRecDepth 100000
set_option maxHeartbeats 4000000 in
theorem yL(y x:Int)(hy: -1000000000000≤y∧y≤1000000000000)(hx1: -1000000000000≤x∧x≤1000000000000):ak Tryz.prog 345 G0 0 [] [.int .i64 y, .int .i64 x] (fun d os=>d= .int .i64 (lN y x)∧os=[]):=by
 have hax:=wJ hx1
 have hay:=wJ hy
 refine aF Tryz.func345 rfl aB rfl (fun w0 F0 lent β0=> ?_)
 repeat'(first|refine sC ?_|((with_reducible refine aj ?_);first|(refine sS ?_;intro Q' hn he hr)|refine sA ?_)|(refine sH ?_;clear hn he hr Q')|((conv=>whnf);first|refine sK ?_|((with_reducible refine aH ?_);first|(refine aG (O5 _ ah) rfl rfl ?_)|(refine aG (O4 _ _) rfl rfl ?_)|(refine aG (EX _ _) rfl rfl ?_))))
 refine aQ (fun p:Nat×Nat=>[(0,.int .i64 y),(1,.int .i64 x),(5,.int .i64 (min (bQ x) (bQ y))),(6,.int .i64 (max (bQ x) (bQ y))),(7,.int .i64 p.1),(8,.int .i64 p.2)]) (fun _=>[]) (fun p=>p.1≤p.2∧p.2≤45000∧mG (nI (min (bQ x) (bQ y)) (max (bQ x) (bQ y))) p.1 p.2=rW y x) (fun p=>p.2-p.1) (0,45000) ⟨by simp,by simp,by simp only[rW]⟩ (by refine aC rfl rfl rfl ?_;exact⟨rfl,rfl,rfl,rfl,rfl,rfl,trivial⟩) (fun p hk Q' hn he hr=> ?_)
 obtain⟨low,high⟩:=p
 obtain⟨h1,h2,h3⟩:=hk
 simp only at h1 h2 h3⊢
 generalize hu:min (bQ x) (bQ y)=u at h3⊢
 generalize hvv:max (bQ x) (bQ y)=v at h3⊢
 obtain⟨mid,hmid⟩: ∃mid:Nat,mid=(low+high)/2:=⟨_,rfl⟩
 have hq:((low:Int)+high).tdiv 2=(mid:Int):=by rw[Int.tdiv_eq_ediv_of_nonneg ah];omega
 have hm1:=bH (x:=jI mid) (y:=v) (m:=1000000) (n:=1000000000000) (um _) ah ah
 have hm2:=bH (x:=lC mid) (y:=u) (m:=1000000) (n:=1000000000000) (nK _) ah ah
 repeat'(first|refine sC ?_|((with_reducible refine aj ?_);first|(refine sS ?_;intro Q' hn he hr)|refine sA ?_)|(refine sH ?_;clear hn he hr Q')|((conv=>whnf);first|refine sK ?_|(refine sB ?_;repeat'(first|refine sb0 ?_|(refine aA ?_ ?_<;>intro hb<;>try exact cls)))|(refine bZ.mk ⟨by omega,?_⟩)|(with_reducible refine bn.quo hq ah ?_)|((with_reducible refine aH ?_);first|(refine aG (Df _ eY) rfl rfl ?_)|(refine aG (EZ _ eY) rfl rfl ?_)|(refine aG (zY _ eY) rfl rfl ?_)|(refine aG (O5 _ ah) rfl rfl ?_))|refine sP ?_|(refine au [] rfl rfl rfl ⟨?_,rfl⟩;conv=>lhs;whnf)|(refine sH ?_;clear hn he hr Q')))
 ·have hT:nI u v mid=true:=decide_eq_true hb
  rw[CS ah Cb,←hmid] at h3
  subst hu hvv
  exact⟨(low,mid),⟨by simp;omega,by simp;omega,h3⟩,by simp;omega,aI⟩
 ·have hT: ¬nI u v mid=true:=by unfold nI;simp;omega
  rw[ES ah Cb,←hmid] at h3
  subst hu hvv
  exact⟨(mid+1,high),⟨by simp;omega,by simp;omega,h3⟩,by simp;omega,aI⟩
 all_goals
  rw[CQ ah] at h3
  refine congrArg (D.int _) ?_
  unfold lN rV
  rw[←h3]
  (repeat' split)<;>omega
end Go.Eng
namespace Go.Eng
open Go Go.RowKit Go.Proofs
set_option maxRecDepth 100000
def sZ(v:bI):Bool:=(v.fX==0)&&((v.fY==0)&&((v.fZ==0)&&true))
theorem yQ(v:bI):yF Tryz.prog 286 (eu v) (eu ⟨0,0,0⟩) (sZ v):=yF.flat _ rfl aB aB (by rfl)
theorem Zr(n:Int):ak Tryz.prog 342 G0 0 [] [.int .i64 n] (fun d os=>d= .bool (inB n (-2000000) 2000000)∧os=[]):=by
 refine aF Tryz.func342 rfl aB rfl (fun w0 F0 lent β0=> ?_)
 repeat'(first|refine sC ?_|((with_reducible refine aj ?_);first|(refine sS ?_;intro Q' hn he hr)|refine sA ?_)|(refine sH ?_;clear hn he hr Q')|((conv=>whnf);first|refine sK ?_|((with_reducible refine aH ?_);(refine aG (iQ _ _ _) rfl rfl ?_))|(refine au [] rfl rfl rfl ⟨?_,rfl⟩;conv=>lhs;whnf)))
 all_goals rfl
theorem wO(v:bI)(h:fE 1000000 v):ak Tryz.prog 318 G0 0 [] [.agg (eu v)] (fun d os=>d= .bool true∧os=[]):=by
 obtain⟨hx1,hy1,hz1⟩:=h
 have hv:inB v.fX (-2000000) 2000000=true:=by simp[inB];omega
 have hv2:inB v.fY (-2000000) 2000000=true:=by simp[inB];omega
 have hv3:inB v.fZ (-2000000) 2000000=true:=by simp[inB];omega
 refine aF Tryz.func318 rfl aB rfl (fun w0 F0 lent β0=> ?_)
 repeat'(first|refine sC ?_|((with_reducible refine aj ?_);first|(refine sS ?_;intro Q' hn he hr)|refine sA ?_)|(refine sH ?_;clear hn he hr Q')|((conv=>whnf);first|refine sK ?_|(refine sB ?_;repeat'(first|refine sb0 ?_|(refine aA ?_ ?_<;>intro hb<;>try exact cls)))|((with_reducible refine aH ?_);(refine aG (Zr _) rfl rfl ?_))|(refine au [] rfl rfl rfl ⟨?_,rfl⟩;conv=>lhs;whnf)))
 all_goals simp[hv,hv2,hv3]
set_option maxHeartbeats 4000000 in
theorem Oz(y x:Int)(h0:x=0∧y=0):ak Tryz.prog 315 GS 0 [] [.int .i64 y, .int .i64 x] (fun d os=>d= .aN [.int .i64 0, .int .i64 6]∧os=[]):=by
 obtain⟨h1,h2⟩:=h0
 have hv:inB y (-1000000000000) 1000000000000=true:=by simp[inB];omega
 have hv2:inB x (-1000000000000) 1000000000000=true:=by simp[inB];omega
 refine aF Tryz.func315 rfl aB rfl (fun w0 F0 lent β0=> ?_)
 repeat'(first|refine sC ?_|((with_reducible refine aj ?_);first|(refine sS ?_;intro Q' hn he hr)|refine sA ?_)|(refine sH ?_;clear hn he hr Q')|((conv=>whnf);first|refine sK ?_|(refine sB ?_;repeat'(first|refine sb0 ?_|(refine aA ?_ ?_<;>intro hb<;>try exact cls)))|((with_reducible refine aH ?_);(refine aG (ak.aU (iQ _ _ _)) rfl rfl ?_))|(refine au [] rfl rfl rfl ⟨?_,rfl⟩;conv=>lhs;whnf)))
 all_goals rfl
def Ea(a b:bI):Prop:=lenV (Dn a b)=0∧Ai a b=0
noncomputable def jO(a b:bI):Int:=open Classical in if sZ a=true∨sZ b=true∨Ea a b then 0 else lN (lenV (Dn a b)) (Ai a b)
noncomputable def CO(a b:bI):Int:=open Classical in if sZ a=true∨sZ b=true∨Ea a b then 6 else 0
noncomputable def EP(a b:bI):Bool:=open Classical in if sZ a=true∨sZ b=true∨Ea a b then false else true
set_option maxHeartbeats 4000000 in
theorem OC(a b:bI)(ha:fE 1000000 a)(hb0:fE 1000000 b):ak Tryz.prog 283 GS 0 [] [.agg (eu a), .agg (eu b)] (fun d os=>d= .aN [.int .i64 (jO a b), .int .i64 (CO a b)]∧os=[]):=by
 have hl:=TM (yN ha hb0)
 have hd:=QF ha hb0
 cases hv:sZ a with
 |true=>
  refine aF Tryz.func283 rfl aB rfl (fun w0 F0 lent β0=> ?_)
  repeat'(first|refine sC ?_|((with_reducible refine aj ?_);first|(refine sS ?_;intro Q' hn he hr)|refine sA ?_)|(refine sH ?_;clear hn he hr Q')|((conv=>whnf);first|refine sK ?_|(refine sB ?_;repeat'(first|refine sb0 ?_|(refine aA ?_ ?_<;>intro hb<;>try exact cls)))|(refine nD.mk (yQ _) ?_)|((with_reducible refine aH ?_);first|(refine aG (ak.aU (wO _ ha)) rfl rfl ?_)|(refine aG (ak.aU (wO _ hb0)) rfl rfl ?_))|(refine au [] rfl rfl rfl ⟨?_,rfl⟩;conv=>lhs;whnf)))
  all_goals simp[jO,CO,hv,rD,out1,qF]
 |false=>
  cases hv2:sZ b with
  |true=>
   refine aF Tryz.func283 rfl aB rfl (fun w0 F0 lent β0=> ?_)
   repeat'(first|refine sC ?_|((with_reducible refine aj ?_);first|(refine sS ?_;intro Q' hn he hr)|refine sA ?_)|(refine sH ?_;clear hn he hr Q')|((conv=>whnf);first|refine sK ?_|(refine sB ?_;repeat'(first|refine sb0 ?_|(refine aA ?_ ?_<;>intro hb<;>try exact cls)))|(refine nD.mk (yQ _) ?_)|((with_reducible refine aH ?_);first|(refine aG (ak.aU (wO _ ha)) rfl rfl ?_)|(refine aG (ak.aU (wO _ hb0)) rfl rfl ?_))|(refine au [] rfl rfl rfl ⟨?_,rfl⟩;conv=>lhs;whnf)))
   all_goals simp[jO,CO,hv2,rD,out1,qF]
  |false=>
   by_cases hn0:Ea a b
   ·refine aF Tryz.func283 rfl aB rfl (fun w0 F0 lent β0=> ?_)
    repeat'(first|refine sC ?_|((with_reducible refine aj ?_);first|(refine sS ?_;intro Q' hn he hr)|refine sA ?_)|(refine sH ?_;clear hn he hr Q')|refine sO ?_|((conv=>whnf);first|refine sK ?_|(refine sB ?_;repeat'(first|refine sb0 ?_|(refine aA ?_ ?_<;>intro hb<;>try exact cls)))|(refine nD.mk (yQ _) ?_)|((with_reducible refine aH ?_);first|(refine aG (ak.aU (wO _ ha)) rfl rfl ?_)|(refine aG (ak.aU (wO _ hb0)) rfl rfl ?_))|((with_reducible refine aZ ?_);first|(refine aT (ak.aU (OO _ _ ha hb0)) rfl rfl ?_)|(refine aT (ak.aU (OW _ (yN ha hb0))) rfl rfl ?_)|(refine aT (ak.aU (OQ _ _ ha hb0)) rfl rfl ?_)|(refine aT (Oz _ _ ⟨hn0.2,hn0.1⟩) rfl rfl ?_))|refine sD ?_|(refine au [] rfl rfl rfl ⟨?_,rfl⟩;conv=>lhs;whnf)))
    all_goals simp[jO,CO,hn0,rD,out1,qF]
   ·refine aF Tryz.func283 rfl aB rfl (fun w0 F0 lent β0=> ?_)
    repeat'(first|refine sC ?_|((with_reducible refine aj ?_);first|(refine sS ?_;intro Q' hn he hr)|refine sA ?_)|(refine sH ?_;clear hn he hr Q')|refine sO ?_|((conv=>whnf);first|refine sK ?_|(refine sB ?_;repeat'(first|refine sb0 ?_|(refine aA ?_ ?_<;>intro hb<;>try exact cls)))|(refine nD.mk (yQ _) ?_)|((with_reducible refine aH ?_);first|(refine aG (ak.aU (wO _ ha)) rfl rfl ?_)|(refine aG (ak.aU (wO _ hb0)) rfl rfl ?_))|((with_reducible refine aZ ?_);first|(refine aT (ak.aU (OO _ _ ha hb0)) rfl rfl ?_)|(refine aT (ak.aU (OW _ (yN ha hb0))) rfl rfl ?_)|(refine aT (ak.aU (OQ _ _ ha hb0)) rfl rfl ?_)|(refine aT (Oy _ _ ah ah (fun h=>hn0 ⟨h.2,h.1⟩)) rfl rfl ?_))|refine sD ?_|(refine au [] rfl rfl rfl ⟨?_,rfl⟩;conv=>lhs;whnf)))
    all_goals simp[jO,CO,hv,hv2,hn0,rD,out1,qF]
end Go.Eng
namespace Go.Eng
open Go Go.RowKit Go.Proofs
set_option maxRecDepth 100000
set_option maxHeartbeats 4000000 in
theorem PE(a b:bI)(ha:fE 1000000 a)(hb0:fE 1000000 b):ak Tryz.prog 324 G0 0 [] [.agg (eu a), .agg (eu b)] (fun d os=>d= .aN [.int .i64 (jO a b), .bool (EP a b)]∧os=[]):=by
 have hl:=TM (yN ha hb0)
 have hd:=QF ha hb0
 cases hv:sZ a with
 |true=>
  refine aF Tryz.func324 rfl aB rfl (fun w0 F0 lent β0=> ?_)
  repeat'(first|refine sC ?_|((with_reducible refine aj ?_);first|(refine sS ?_;intro Q' hn he hr)|refine sA ?_)|(refine sH ?_;clear hn he hr Q')|((conv=>whnf);first|refine sK ?_|(refine sB ?_;repeat'(first|refine sb0 ?_|(refine aA ?_ ?_<;>intro hb<;>try exact cls)))|(refine nD.mk (yQ _) ?_)|((with_reducible refine aH ?_);first|(refine aG (IV _ _ ha hb0) rfl rfl ?_)|(refine aG (E5 _ (yN ha hb0)) rfl rfl ?_)|(refine aG (IW _ _ ha hb0) rfl rfl ?_))|(refine au [] rfl rfl rfl ⟨?_,rfl⟩;conv=>lhs;whnf)))
  all_goals simp[jO,EP,hv,rD,out1,qF]
 |false=>
  cases hv2:sZ b with
  |true=>
   refine aF Tryz.func324 rfl aB rfl (fun w0 F0 lent β0=> ?_)
   repeat'(first|refine sC ?_|((with_reducible refine aj ?_);first|(refine sS ?_;intro Q' hn he hr)|refine sA ?_)|(refine sH ?_;clear hn he hr Q')|((conv=>whnf);first|refine sK ?_|(refine sB ?_;repeat'(first|refine sb0 ?_|(refine aA ?_ ?_<;>intro hb<;>try exact cls)))|(refine nD.mk (yQ _) ?_)|((with_reducible refine aH ?_);first|(refine aG (IV _ _ ha hb0) rfl rfl ?_)|(refine aG (E5 _ (yN ha hb0)) rfl rfl ?_)|(refine aG (IW _ _ ha hb0) rfl rfl ?_))|(refine au [] rfl rfl rfl ⟨?_,rfl⟩;conv=>lhs;whnf)))
   all_goals simp[jO,EP,hv2,rD,out1,qF]
  |false=>
   refine aF Tryz.func324 rfl aB rfl (fun w0 F0 lent β0=> ?_)
   repeat'(first|refine sC ?_|((with_reducible refine aj ?_);first|(refine sS ?_;intro Q' hn he hr)|refine sA ?_)|(refine sH ?_;clear hn he hr Q')|((conv=>whnf);first|refine sK ?_|(refine sB ?_;repeat'(first|refine sb0 ?_|(refine aA ?_ ?_<;>intro hb<;>try exact cls)))|(refine nD.mk (yQ _) ?_)|((with_reducible refine aH ?_);first|(refine aG (IV _ _ ha hb0) rfl rfl ?_)|(refine aG (E5 _ (yN ha hb0)) rfl rfl ?_)|(refine aG (IW _ _ ha hb0) rfl rfl ?_)|(refine aG (yL _ _ ah ah) rfl rfl ?_))|(refine au [] rfl rfl rfl ⟨?_,rfl⟩;conv=>lhs;whnf)))
   all_goals simp_all[jO,EP,Ea,rD,out1,qF]
end Go.Eng
namespace Go.Eng
open Go Go.RowKit Go.Proofs
set_option maxRecDepth 100000
theorem yI(y x:Int):0≤lN y x∧lN y x≤360000:=by
 have h1:rW y x≤45000:=Yb ah
 have h2:0≤rV y x∧rV y x≤90000:=by unfold rV;split<;>omega
 unfold lN
 (repeat' split)<;>omega
end Go.Eng
