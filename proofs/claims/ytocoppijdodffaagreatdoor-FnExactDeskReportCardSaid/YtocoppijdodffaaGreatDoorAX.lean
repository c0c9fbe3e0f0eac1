/-
  Contracts of functions of the program and of the reference, and plain laws: a bundle of texts.
  No conditions.
-/
import Derived.Test.YtocoppijdodffaaGreatDoorV0
set_option linter.unusedVariables false
set_option linter.unusedSimpArgs false
set_option maxHeartbeats 4000000
namespace Go.Eng
theorem BL(a n:Int):(0≤a∧a.tmod n=a % n)∨(a<0∧a.tmod n= -((-a) % n)):=by
 have h:0≤a∨a<0:=by omega
 rcases h with h|h
 ·exact .inl ⟨h,Int.tmod_eq_emod_of_nonneg h⟩
 ·refine .inr ⟨h,?_⟩
  have h2:=Int.tmod_eq_emod_of_nonneg (a:= -a) (b:=n) ah
  rw[Int.neg_tmod] at h2
  omega
theorem ED(a n:Int):(0≤a∧a.tdiv n=a/n)∨(a<0∧a.tdiv n= -((-a)/n)):=by
 have h:0≤a∨a<0:=by omega
 rcases h with h|h
 ·exact .inl ⟨h,Int.tdiv_eq_ediv_of_nonneg h⟩
 ·refine .inr ⟨h,?_⟩
  have h2:=Int.tdiv_eq_ediv_of_nonneg (a:= -a) (b:=n) ah
  rw[Int.neg_tdiv] at h2
  omega
def fU(a b:Int):Int:=if 0≤a then(2*a+b)/(2*b) else-((b-2*a)/(2*b))
theorem RU{m b:Int}(hb:0<b):(2*m+b)/(2*b)=if m % b<b-m % b then m/b else m/b+1:=by
 have e:=Int.emod_add_mul_ediv m b
 have h1:=Int.emod_nonneg m (show b≠0 by omega)
 have h2:=Int.emod_lt_of_pos m hb
 have key: ∀q:Int,2*(b*q)≤2*m+b→2*m+b<2*(b*q)+2*b→(2*m+b)/(2*b)=q:=by
  intro q g1 g2
  have e1:q*(2*b)=2*(b*q):=by rw[Int.mul_left_comm,Int.mul_comm q b]
  have e2:(q+1)*(2*b)=2*(b*q)+2*b:=by rw[Int.add_mul,e1];omega
  have g3:=(Int.le_ediv_iff_mul_le (a:=q) (b:=2*m+b) (c:=2*b) ah).2 ah
  have g4:=(Int.ediv_lt_iff_lt_mul (a:=2*m+b) (b:=q+1) (c:=2*b) ah).2 ah
  omega
 split
 ·exact key _ ah ah
 ·refine key _ ?_ ?_<;>rw[Int.mul_add]<;>omega
theorem VF{a b:Int}(ha:0≤a)(hb:0<b):fU a b=if a % b<b-a % b then a/b else a/b+1:=by
 rw[fU,if_pos ha,RU hb]
theorem VE{a b:Int}(ha:a<0)(hb:0<b):fU a b= -(if(-a) % b<b-(-a) % b then(-a)/b else(-a)/b+1):=by
 rw[fU,if_neg ah,←RU hb,show 2* -a+b=b-2*a by omega]
theorem lI{a b m:Int}(hb:0<b)(hl: -(b*m)≤a)(hh:a≤b*m): -m≤fU a b∧fU a b≤m:=by
 have h0: ∀x:Int,0≤x→x≤b*m→(2*x+b)/(2*b)≤m∧0≤(2*x+b)/(2*b):=by
  intro x g0 g1
  have e2:(m+1)*(2*b)=2*(b*m)+2*b:=by rw[Int.add_mul,Int.mul_left_comm,Int.mul_comm m b];omega
  have g4:=(Int.ediv_lt_iff_lt_mul (a:=2*x+b) (b:=m+1) (c:=2*b) ah).2 ah
  have g5:=Int.ediv_nonneg (a:=2*x+b) (b:=2*b) ah ah
  omega
 unfold fU
 split
 ·have:=h0 a ah hh
  omega
 ·have:=h0 (-a) ah ah
  rw[show 2* -a+b=b-2*a by omega] at this
  omega
def jW:List Int:=[0,17452,34899,52336,69756,87156,104528,121869,139173,156434,173648,190809,207912,224951,241922,258819,275637,292372,309017,325568,342020,358368,374607,390731,406737,422618,438371,453990,469472,484810,500000,515038,529919,544639,559193,573576,587785,601815,615661,629320,642788,656059,669131,681998,694658,707107,719340,731354,743145,754710,766044,777146,788011,798636,809017,819152,829038,838671,848048,857167,866025,874620,882948,891007,898794,906308,913545,920505,927184,933580,939693,945519,951057,956305,961262,965926,970296,974370,978148,981627,984808,987688,990268,992546,994522,996195,997564,998630,999391,999848,1000000]
def l7(k:Nat):Int:=jW.getD k 0
theorem agH:(List.range 90).all (fun k=>decide (0≤l7 k∧l7 k≤l7 (k+1)∧l7 (k+1)≤1000000))=true:=by decide+kernel
theorem GL{k:Nat}(h:k<90):0≤l7 k∧l7 k≤l7 (k+1)∧l7 (k+1)≤1000000:=by
 have:=List.all_eq_true.1 agH k (List.mem_range.2 h)
 simpa using this
def je(n:Int):Int:=l7 (n/1000).toNat+fU ((l7 ((n/1000).toNat+1)-l7 (n/1000).toNat)*(n % 1000)) 1000
def qh(n:Int):Int:=if 90000<n then 180000-n else n
def jI(a:Int):Int:=if a % 360000<180000 then je (qh (a % 360000)) else-je (qh (a % 360000-180000))
def lC(a:Int):Int:=jI (a % 360000+90000)
theorem Es(b:Int)(hb:0<b):fU 0 b=0:=by
 have h:=lI (a:=0) (b:=b) (m:=0) hb fB fB
 omega
theorem agG{d r:Int}(hd:0≤d)(h0:0≤r)(h1:r≤1000):0≤fU (d*r) 1000∧fU (d*r) 1000≤d:=by
 have g1:d*r≤d*1000:=Int.mul_le_mul_of_nonneg_left h1 hd
 have g2:0≤d*r:=Int.mul_nonneg hd h0
 have:=lI (a:=d*r) (b:=1000) (m:=d) ah ah ah
 refine⟨?_,this.2⟩
 unfold fU
 rw[if_pos g2]
 exact Int.ediv_nonneg ah ah
theorem BF{n:Int}(h0:0≤n)(h1:n≤90000):0≤je n∧je n≤1000000:=by
 have hc:n=90000∨n<90000:=by omega
 rcases hc with rfl|hc
 ·decide+kernel
 ·have hk:=GL (k:=(n/1000).toNat) ah
  have hm:=agG (d:=l7 ((n/1000).toNat+1)-l7 (n/1000).toNat) (r:=n % 1000) ah ah ah
  unfold je
  omega
theorem um(a:Int): -1000000≤jI a∧jI a≤1000000:=by
 unfold jI qh
 split
 ·split
  ·have:=BF (n:=180000-a % 360000) ah ah;omega
  ·have:=BF (n:=a % 360000) ah ah;omega
 ·split
  ·have:=BF (n:=180000-(a % 360000-180000)) ah ah;omega
  ·have:=BF (n:=a % 360000-180000) ah ah;omega
theorem nK(a:Int): -1000000≤lC a∧lC a≤1000000:=um _
theorem bH{x y m n:Int}(hx: -m≤x∧x≤m)(hy: -n≤y∧y≤n)(hm:0≤m): -(m*n)≤x*y∧x*y≤m*n:=by
 have hn:0≤n:=by omega
 have h:x.natAbs*y.natAbs≤m.natAbs*n.natAbs:=Nat.mul_le_mul ah ah
 rw[←Int.natAbs_mul,←Int.natAbs_mul] at h
 have:=Int.mul_nonneg hm hn
 omega
def jL(n:Int):Int:=if n<0 then-n else n
theorem ae3{a b:Int}(hb:0<b)(h:jL (a.tmod b)<jL b-jL (a.tmod b)):a.tdiv b=fU a b:=by
 have h1:=Int.emod_nonneg a (show b≠0 by omega)
 have h2:=Int.emod_nonneg (-a) (show b≠0 by omega)
 have eb:jL b=b:=by unfold jL;rw[if_neg ah]
 rw[eb] at h
 rcases BL a b with⟨g,e⟩|⟨g,e⟩
 ·rcases ED a b with⟨_,f⟩|⟨g2,_⟩
  ·rw[VF g hb,f]
   rw[e,show jL (a % b)=a % b by unfold jL;rw[if_neg ah]] at h
   rw[if_pos h]
  ·omega
 ·rcases ED a b with⟨g2,_⟩|⟨_,f⟩
  ·omega
  ·rw[VE g hb,f]
   rw[e,show jL (-(-a % b))= -a % b by unfold jL;split<;>omega] at h
   rw[if_pos h]
theorem ae2{a b:Int}(hb:0<b)(h: ¬jL (a.tmod b)<jL b-jL (a.tmod b)):(0≤a→a.tdiv b+1=fU a b)∧(a<0→a.tdiv b-1=fU a b):=by
 have h1:=Int.emod_nonneg a (show b≠0 by omega)
 have h2:=Int.emod_nonneg (-a) (show b≠0 by omega)
 have eb:jL b=b:=by unfold jL;rw[if_neg ah]
 rw[eb] at h
 rcases BL a b with⟨g,e⟩|⟨g,e⟩
 ·rcases ED a b with⟨_,f⟩|⟨g2,_⟩
  ·refine⟨fun _=> ?_,fun h=>absurd h ah⟩
   rw[VF g hb,f]
   rw[e,show jL (a % b)=a % b by unfold jL;rw[if_neg ah]] at h
   rw[if_neg h]
  ·omega
 ·rcases ED a b with⟨g2,_⟩|⟨_,f⟩
  ·omega
  ·refine⟨fun h=>absurd h ah,fun _=> ?_⟩
   rw[VE g hb,f]
   rw[e,show jL (-(-a % b))= -a % b by unfold jL;split<;>omega] at h
   rw[if_neg h];omega
theorem acw{a b:Int}(hb:0<b):(0≤a→(2*a+b).tdiv (2*b)=fU a b)∧(a<0→ -((b-2*a).tdiv (2*b))=fU a b):=by
 constructor<;>intro h<;>unfold fU
 ·rw[if_pos h,Int.tdiv_eq_ediv_of_nonneg ah]
 ·rw[if_neg ah,Int.tdiv_eq_ediv_of_nonneg ah]
def bU(n:Int):Prop:= -9223372036854775808≤n∧n≤9223372036854775807
end Go.Eng
namespace Go.Eng
open Go Go.RowKit Go.Proofs
set_option maxRecDepth 100000
theorem aJ.tab{l:List Int}{n:Nat}{i:Int}{K:List D→Prop}(hl:l.length=n)(h0:0≤i∧i<n)(h:K [.int .i64 (l.getD i.toNat 0)]):aJ (chunk 1 n (l.map (.int .i64))) i K:=by
 have e: ∀(n:Nat) (l:List Int),l.length=n→chunk 1 n (l.map (D.int .i64))=l.map encI:=by
  intro n
  induction n with
  |zero=>intro l hl;rw[List.length_eq_zero_iff.1 hl];rfl
  |succ n ih=>
   intro l hl
   cases l with
   |nil=>cases hl
   |cons x r=>simp only[chunk,List.map_cons,List.take_succ_cons,List.take_zero,List.drop_succ_cons,List.drop_zero];rw[ih r pI];rfl
 rw[e n l hl]
 refine aJ.at ah fun k y hk hy=> ?_
 have:l.getD i.toNat 0=y:=by rw[←hk,Int.toNat_natCast,List.getD_eq_getElem?_getD,hy];rfl
 rw[this] at h
 exact h
theorem uG(a:Int)(ha:bU a):ak Tryz.prog 313 G0 0 [] [.int .i64 a] (fun d os=>d= .int .i64 (a % 360000)∧os=[]):=by
 have ht:=BL a 360000
 refine aF Tryz.func313 rfl aB rfl (fun w0 F0 lent β0=> ?_)
 repeat'(first|refine sC ?_|((with_reducible refine aj ?_);first|(refine sS ?_;intro Q' hn he hr)|refine sA ?_)|(refine sH ?_;clear hn he hr Q')|((conv=>whnf);first|refine sK ?_|(refine sB ?_;repeat'(refine aA ?_ ?_<;>intro hb<;>try exact cls))|(refine bZ.mk ⟨by omega,?_⟩)|refine sP ?_|(refine au [] rfl rfl rfl ⟨?_,rfl⟩;conv=>lhs;whnf)))
 all_goals(refine congrArg (D.int _) ?_;omega)
theorem zY(a:Int)(ha:bU a):ak Tryz.prog 258 G0 0 [] [.int .i64 a] (fun d os=>d= .int .i64 (a % 360000)∧os=[]):=by
 have ht:=BL a 360000
 have ht2:=BL (a.tmod 360000+360000) 360000
 refine aF Tryz.func258 rfl aB rfl (fun w0 F0 lent β0=> ?_)
 repeat'(first|refine sC ?_|((with_reducible refine aj ?_);first|(refine sS ?_;intro Q' hn he hr)|refine sA ?_)|(refine sH ?_;clear hn he hr Q')|((conv=>whnf);first|refine sK ?_|(refine bZ.mk ⟨by omega,?_⟩)|refine sP ?_|(refine au [] rfl rfl rfl ⟨?_,rfl⟩;conv=>lhs;whnf)))
 all_goals(refine congrArg (D.int _) ?_;omega)
theorem NI{a b:Int}(hb:0<b): -bQ a≤a.tdiv b∧a.tdiv b≤bQ a:=by
 have hd1:0≤a→0≤a/b∧a/b≤a:=fun h=>⟨Int.ediv_nonneg h ah,Int.ediv_le_self _ h⟩
 have hd2:0≤ -a→0≤ -a/b∧ -a/b≤ -a:=fun h=>⟨Int.ediv_nonneg h ah,Int.ediv_le_self _ h⟩
 unfold bQ
 rcases ED a b with⟨g,e⟩|⟨g,e⟩
 ·have:=hd1 g
  rw[e,if_neg ah];omega
 ·have:=hd2 ah
  rw[e,if_pos g];omega
theorem agW{a b:Int}(hb:0<b): -b<a.tmod b∧a.tmod b<b:=by
 have h1:=Int.emod_nonneg a (show b≠0 by omega)
 have h2:=Int.emod_nonneg (-a) (show b≠0 by omega)
 have h3:=Int.emod_lt_of_pos a hb
 have h4:=Int.emod_lt_of_pos (-a) hb
 rcases BL a b with⟨g,e⟩|⟨g,e⟩<;>omega
theorem wJ{a m:Int}(h: -m≤a∧a≤m):0≤bQ a∧bQ a≤m:=by unfold bQ;split<;>omega
theorem zX(a b:Int)(hb0:0<b∧b≤1000000000000)(ha: -4000000000000000000≤a∧a≤4000000000000000000):ak Tryz.prog 278 G0 0 [] [.int .i64 a, .int .i64 b] (fun d os=>d= .int .i64 (fU a b)∧os=[]):=by
 have hr:=agW (a:=a) hb0.1
 have hq: -4000000000000000000≤a.tdiv b∧a.tdiv b≤4000000000000000000:=by
  have h1:=NI (a:=a) hb0.1
  have h2:=wJ ha
  omega
 have hab:=wJ (a:=a.tmod b) (m:=b) ah
 have hbb:bQ b=b:=by unfold bQ;rw[if_neg ah]
 refine aF Tryz.func278 rfl aB rfl (fun w0 F0 lent β0=> ?_)
 repeat'(first|refine sC ?_|((with_reducible refine aj ?_);first|(refine sS ?_;intro Q' hn he hr)|refine sA ?_)|(refine sH ?_;clear hn he hr Q')|refine sO ?_|((conv=>whnf);first|refine sK ?_|(refine sB ?_;repeat'(refine aA ?_ ?_<;>intro hb<;>try exact cls))|(refine bZ.mk ⟨by omega,?_⟩)|((with_reducible refine aH ?_);(refine aG (ET _ ah) rfl rfl ?_))|((with_reducible refine aZ ?_);(refine aT (ET _ ah) rfl rfl ?_))|refine sP ?_|refine sD ?_|(refine au [] rfl rfl rfl ⟨?_,rfl⟩;conv=>lhs;whnf)))
 ·refine congrArg (D.int _) ?_
  exact ae3 hb0.1 hb
 all_goals
  have hn:=ae2 hb0.1 (show ¬jL (a.tmod b)<jL b-jL (a.tmod b) by show ¬(bQ (a.tmod b)<bQ b-bQ (a.tmod b));omega)
  refine congrArg (D.int _) ?_
 ·refine hn.1 ?_
  have h0: ¬a<0:=fun h=>by rw[decide_eq_true h,decide_eq_false (show ¬b<0 by omega)] at hb;cases hb
  omega
 ·refine hn.2 ?_
  rcases Int.lt_or_le a 0 with h0|h0
  ·exact h0
  ·exact absurd (by rw[decide_eq_false (show ¬a<0 by omega),decide_eq_false (show ¬b<0 by omega)]) hb
set_option maxHeartbeats 1000000 in
theorem vC(a b:Int)(hb0:0<b∧b≤1000000000000)(ha: -4000000000000000000≤a∧a≤4000000000000000000):ak Tryz.prog 259 G0 0 [] [.int .i64 a, .int .i64 b] (fun d os=>d= .int .i64 (fU a b)∧os=[]):=by
 have hn:=acw (a:=a) hb0.1
 have h0:a<0∨0≤a:=by omega
 rcases h0 with h0|h0
 ·have h1:=NI (a:=b-2*a) (b:=2*b) ah
  have h2:=wJ (a:=b-2*a) (m:=9000000000000000000) ah
  have h3:=hn.2 h0
  generalize hX:(b-2*a).tdiv (2*b)=X at h1 h3
  have h4: -9000000000000000000≤X∧X≤9000000000000000000:=by omega
  clear h1 h2 hn
  refine aF Tryz.func259 rfl aB rfl (fun w0 F0 lent β0=> ?_)
  repeat'(first|refine sC ?_|((with_reducible refine aj ?_);first|(refine sS ?_;intro Q' hn he hr)|refine sA ?_)|(refine sH ?_;clear hn he hr Q')|((conv=>whnf);first|refine sK ?_|(refine sB ?_;repeat'(refine aA ?_ ?_<;>intro hb<;>try exact cls))|(refine bZ.mk ⟨by omega,?_⟩)|(refine bn.to X hX (wrap64 ah) ?_)|refine sP ?_|(refine au [] rfl rfl rfl ⟨?_,rfl⟩;conv=>lhs;whnf)))
  all_goals(refine congrArg (D.int _) ?_;omega)
 ·have h1:=NI (a:=2*a+b) (b:=2*b) ah
  have h2:=wJ (a:=2*a+b) (m:=9000000000000000000) ah
  have h3:=hn.1 h0
  generalize hX:(2*a+b).tdiv (2*b)=X at h1 h3
  have h4: -9000000000000000000≤X∧X≤9000000000000000000:=by omega
  clear h1 h2 hn
  refine aF Tryz.func259 rfl aB rfl (fun w0 F0 lent β0=> ?_)
  repeat'(first|refine sC ?_|((with_reducible refine aj ?_);first|(refine sS ?_;intro Q' hn he hr)|refine sA ?_)|(refine sH ?_;clear hn he hr Q')|((conv=>whnf);first|refine sK ?_|(refine sB ?_;repeat'(refine aA ?_ ?_<;>intro hb<;>try exact cls))|(refine bZ.mk ⟨by omega,?_⟩)|(refine bn.to X hX (wrap64 ah) ?_)|refine sP ?_|(refine au [] rfl rfl rfl ⟨?_,rfl⟩;conv=>lhs;whnf)))
  all_goals(refine congrArg (D.int _) ?_;omega)
end Go.Eng
namespace Go.Eng
open Go Go.RowKit Go.Proofs
set_option maxRecDepth 100000
def GS:Nat→Option (List D):=G1 2 (jW.map (.int .i64))
theorem OM(x0 y0 x1 y1 x:Int)(h:x0≤x∧x<x1∧x1=x0+1000)(h0:0≤x0∧x0≤1000000)(hy:0≤y0∧y0≤y1∧y1≤1000000):ak Tryz.prog 314 G0 0 [] [.int .i64 x0, .int .i64 y0, .int .i64 x1, .int .i64 y1, .int .i64 x] (fun d os=>d= .int .i64 (y0+fU ((y1-y0)*(x-x0)) 1000)∧os=[]):=by
 have hm:=bH (x:=y1-y0) (y:=x-x0) (m:=1000000) (n:=1000) ah ah ah
 have hr:=lI (a:=(y1-y0)*(x-x0)) (b:=1000) (m:=1000000) ah ah ah
 have h10:x1-x0=1000:=by omega
 have hN:=zX ((y1-y0)*(x-x0)) 1000 ah ah
 rw[←h10] at hN
 rw[←h10] at hr
 refine aF Tryz.func314 rfl aB rfl (fun w0 F0 lent β0=> ?_)
 repeat'(first|refine sC ?_|((with_reducible refine aj ?_);first|(refine sS ?_;intro Q' hn he hr)|refine sA ?_)|(refine sH ?_;clear hn he hr Q')|((conv=>whnf);first|refine sK ?_|(refine sB ?_;repeat'(first|refine sb0 ?_|(refine aA ?_ ?_<;>intro hb<;>try exact cls)))|((with_reducible refine aH ?_);(refine aG (hN) rfl rfl ?_))|refine sP ?_|(refine au [] rfl rfl rfl ⟨?_,rfl⟩;conv=>lhs;whnf)))
 ·rw[show x-x0=0 by omega,Int.mul_zero,Es 1000 ah,Int.add_zero]
 ·rw[h10]
theorem zZ:ak Tryz.prog 294 G0 0 [] [] (fun d os=>d= .h 0∧os=[.row 2 1 (jW.map encI)]):=by
 refine aF Tryz.func294 rfl aB rfl (fun w0 F0 lent β0=> ?_)
 repeat'(first|refine sC ?_|((with_reducible refine aj ?_);first|(refine sS ?_;intro Q' hn he hr)|refine sA ?_)|(refine sH ?_;clear hn he hr Q')|((conv=>whnf);first|refine sK ?_|((with_reducible refine bP ?_);(refine au [0] rfl rfl rfl ⟨rfl,?_⟩))))
 all_goals rfl
set_option maxHeartbeats 4000000 in
theorem OD(a:Int)(ha:bU a)(hlo:a % 360000<180000):ak Tryz.prog 279 GS 0 [] [.int .i64 a] (fun d os=>d= .int .i64 (je (qh (a % 360000)))∧os=[]):=by
 have hN:=uG a ha
 have hn0:0≤a % 360000:=by omega
 generalize hn:a % 360000=n at hN hlo hn0⊢
 unfold bU at ha
 have hc:n<90000∨n=90000∨90000<n:=by omega
 rcases hc with hc|rfl|hc
 ·rw[show qh n=n by unfold qh;rw[if_neg ah]]
  have hq:n.tdiv 1000=n/1000:=Int.tdiv_eq_ediv_of_nonneg ah
  have hs:0≤jW.getD (n/1000).toNat 0∧jW.getD (n/1000).toNat 0≤jW.getD (n/1000+1).toNat 0∧jW.getD (n/1000+1).toNat 0≤1000000:=by
   have:=GL (k:=(n/1000).toNat) ah
   rw[show(n/1000+1).toNat=(n/1000).toNat+1 by omega]
   exact this
  refine aF Tryz.func279 rfl aB rfl (fun w0 F0 lent β0=> ?_)
  repeat'(first|refine sC ?_|((with_reducible refine aj ?_);first|(refine sS ?_;intro Q' hn he hr)|refine sA ?_)|(refine sH ?_;clear hn he hr Q')|refine sO ?_|((conv=>whnf);first|refine sK ?_|(refine sB ?_;repeat'(refine aA ?_ ?_<;>intro hb<;>try exact cls))|(refine bZ.mk ⟨by omega,?_⟩)|(refine bn.to (n/1000) hq (wrap64 ah) ?_)|(refine aJ.tab rfl ah ?_)|((with_reducible refine aH ?_);(refine aG (ak.aU (hN)) rfl rfl ?_))|((with_reducible refine aZ ?_);(refine aT (ak.aU (OM _ _ _ _ _ ah ah hs)) rfl rfl ?_))|refine sP ?_|refine sD ?_|(refine au [] rfl rfl rfl ⟨?_,rfl⟩;conv=>lhs;whnf)))
  all_goals
   refine congrArg (D.int _) ?_
   rw[show n-n/1000*1000=n % 1000 by omega,show(n/1000+1).toNat=(n/1000).toNat+1 by omega]
   rfl
 ·have hq:(90000:Int).tdiv 1000=90:=by decide
  refine aF Tryz.func279 rfl aB rfl (fun w0 F0 lent β0=> ?_)
  repeat'(first|refine sC ?_|((with_reducible refine aj ?_);first|(refine sS ?_;intro Q' hn he hr)|refine sA ?_)|(refine sH ?_;clear hn he hr Q')|((conv=>whnf);first|refine sK ?_|(refine sB ?_;repeat'(refine aA ?_ ?_<;>intro hb<;>try exact cls))|(refine bZ.mk ⟨by omega,?_⟩)|(refine bn.to 90 hq (wrap64 ah) ?_)|(refine aJ.tab rfl ah ?_)|((with_reducible refine aH ?_);(refine aG (ak.aU (hN)) rfl rfl ?_))|(refine au [] rfl rfl rfl ⟨?_,rfl⟩;conv=>lhs;whnf)))
  all_goals(refine congrArg (D.int _) ?_;decide+kernel)
 ·rw[show qh n=180000-n by unfold qh;rw[if_pos ah]]
  generalize hm:180000-n=m
  have hq:m.tdiv 1000=m/1000:=Int.tdiv_eq_ediv_of_nonneg ah
  have hs:0≤jW.getD (m/1000).toNat 0∧jW.getD (m/1000).toNat 0≤jW.getD (m/1000+1).toNat 0∧jW.getD (m/1000+1).toNat 0≤1000000:=by
   have:=GL (k:=(m/1000).toNat) ah
   rw[show(m/1000+1).toNat=(m/1000).toNat+1 by omega]
   exact this
  refine aF Tryz.func279 rfl aB rfl (fun w0 F0 lent β0=> ?_)
  repeat'(first|refine sC ?_|((with_reducible refine aj ?_);first|(refine sS ?_;intro Q' hn he hr)|refine sA ?_)|(refine sH ?_;clear hn he hr Q')|refine sO ?_|((conv=>whnf);first|refine sK ?_|(refine sB ?_;repeat'(refine aA ?_ ?_<;>intro hb<;>try exact cls))|(refine bn.to m hm (wrap64 ah) ?_)|(refine bZ.mk ⟨by omega,?_⟩)|(refine bn.to (m/1000) hq (wrap64 ah) ?_)|(refine aJ.tab rfl ah ?_)|((with_reducible refine aH ?_);(refine aG (ak.aU (hN)) rfl rfl ?_))|((with_reducible refine aZ ?_);(refine aT (ak.aU (OM _ _ _ _ _ ah ah hs)) rfl rfl ?_))|refine sP ?_|refine sD ?_|(refine au [] rfl rfl rfl ⟨?_,rfl⟩;conv=>lhs;whnf)))
  all_goals
   refine congrArg (D.int _) ?_
   rw[show m-m/1000*1000=m % 1000 by omega,show(m/1000+1).toNat=(m/1000).toNat+1 by omega]
   rfl
set_option maxHeartbeats 4000000 in
theorem zW(a:Int)(ha:bU a):ak Tryz.prog 279 GS 0 [] [.int .i64 a] (fun d os=>d= .int .i64 (jI a)∧os=[]):=by
 by_cases hlo:a % 360000<180000
 ·have h:=OD a ha hlo
  unfold jI
  rw[if_pos hlo]
  exact h
 ·have hN:=uG a ha
  have hL:=OD (a % 360000-180000) eY ah
  rw[show(a % 360000-180000) % 360000=a % 360000-180000 by omega] at hL
  have hb2:0≤je (qh (a % 360000-180000))∧je (qh (a % 360000-180000))≤1000000:=by
   unfold qh
   split
   ·exact BF ah ah
   ·exact BF ah ah
  unfold jI
  rw[if_neg hlo]
  have hn0:a % 360000<360000:=by omega
  generalize hn:a % 360000=n at hN hL hb2 hlo hn0⊢
  generalize hS:je (qh (n-180000))=S at hL hb2⊢
  refine aF Tryz.func279 rfl aB rfl (fun w0 F0 lent β0=> ?_)
  repeat'(first|refine sC ?_|((with_reducible refine aj ?_);first|(refine sS ?_;intro Q' hn he hr)|refine sA ?_)|(refine sH ?_;clear hn he hr Q')|((conv=>whnf);first|refine sK ?_|(refine sB ?_;repeat'(refine aA ?_ ?_<;>intro hb<;>try exact cls))|((with_reducible refine aH ?_);first|(refine aG (ak.aU (hN)) rfl rfl ?_)|(refine aG hL rfl rfl ?_))|refine sP ?_|(refine au [] rfl rfl rfl ⟨?_,rfl⟩;conv=>lhs;whnf)))
  all_goals(refine congrArg (D.int _) ?_;omega)
theorem GN{k:Nat}(h:k<90): ∃t0 t1,jW[k]? =some t0∧jW[k+1]? =some t1∧(0≤t0∧t0≤t1∧t1≤1000000)∧l7 k=t0∧l7 (k+1)=t1:=by
 have e: ∀j,j<91→jW[j]? =some (l7 j):=fun j hj=>by
  have hj:j<jW.length:=hj
  unfold l7
  rw[List.getD_eq_getElem?_getD,List.getElem?_eq_getElem hj];rfl
 exact⟨_,_,e k ah,e (k+1) ah,GL h,rfl,rfl⟩
set_option maxHeartbeats 4000000 in
theorem Df(a:Int)(ha:bU a):ak Tryz.prog 260 G0 0 [] [.int .i64 a] (fun d os=>d= .int .i64 (jI a)∧os=[]):=by
 have xR:=zY a ha
 have hn0:0≤a % 360000∧a % 360000<360000:=by omega
 unfold jI qh
 generalize hn:a % 360000=n at xR hn0⊢
 unfold bU at ha
 have ahy:jW.length=91:=rfl
 have hc:n<90000∨n=90000∨(90000<n∧n<180000)∨(180000≤n∧n<270000)∨n=270000∨270000<n:=by omega
 rcases hc with hc|rfl|hc|hc|rfl|hc
 ·skip
  rw[if_pos ah,if_neg ah]
  generalize hm:n=m at xR hc hn0⊢
  have hq:m.tdiv 1000=(((m/1000).toNat:Nat):Int):=by rw[Int.tdiv_eq_ediv_of_nonneg ah];omega
  have hr0:m.tmod 1000=m % 1000:=Int.tmod_eq_emod_of_nonneg ah
  generalize hN:(m/1000).toNat=N at hq
  obtain⟨t0,t1,ht0,ht1,hb1,e0,e1⟩:=GN (k:=N) ah
  have hmul:=bH (x:=t1-t0) (y:=m.tmod 1000) (m:=1000000) (n:=1000) ah ah ah
  have hrb:=lI (a:=(t1-t0)*m.tmod 1000) (b:=1000) (m:=1000000) ah ah ah
  have hv:je m=t0+fU ((t1-t0)*m.tmod 1000) 1000:=by unfold je;rw[hN,e0,e1,hr0]
  have hv0:m.tmod 1000=0→je m=t0:=fun h=>by rw[hv,h,Int.mul_zero,Es 1000 ah];omega
  refine aF Tryz.func260 rfl aB rfl (fun w0 F0 lent β0=> ?_)
  repeat'(first|refine sC ?_|((with_reducible refine aj ?_);first|(refine sS ?_;intro Q' hn he hr)|refine sA ?_)|(refine sH ?_;clear hn he hr Q')|refine sO ?_|((conv=>whnf);first|refine sK ?_|(refine sB ?_;repeat'(refine aA ?_ ?_<;>intro hb<;>try exact cls))|(refine bZ.mk ⟨by omega,?_⟩)|(refine bn.to (N:Int) hq (wrap64 ah) ?_)|(refine bn.to (((N+1:Nat)):Int) ah (wrap64 ah) ?_)|(refine Fv 16 aB aB ?_)|(refine aW.nat BO ?_)|((with_reducible refine aH ?_);first|(refine aG (xR) rfl rfl ?_)|(refine Aa zZ rfl dQ ?_))|((with_reducible refine aZ ?_);(refine aT (vC _ _ ah ah) rfl rfl ?_))|refine sP ?_|(refine au [] rfl rfl rfl ⟨?_,rfl⟩;conv=>lhs;whnf)))
  all_goals first
   |(rw[hv0 ah];refine congrArg (D.int _) ?_;omega)
   |(rw[hv];refine congrArg (D.int _) ?_;omega)
 ·skip
  rw[if_pos ah,if_neg ah]
  have hq:(90000:Int).tdiv 1000=((90:Nat):Int):=by decide
  have hr0:(90000:Int).tmod 1000=0:=by decide
  have ht0:jW[90]? =some 1000000:=by decide+kernel
  have hv:je 90000=1000000:=by decide+kernel
  have hv0:(0:Int)=0→je 90000=1000000:=fun _=>hv
  refine aF Tryz.func260 rfl aB rfl (fun w0 F0 lent β0=> ?_)
  repeat'(first|refine sC ?_|((with_reducible refine aj ?_);first|(refine sS ?_;intro Q' hn he hr)|refine sA ?_)|(refine sH ?_;clear hn he hr Q')|((conv=>whnf);first|refine sK ?_|(refine sB ?_;repeat'(refine aA ?_ ?_<;>intro hb<;>try exact cls))|(refine bZ.mk ⟨by omega,?_⟩)|(refine bn.to ((90:Nat):Int) hq (wrap64 ah) ?_)|(refine aW.nat BO ?_)|((with_reducible refine aH ?_);first|(refine aG (xR) rfl rfl ?_)|(refine Aa zZ rfl dQ ?_))|refine sP ?_|(refine au [] rfl rfl rfl ⟨?_,rfl⟩;conv=>lhs;whnf)))
  all_goals first
   |(rw[hv0 ah];refine congrArg (D.int _) ?_;omega)
   |(rw[hv];refine congrArg (D.int _) ?_;omega)
 ·skip
  rw[if_pos ah,if_pos ah]
  generalize hm:180000-n=m
  have hq:m.tdiv 1000=(((m/1000).toNat:Nat):Int):=by rw[Int.tdiv_eq_ediv_of_nonneg ah];omega
  have hr0:m.tmod 1000=m % 1000:=Int.tmod_eq_emod_of_nonneg ah
  generalize hN:(m/1000).toNat=N at hq
  obtain⟨t0,t1,ht0,ht1,hb1,e0,e1⟩:=GN (k:=N) ah
  have hmul:=bH (x:=t1-t0) (y:=m.tmod 1000) (m:=1000000) (n:=1000) ah ah ah
  have hrb:=lI (a:=(t1-t0)*m.tmod 1000) (b:=1000) (m:=1000000) ah ah ah
  have hv:je m=t0+fU ((t1-t0)*m.tmod 1000) 1000:=by unfold je;rw[hN,e0,e1,hr0]
  have hv0:m.tmod 1000=0→je m=t0:=fun h=>by rw[hv,h,Int.mul_zero,Es 1000 ah];omega
  refine aF Tryz.func260 rfl aB rfl (fun w0 F0 lent β0=> ?_)
  repeat'(first|refine sC ?_|((with_reducible refine aj ?_);first|(refine sS ?_;intro Q' hn he hr)|refine sA ?_)|(refine sH ?_;clear hn he hr Q')|refine sO ?_|((conv=>whnf);first|refine sK ?_|(refine sB ?_;repeat'(refine aA ?_ ?_<;>intro hb<;>try exact cls))|(refine bn.to m hm (wrap64 ah) ?_)|(refine bZ.mk ⟨by omega,?_⟩)|(refine bn.to (N:Int) hq (wrap64 ah) ?_)|(refine bn.to (((N+1:Nat)):Int) ah (wrap64 ah) ?_)|(refine Fv 16 aB aB ?_)|(refine aW.nat BO ?_)|((with_reducible refine aH ?_);first|(refine aG (xR) rfl rfl ?_)|(refine Aa zZ rfl dQ ?_))|((with_reducible refine aZ ?_);(refine aT (vC _ _ ah ah) rfl rfl ?_))|refine sP ?_|(refine au [] rfl rfl rfl ⟨?_,rfl⟩;conv=>lhs;whnf)))
  all_goals first
   |(rw[hv0 ah];refine congrArg (D.int _) ?_;omega)
   |(rw[hv];refine congrArg (D.int _) ?_;omega)
 ·skip
  rw[if_neg ah,if_neg ah]
  generalize hm:n-180000=m
  have hq:m.tdiv 1000=(((m/1000).toNat:Nat):Int):=by rw[Int.tdiv_eq_ediv_of_nonneg ah];omega
  have hr0:m.tmod 1000=m % 1000:=Int.tmod_eq_emod_of_nonneg ah
  generalize hN:(m/1000).toNat=N at hq
  obtain⟨t0,t1,ht0,ht1,hb1,e0,e1⟩:=GN (k:=N) ah
  have hmul:=bH (x:=t1-t0) (y:=m.tmod 1000) (m:=1000000) (n:=1000) ah ah ah
  have hrb:=lI (a:=(t1-t0)*m.tmod 1000) (b:=1000) (m:=1000000) ah ah ah
  have hv:je m=t0+fU ((t1-t0)*m.tmod 1000) 1000:=by unfold je;rw[hN,e0,e1,hr0]
  have hv0:m.tmod 1000=0→je m=t0:=fun h=>by rw[hv,h,Int.mul_zero,Es 1000 ah];omega
  refine aF Tryz.func260 rfl aB rfl (fun w0 F0 lent β0=> ?_)
  repeat'(first|refine sC ?_|((with_reducible refine aj ?_);first|(refine sS ?_;intro Q' hn he hr)|refine sA ?_)|(refine sH ?_;clear hn he hr Q')|refine sO ?_|((conv=>whnf);first|refine sK ?_|(refine sB ?_;repeat'(refine aA ?_ ?_<;>intro hb<;>try exact cls))|(refine bn.to m hm (wrap64 ah) ?_)|(refine bZ.mk ⟨by omega,?_⟩)|(refine bn.to (N:Int) hq (wrap64 ah) ?_)|(refine bn.to (((N+1:Nat)):Int) ah (wrap64 ah) ?_)|(refine Fv 16 aB aB ?_)|(refine aW.nat BO ?_)|((with_reducible refine aH ?_);first|(refine aG (xR) rfl rfl ?_)|(refine Aa zZ rfl dQ ?_))|((with_reducible refine aZ ?_);(refine aT (vC _ _ ah ah) rfl rfl ?_))|refine sP ?_|(refine au [] rfl rfl rfl ⟨?_,rfl⟩;conv=>lhs;whnf)))
  all_goals first
   |(rw[hv0 ah];refine congrArg (D.int _) ?_;omega)
   |(rw[hv];refine congrArg (D.int _) ?_;omega)
 ·skip
  rw[if_neg ah,if_neg ah]
  rw[show(270000:Int)-180000=90000 by decide]
  have hq:(90000:Int).tdiv 1000=((90:Nat):Int):=by decide
  have hr0:(90000:Int).tmod 1000=0:=by decide
  have ht0:jW[90]? =some 1000000:=by decide+kernel
  have hv:je 90000=1000000:=by decide+kernel
  have hv0:(0:Int)=0→je 90000=1000000:=fun _=>hv
  refine aF Tryz.func260 rfl aB rfl (fun w0 F0 lent β0=> ?_)
  repeat'(first|refine sC ?_|((with_reducible refine aj ?_);first|(refine sS ?_;intro Q' hn he hr)|refine sA ?_)|(refine sH ?_;clear hn he hr Q')|((conv=>whnf);first|refine sK ?_|(refine sB ?_;repeat'(refine aA ?_ ?_<;>intro hb<;>try exact cls))|(refine bn.to 90000 iU (wrap64 ah) ?_)|(refine bZ.mk ⟨by omega,?_⟩)|(refine bn.to ((90:Nat):Int) hq (wrap64 ah) ?_)|(refine aW.nat BO ?_)|((with_reducible refine aH ?_);first|(refine aG (xR) rfl rfl ?_)|(refine Aa zZ rfl dQ ?_))|refine sP ?_|(refine au [] rfl rfl rfl ⟨?_,rfl⟩;conv=>lhs;whnf)))
  all_goals first
   |(rw[hv0 ah];refine congrArg (D.int _) ?_;omega)
   |(rw[hv];refine congrArg (D.int _) ?_;omega)
 ·skip
  rw[if_neg ah,if_pos ah]
  generalize hm1:n-180000=m1
  generalize hm:180000-m1=m
  have hq:m.tdiv 1000=(((m/1000).toNat:Nat):Int):=by rw[Int.tdiv_eq_ediv_of_nonneg ah];omega
  have hr0:m.tmod 1000=m % 1000:=Int.tmod_eq_emod_of_nonneg ah
  generalize hN:(m/1000).toNat=N at hq
  obtain⟨t0,t1,ht0,ht1,hb1,e0,e1⟩:=GN (k:=N) ah
  have hmul:=bH (x:=t1-t0) (y:=m.tmod 1000) (m:=1000000) (n:=1000) ah ah ah
  have hrb:=lI (a:=(t1-t0)*m.tmod 1000) (b:=1000) (m:=1000000) ah ah ah
  have hv:je m=t0+fU ((t1-t0)*m.tmod 1000) 1000:=by unfold je;rw[hN,e0,e1,hr0]
  have hv0:m.tmod 1000=0→je m=t0:=fun h=>by rw[hv,h,Int.mul_zero,Es 1000 ah];omega
  refine aF Tryz.func260 rfl aB rfl (fun w0 F0 lent β0=> ?_)
  repeat'(first|refine sC ?_|((with_reducible refine aj ?_);first|(refine sS ?_;intro Q' hn he hr)|refine sA ?_)|(refine sH ?_;clear hn he hr Q')|refine sO ?_|((conv=>whnf);first|refine sK ?_|(refine sB ?_;repeat'(refine aA ?_ ?_<;>intro hb<;>try exact cls))|(refine bn.to m1 hm1 (wrap64 ah) ?_)|(refine bn.to m hm (wrap64 ah) ?_)|(refine bZ.mk ⟨by omega,?_⟩)|(refine bn.to (N:Int) hq (wrap64 ah) ?_)|(refine bn.to (((N+1:Nat)):Int) ah (wrap64 ah) ?_)|(refine Fv 16 aB aB ?_)|(refine aW.nat BO ?_)|((with_reducible refine aH ?_);first|(refine aG (xR) rfl rfl ?_)|(refine Aa zZ rfl dQ ?_))|((with_reducible refine aZ ?_);(refine aT (vC _ _ ah ah) rfl rfl ?_))|refine sP ?_|(refine au [] rfl rfl rfl ⟨?_,rfl⟩;conv=>lhs;whnf)))
  all_goals first
   |(rw[hv0 ah];refine congrArg (D.int _) ?_;omega)
   |(rw[hv];refine congrArg (D.int _) ?_;omega)
end Go.Eng
