/-
  Contracts of functions of the program and of the reference, and plain laws: a bundle of texts.
  No conditions.
-/
import Derived.Test.YtocoppijdodffaaGreatDoorHT
import Derived.Test.YtocoppijdodffaaGreatDoorBA
set_option linter.unusedVariables false
set_option linter.unusedSimpArgs false
set_option maxHeartbeats 4000000
namespace Go.Eng
open Go Go.RowKit
def allI{α:Type}(p:Nat→α→Bool)(a:List α):Bool:=(List.range a.length).all fun k=>match a[k]? with
 |some x=>p k x
 |none=>true
def pJ{α:Type}(p:Nat→α→Bool)(a:List α)(k:Nat):Prop:= ∀j x,j<k→a[j]? =some x→p j x=true
theorem wM{α:Type}{p:Nat→α→Bool}{a:List α} :pJ p a 0:=fun _ _ h=>absurd h (Nat.not_lt_zero _)
theorem wL{α:Type}{p:Nat→α→Bool}{a:List α}{k:Nat}{x:α}(h:pJ p a k)(hx:a[k]? =some x)(hp:p k x=true):pJ p a (k+1):=by
 intro j y hj hy
 by_cases e:j=k
 ·subst e;rw[hx] at hy;cases hy;exact hp
 ·exact h j y ah hy
theorem wK{α:Type}{p:Nat→α→Bool}{a:List α}{k:Nat}(h:pJ p a k)(hk:a.length≤k):allI p a=true:=by
 unfold allI
 rw[List.all_eq_true]
 intro j hj
 have hj:=List.mem_range.1 hj
 have hx:a[j]? =some a[j]:=List.getElem?_eq_getElem hj
 rw[hx]
 exact h j _ ah hx
theorem EO{α:Type}{p:Nat→α→Bool}{a:List α}{k:Nat}{x:α}(hx:a[k]? =some x)(hp:p k x=false):allI p a=false:=by
 unfold allI
 rw[List.all_eq_false]
 refine⟨k,List.mem_range.2 (List.getElem?_eq_some_iff.1 hx).1,?_⟩
 rw[hx]
 simp[hp]
theorem Ig{α:Type}{p:Nat→α→Bool}{a:List α}(h:allI p a=true){k:Nat}{x:α}(hx:a[k]? =some x):p k x=true:=by
 unfold allI at h
 have:=List.all_eq_true.1 h k (List.mem_range.2 (List.getElem?_eq_some_iff.1 hx).1)
 rw[hx] at this
 exact this
def tZ{α:Type}(lt:α→α→Bool)(a:List α)(k:Nat)(x:α):Bool:=match k with
 |0=>true
 |j+1=>match a[j]? with
  |some y=>lt y x
  |none=>true
theorem uO{α:Type}{lt:α→α→Bool}{a:List α}{k i:Nat}{x y:α}(hi:i+1=k)(hy:a[i]? =some y):tZ lt a k x=lt y x:=by
 subst hi
 simp[tZ,hy]
theorem Bg{α:Type}{lt:α→α→Bool}{a:List α}{k:Nat}{x:α}(hk: ¬0<k):tZ lt a k x=true:=by
 obtain rfl:k=0:=by omega
 rfl
def iG{α:Type}(q:α→Bool)(a:List α)(k:Nat):Bool:=(a.take k).all fun y=> !q y
theorem D8{α:Type}{q:α→Bool}{a:List α}{k i:Nat}{y:α}(hy:a[i]? =some y)(hi:i<k)(hq:q y=true):iG q a k=false:=by
 unfold iG
 rw[List.all_eq_false]
 refine⟨y,List.mem_of_getElem? (i:=i) (by rw[List.getElem?_take,if_pos hi,hy]),by simp[hq]⟩
theorem D9{α:Type}{q:α→Bool}{a:List α}{k:Nat}(h:jB q a k):iG q a k=true:=by
 unfold iG
 rw[List.all_eq_true]
 intro y hy
 obtain⟨i,hi⟩:=List.getElem?_of_mem hy
 rw[List.getElem?_take] at hi
 split at hi
 ·rename_i hik
  rw[h i y hik hi]
  rfl
 ·cases hi
theorem UD{α:Type}{q:α→Bool}{a:List α}{k:Nat}(hk:k≤a.length):iG q a k=decide (k≤firstAt q a):=by
 cases h:iG q a k with
 |true=>
  symm
  rw[decide_eq_true_eq]
  apply Classical.byContradiction
  intro hc
  have h1:=(xK q a).2 a[firstAt q a] (List.getElem?_eq_getElem ah)
  rw[D8 (List.getElem?_eq_getElem ah) ah h1] at h
  cases h
 |false=>
  symm
  rw[decide_eq_false_iff_not]
  intro hc
  rw[D9 fun j x hj hx=>(xK q a).1 j x ah hx] at h
  cases h
theorem adb{α:Type}{q:α→Bool}{a:List α}{k:Nat}(hk:k≤a.length):(firstAt q (a.take k)<(a.take k).length)↔iG q a k=false:=by
 have hl:(a.take k).length=k:=by rw[List.length_take];omega
 rw[hl]
 constructor
 ·intro h
  have h1:=(xK q (a.take k)).2 (a.take k)[firstAt q (a.take k)] (List.getElem?_eq_getElem ah)
  refine D8 (i:=firstAt q (a.take k)) (y:=(a.take k)[firstAt q (a.take k)]) ?_ h h1
  have h2:(a.take k)[firstAt q (a.take k)]? =some (a.take k)[firstAt q (a.take k)]:=List.getElem?_eq_getElem ah
  rwa [List.getElem?_take,if_pos h] at h2
 ·intro h
  apply Classical.byContradiction
  intro hc
  have h1:=JI q (a.take k)
  rw[D9 fun j x hj hx=>(xK q (a.take k)).1 j x ah (by rw[List.getElem?_take,if_pos hj,hx])] at h
  cases h
def dV{α:Type}(q:α→Bool)(a:List α):Int:=if firstAt q a<a.length then firstAt q a else-1
theorem SE{α:Type}{q:α→Bool}{a:List α}{k:Nat}{x:α}(hx:a[k]? =some x)(hq:q x=true):dV q a=firstAt q a∧firstAt q a≤k:=by
 have h1:=(List.getElem?_eq_some_iff.1 hx).1
 have h2:firstAt q a≤k:=by
  apply Classical.byContradiction
  intro hc
  rw[(xK q a).1 k x ah hx] at hq
  cases hq
 unfold dV
 rw[if_pos ah]
 exact⟨rfl,h2⟩
theorem AB{α:Type}{q:α→Bool}{a:List α}{k:Nat}(hk:k≤a.length):(0≤dV q (a.take k))↔iG q a k=false:=by
 rw[←adb hk]
 unfold dV
 have hl:(a.take k).length=k:=by rw[List.length_take];omega
 split
 ·exact⟨fun _=>by assumption,fun _=>by omega⟩
 ·exact⟨fun h=>by omega,fun h=>absurd h aO⟩
theorem y9{α:Type}{q:α→Bool}{a:List α}{k:Nat}{x:α}(h:jB q a k)(hx:a[k]? =some x)(hq:q x=true):dV q a=k:=by
 have:=Dw h hx hq
 unfold dV
 rw[this,if_pos (List.getElem?_eq_some_iff.1 hx).1]
theorem zf{α:Type}{q:α→Bool}{a:List α}{k:Nat}(h:jB q a k)(hk:a.length≤k):dV q a= -1:=by
 unfold dV
 rw[JJ h hk,if_neg ah]
theorem Fp{α:Type}{enc:α→List D}{a:List α}{k s:Nat} :D.sl s ((a.take k).map enc)=D.sl s (gJ (a.map enc) none (some k)):=by
 simp[gJ,List.map_take]
theorem acs{α:Type}{enc:α→List D}{a:List α}{k:Nat}(h:k≤a.length):D.int .i64 (k:Int)=D.int .i64 ((gJ (a.map enc) none (some k)).length:Int):=by
 refine congrArg (D.int _) ?_
 simp[gJ]
 omega
theorem take_at{α:Type}{a:List α}{k j:Nat}{x:α}(h:(a.take k)[j]? =some x):a[j]? =some x:=by
 rw[List.getElem?_take] at h
 split at h
 ·exact h
 ·cases h
end Go.Eng
namespace Go.Eng
open Go Go.RowKit Go.Proofs
set_option maxRecDepth 100000
theorem aag(n:Int):ak Tryz.prog 242 G0 0 [] [.int .i64 n] (fun d os=>d= .bool (inB n 0 359999)∧os=[]):=by
 refine aF Tryz.func242 rfl aB rfl (fun w0 F0 lent β0=> ?_)
 repeat'(first|refine sC ?_|((with_reducible refine aj ?_);first|(refine sS ?_;intro Q' hn he hr)|refine sA ?_)|(refine sH ?_;clear hn he hr Q')|((conv=>whnf);first|refine sK ?_|((with_reducible refine aH ?_);(refine aG (iy _ _ _) rfl rfl ?_))|(refine au [] rfl rfl rfl ⟨?_,rfl⟩;conv=>lhs;whnf)))
theorem PG(n:Int):ak Tryz.prog 129 G0 0 [] [.int .i64 n] (fun d os=>d= .bool (inB n (-90000) 90000)∧os=[]):=by
 refine aF Tryz.func129 rfl aB rfl (fun w0 F0 lent β0=> ?_)
 repeat'(first|refine sC ?_|((with_reducible refine aj ?_);first|(refine sS ?_;intro Q' hn he hr)|refine sA ?_)|(refine sH ?_;clear hn he hr Q')|((conv=>whnf);first|refine sK ?_|((with_reducible refine aH ?_);(refine aG (iy _ _ _) rfl rfl ?_))|(refine au [] rfl rfl rfl ⟨?_,rfl⟩;conv=>lhs;whnf)))
theorem SK{n l h:Int}(hb:inB n l h=true):l≤n∧n≤h:=by simpa[inB] using hb
def jD(d:dn):Bool:=nameB d.fName&&(inB d.bY 1000 30000&&inB d.uH 0 45000)
theorem IG(d:dn):ak Tryz.prog 142 G0 0 [] [.agg (jE d)] (fun e os=>e= .bool (jD d)∧os=[]):=by
 refine aF Tryz.func142 rfl aB rfl (fun w0 F0 lent β0=> ?_)
 repeat'(first|refine sC ?_|((with_reducible refine aj ?_);first|(refine sS ?_;intro Q' hn he hr)|refine sA ?_)|(refine sH ?_;clear hn he hr Q')|((conv=>whnf);first|refine sK ?_|(refine sB ?_;repeat'(first|refine sb0 ?_|(refine aA ?_ ?_<;>intro hb<;>try exact cls)))|((with_reducible refine aH ?_);first|(refine aG (rX _) rfl rfl ?_)|(refine aG (iQ _ _ _) rfl rfl ?_))|(refine au [] rfl rfl rfl ⟨?_,rfl⟩;conv=>lhs;whnf)))
 all_goals simp[jD, *]
theorem PI(d:dn)(r:List D):ak Tryz.prog 114 G0 0 [] [.rp (jE d++r)] (fun e os=>e= .bool (jD d)∧os=[]):=by
 refine aF Tryz.func114 rfl aB rfl (fun w0 F0 lent β0=> ?_)
 repeat'(first|refine sC ?_|((with_reducible refine aj ?_);first|(refine sS ?_;intro Q' hn he hr)|refine sA ?_)|(refine sH ?_;clear hn he hr Q')|((conv=>whnf);first|refine sK ?_|(refine sB ?_;repeat'(first|refine sb0 ?_|(refine aA ?_ ?_<;>intro hb<;>try exact cls)))|((with_reducible refine aH ?_);first|(refine aG (rZ _) rfl rfl ?_)|(refine aG (iy _ _ _) rfl rfl ?_))|(refine au [] rfl rfl rfl ⟨?_,rfl⟩;conv=>lhs;whnf)))
 all_goals simp[jD, *]
def ni(p:bW):Bool:=nameB p.fName&&(wR p.jS p.jR&&(inB p.lV 5000 120000&&inB p.xH 1 1000))
def zo(a b:bW):Bool:=Op.bytesLess a.fName b.fName
def jV(a:List bW):Bool:=decide (a.length≤6)&&jG ni zo a
theorem afS{a:List bW}(h: ¬a.length≤6):jV a=false:=by simp[jV,h]
theorem Zw(p:bW):ak Tryz.prog 209 G0 0 [] [.agg (dR p)] (fun e os=>e= .bool (ni p)∧os=[]):=by
 refine aF Tryz.func209 rfl aB rfl (fun w0 F0 lent β0=> ?_)
 repeat'(first|refine sC ?_|((with_reducible refine aj ?_);first|(refine sS ?_;intro Q' hn he hr)|refine sA ?_)|(refine sH ?_;clear hn he hr Q')|((conv=>whnf);first|refine sK ?_|(refine sB ?_;repeat'(first|refine sb0 ?_|(refine aA ?_ ?_<;>intro hb<;>try exact cls)))|((with_reducible refine aH ?_);first|(refine aG (rX _) rfl rfl ?_)|(refine aG (PY _ _) rfl rfl ?_)|(refine aG (iQ _ _ _) rfl rfl ?_))|(refine au [] rfl rfl rfl ⟨?_,rfl⟩;conv=>lhs;whnf)))
 all_goals simp[ni, *]
theorem aan(p:bW):ak Tryz.prog 178 G0 0 [] [.rp (dR p)] (fun e os=>e= .bool (ni p)∧os=[]):=by
 refine aF Tryz.func178 rfl aB rfl (fun w0 F0 lent β0=> ?_)
 repeat'(first|refine sC ?_|((with_reducible refine aj ?_);first|(refine sS ?_;intro Q' hn he hr)|refine sA ?_)|(refine sH ?_;clear hn he hr Q')|((conv=>whnf);first|refine sK ?_|(refine sB ?_;repeat'(first|refine sb0 ?_|(refine aA ?_ ?_<;>intro hb<;>try exact cls)))|((with_reducible refine aH ?_);first|(refine aG (rZ _) rfl rfl ?_)|(refine aG (aag _) rfl rfl ?_)|(refine aG (PG _) rfl rfl ?_)|(refine aG (iy _ _ _) rfl rfl ?_))|(refine au [] rfl rfl rfl ⟨?_,rfl⟩;conv=>lhs;whnf)))
 all_goals simp[ni,wR, *]
theorem II(a:List bW):ak Tryz.prog 143 G0 0 [] [.sl 5 (a.map dR)] (fun d os=>d= .bool (jV a)∧os=[]):=by
 refine aF Tryz.func143 rfl aB rfl (fun w0 F0 lent β0=> ?_)
 repeat'(first|refine sC ?_|((with_reducible refine aj ?_);first|(refine sS ?_;intro Q' hn he hr)|refine sA ?_)|(refine sH ?_;clear hn he hr Q')|((conv=>whnf);first|refine sK ?_|(refine sB ?_;repeat'(refine aA ?_ ?_<;>intro hb<;>try exact cls))|(refine sL ?_;intro hlen)|(refine au [] rfl rfl rfl ⟨?_,rfl⟩;conv=>lhs;whnf)))
 ·rw[afS ah]
 ·refine aQ (fun k:Nat=>[(2,.bool false),(8,.sl 5 (a.map dR)),(0,.sl 5 (a.map dR)),(9,.int .i64 a.length),(10,.int .i64 k)]) (fun _=>[]) (fun k=>k≤a.length∧jT ni zo a k) (fun k=>a.length-k) 0 ⟨by omega,ng⟩ aI (fun k hk Q' hn he hr=> ?_)
  repeat'(first|refine sC ?_|((with_reducible refine aj ?_);first|(refine sS ?_;intro Q' hn he hr)|refine sA ?_)|(refine sH ?_;clear hn he hr Q')|refine sO ?_|((conv=>whnf);first|refine sK ?_|(refine sB ?_;repeat'(first|refine sb0 ?_|(refine aA ?_ ?_<;>intro hb<;>try exact cls)))|((with_reducible refine aZ ?_);(refine aT (Zw _) rfl rfl ?_))|refine sP ?_|(refine sE ?_;intro x hx)|(refine sF ?_;intro i y hi hy)|refine sD ?_|(refine au [] rfl rfl rfl ⟨?_,rfl⟩;conv=>lhs;whnf)|(refine sH ?_;clear hn he hr Q')))
  all_goals first
   |(have h9:=mW (p:=ni) (lt:=zo) hx aO;simp[jV,h9];done)
   |(have h9:=mX (p:=ni) (lt:=zo) hx ah hy aO;simp[jV,h9];done)
   |(refine⟨k+1,⟨by omega,mZ hk.2 hx aO (fun i' y' hi' hy'=> ?_)⟩,by omega,aI⟩;first|(exfalso;omega)|(obtain rfl:i'=i:=ah;rw[hy] at hy';cases hy';assumption))
   |(have h9:=iF hk.2 ah;simp[jV,h9];done)
   |(have h9:=iF hk.2 ah;simp[jV,h9];omega)
theorem IX(a:List bW):ak Tryz.prog 115 G0 0 [] [.sl 5 (a.map dR)] (fun d os=>d= .bool (jV a)∧os=[]):=by
 refine aF Tryz.func115 rfl aB rfl (fun w0 F0 lent β0=> ?_)
 repeat'(first|refine sC ?_|((with_reducible refine aj ?_);first|(refine sS ?_;intro Q' hn he hr)|refine sA ?_)|(refine sH ?_;clear hn he hr Q')|((conv=>whnf);refine sK ?_))
 refine aQ (fun k:Nat=>[(2,.bool false),(0,.sl 5 (a.map dR)),(3,.int .i64 k)]) (fun _=>[]) (fun k=>k≤a.length∧jT ni zo a k) (fun k=>a.length-k) 0 ⟨by omega,ng⟩ aI (fun k hk Q' hn he hr=> ?_)
 repeat'(first|refine sC ?_|((with_reducible refine aj ?_);first|(refine sS ?_;intro Q' hn he hr)|refine sA ?_)|(refine sH ?_;clear hn he hr Q')|refine sO ?_|((conv=>whnf);first|refine sK ?_|(refine sB ?_;repeat'(first|refine sb0 ?_|(refine aA ?_ ?_<;>intro hb<;>try exact cls)))|((with_reducible refine aZ ?_);(refine lu (aan _) rfl ?_))|refine sP ?_|(refine sE ?_;intro x hx)|(refine sF ?_;intro i y hi hy)|(refine sL ?_;intro hlen)|refine sD ?_|(refine au [] rfl rfl rfl ⟨?_,rfl⟩;conv=>lhs;whnf)|(refine sH ?_;clear hn he hr Q')))
 all_goals first
  |(have h9:=mW (p:=ni) (lt:=zo) hx aO;simp[jV,h9];done)
  |(have h9:=mX (p:=ni) (lt:=zo) hx ah hy aO;simp[jV,h9];done)
  |(refine⟨k+1,⟨by omega,mZ hk.2 hx aO (fun i' y' hi' hy'=> ?_)⟩,by omega,aI⟩;first|(exfalso;omega)|(obtain rfl:i'=i:=ah;rw[hy] at hy';cases hy';assumption))
  |(have h9:=iF hk.2 ah;simp[jV,h9];done)
  |(have h9:=iF hk.2 ah;simp[jV,h9];omega)
def jH(r:bK):Bool:=inB r.bY 500 30000&&(inB r.fCount 1 60&&(inB r.vH 0 359999&&(inB r.dw 1000 90000&&(inB r.Ak 0 10000&&decide (r.fCount*r.dw≤360000)))))
def qZ(a b:bK):Bool:=decide (a.bY<b.bY)
def dO(a:List bK):Int:=(a.map (·.fCount)).sum
def gZ(a:List bK):Bool:=decide (a.length≤6)&&(jG jH qZ a&&decide (dO a≤120))
theorem VA{r:bK}(h1:inB r.fCount 1 60=true)(h2:inB r.dw 1000 90000=true):0≤r.fCount*r.dw∧r.fCount*r.dw≤5400000:=by
 simp only[inB,decide_eq_true_eq] at h1 h2
 refine⟨Int.mul_nonneg ah ah,?_⟩
 have:=Int.mul_le_mul h1.2 h2.2 ah ah
 omega
theorem Zx(r:bK):ak Tryz.prog 210 G0 0 [] [.agg (dS r)] (fun e os=>e= .bool (jH r)∧os=[]):=by
 refine aF Tryz.func210 rfl aB rfl (fun w0 F0 lent β0=> ?_)
 repeat'(first|refine sC ?_|((with_reducible refine aj ?_);first|(refine sS ?_;intro Q' hn he hr)|refine sA ?_)|(refine sH ?_;clear hn he hr Q')|((conv=>whnf);first|refine sK ?_|(refine sB ?_;repeat'(first|refine sb0 ?_|(refine aA ?_ ?_<;>intro hb<;>try exact cls)))|(refine bn.lD (by have h9:=VA (r:=r) aO aO;omega) ?_)|((with_reducible refine aH ?_);(refine aG (iQ _ _ _) rfl rfl ?_))|(refine au [] rfl rfl rfl ⟨?_,rfl⟩;conv=>lhs;whnf)))
 all_goals(simp[jH, *]<;>done)
theorem Z9(n:Int):ak Tryz.prog 249 G0 0 [] [.int .i64 n] (fun d os=>d= .bool (inB n 0 359999)∧os=[]):=by
 refine aF Tryz.func249 rfl aB rfl (fun w0 F0 lent β0=> ?_)
 repeat'(first|refine sC ?_|((with_reducible refine aj ?_);first|(refine sS ?_;intro Q' hn he hr)|refine sA ?_)|(refine sH ?_;clear hn he hr Q')|((conv=>whnf);first|refine sK ?_|((with_reducible refine aH ?_);(refine aG (iy _ _ _) rfl rfl ?_))|(refine au [] rfl rfl rfl ⟨?_,rfl⟩;conv=>lhs;whnf)))
theorem aaJ(r:bK):ak Tryz.prog 243 G0 0 [] [.rp (dS r)] (fun e os=>e= .bool (jH r)∧os=[]):=by
 refine aF Tryz.func243 rfl aB rfl (fun w0 F0 lent β0=> ?_)
 repeat'(first|refine sC ?_|((with_reducible refine aj ?_);first|(refine sS ?_;intro Q' hn he hr)|refine sA ?_)|(refine sH ?_;clear hn he hr Q')|refine sO ?_|((conv=>whnf);first|refine sK ?_|(refine sB ?_;repeat'(first|refine sb0 ?_|(refine aA ?_ ?_<;>intro hb<;>try exact cls)))|(refine bn.lD (by have h9:=VA (r:=r) aO aO;omega) ?_)|((with_reducible refine aZ ?_);first|(refine aT (iy _ _ _) rfl rfl ?_)|(refine aT (Z9 _) rfl rfl ?_))|refine sD ?_|(refine au [] rfl rfl rfl ⟨?_,rfl⟩;conv=>lhs;whnf)))
 all_goals(simp[jH, *]<;>done)
theorem WG{a:List bK}{k:Nat}{x:bK}(h:a[k]? =some x):dO (a.take (k+1))=dO (a.take k)+x.fCount:=by
 unfold dO
 rw[List.take_add_one,h]
 simp
theorem Ep{r:bK}(h:jH r=true):1≤r.fCount∧r.fCount≤60:=by
 simp only[jH,inB,Bool.and_eq_true,decide_eq_true_eq] at h
 exact h.2.1
theorem WC{a:List bK}(h: ∀(k:Nat) x,a[k]? =some x→jH x=true):(0≤dO a∧dO a≤60*a.length):=by
 induction a with
 |nil=>simp[dO]
 |cons m r ih=>
  have h1:=Ep (h 0 m rfl)
  have h2:=ih fun k x hx=>h (k+1) x EL
  unfold dO at*
  rw[List.map_cons,List.sum_cons,List.length_cons]
  omega
theorem WH{a:List bK}(h: ∀(k:Nat) x,a[k]? =some x→jH x=true)(k:Nat):0≤dO (a.take k)∧dO (a.take k)≤60*a.length:=by
 have h1:=WC (a:=a.take k) fun j x hx=>by
  rw[List.getElem?_take] at hx
  split at hx
  ·exact h j x hx
  ·cases hx
 have h2:(a.take k).length≤a.length:=by rw[List.length_take];omega
 omega
theorem OZ(a:List bK)(h: ∀(k:Nat) x,a[k]? =some x→jH x=true)(hl:a.length≤6):ak Tryz.prog 146 G0 0 [] [.sl 5 (a.map dS)] (fun d os=>d= .int .i64 (dO a)∧os=[]):=by
 refine aF Tryz.func146 rfl aB rfl (fun w0 F0 lent β0=> ?_)
 repeat'(first|refine sC ?_|((with_reducible refine aj ?_);first|(refine sS ?_;intro Q' hn he hr)|refine sA ?_)|(refine sH ?_;clear hn he hr Q')|((conv=>whnf);first|refine sK ?_|(refine sL ?_;intro hlen)))
 refine aQ (fun k:Nat=>[(0,.sl 5 (a.map dS)),(3,.int .i64 (dO (a.take k))),(6,.sl 5 (a.map dS)),(7,.int .i64 a.length),(8,.int .i64 k)]) (fun _=>[]) (fun k=>k≤a.length) (fun k=>a.length-k) 0 ah aI (fun k hk Q' hn he hr=> ?_)
 have hsb:=WH h k
 repeat'(first|refine sC ?_|((with_reducible refine aj ?_);first|(refine sS ?_;intro Q' hn he hr)|refine sA ?_)|(refine sH ?_;clear hn he hr Q')|((conv=>whnf);first|refine sK ?_|(refine sB ?_;repeat'(refine aA ?_ ?_<;>intro hb<;>try exact cls))|(refine bn.lD (by have h9:=Ep (h _ _ hx);omega) ?_)|(refine sE ?_;intro x hx)|(refine au [] rfl rfl rfl ⟨?_,rfl⟩;conv=>lhs;whnf)|(refine sH ?_;clear hn he hr Q')))
 ·refine⟨k+1,by omega,by omega,?_⟩
  rw[WG hx]
  exact aI
 ·obtain rfl:k=a.length:=by omega
  rw[List.take_length]
theorem PN(a:List bK)(h: ∀(k:Nat) x,a[k]? =some x→jH x=true)(hl:a.length≤6):ak Tryz.prog 181 G0 0 [] [.sl 5 (a.map dS)] (fun d os=>d= .int .i64 (dO a)∧os=[]):=by
 refine aF Tryz.func181 rfl aB rfl (fun w0 F0 lent β0=> ?_)
 repeat'(first|refine sC ?_|((with_reducible refine aj ?_);first|(refine sS ?_;intro Q' hn he hr)|refine sA ?_)|(refine sH ?_;clear hn he hr Q')|((conv=>whnf);refine sK ?_))
 refine aQ (fun k:Nat=>[(0,.sl 5 (a.map dS)),(3,.int .i64 (dO (a.take k))),(4,.int .i64 k)]) (fun _=>[]) (fun k=>k≤a.length) (fun k=>a.length-k) 0 ah aI (fun k hk Q' hn he hr=> ?_)
 have hsb:=WH h k
 repeat'(first|refine sC ?_|((with_reducible refine aj ?_);first|(refine sS ?_;intro Q' hn he hr)|refine sA ?_)|(refine sH ?_;clear hn he hr Q')|((conv=>whnf);first|refine sK ?_|(refine sB ?_;repeat'(refine aA ?_ ?_<;>intro hb<;>try exact cls))|(refine bn.lD (by have h9:=Ep (h _ _ hx);omega) ?_)|(refine sE ?_;intro x hx)|(refine sL ?_;intro hlen)|(refine au [] rfl rfl rfl ⟨?_,rfl⟩;conv=>lhs;whnf)|(refine sH ?_;clear hn he hr Q')))
 ·refine⟨k+1,by omega,by omega,?_⟩
  rw[WG hx]
  exact aI
 ·obtain rfl:k=a.length:=by omega
  rw[List.take_length]
theorem VB{a:List bK}(h: ¬a.length≤6):gZ a=false:=by simp[gZ,h]
theorem agn{a:List bK} :gZ a=true↔a.length≤6∧jG jH qZ a=true∧dO a≤120:=by simp[gZ]
theorem Bq{a:List bK}(h:gZ a=true):(∀(k:Nat) x,a[k]? =some x→jH x=true)∧a.length≤6∧0≤dO a∧dO a≤120:=by
 obtain⟨h1,h2,h3⟩:=agn.1 h
 have h4: ∀(k:Nat) x,a[k]? =some x→jH x=true:=fun k x hx=>AP h2 hx
 exact⟨h4,h1,(WC h4).1,h3⟩
theorem UL{α:Type}{p:α→Bool}{lt:α→α→Bool}{a:List α}{k:Nat}(h:jT p lt a k)(hk:a.length≤k): ∀(j:Nat) x,a[j]? =some x→p x=true:=fun j x hx=>(h j x (by have:=(List.getElem?_eq_some_iff.1 hx).1;omega) hx).1
theorem OL(a:List bK):ak Tryz.prog 144 G0 0 [] [.sl 5 (a.map dS)] (fun d os=>d= .bool (gZ a)∧os=[]):=by
 refine aF Tryz.func144 rfl aB rfl (fun w0 F0 lent β0=> ?_)
 repeat'(first|refine sC ?_|((with_reducible refine aj ?_);first|(refine sS ?_;intro Q' hn he hr)|refine sA ?_)|(refine sH ?_;clear hn he hr Q')|((conv=>whnf);first|refine sK ?_|(refine sB ?_;repeat'(refine aA ?_ ?_<;>intro hb<;>try exact cls))|(refine sL ?_;intro hlen)|(refine au [] rfl rfl rfl ⟨?_,rfl⟩;conv=>lhs;whnf)))
 ·rw[VB ah]
 ·refine aQ (fun k:Nat=>[(2,.bool false),(8,.sl 5 (a.map dS)),(0,.sl 5 (a.map dS)),(9,.int .i64 a.length),(10,.int .i64 k)]) (fun _=>[]) (fun k=>k≤a.length∧jT jH qZ a k) (fun k=>a.length-k) 0 ⟨by omega,ng⟩ aI (fun k hk Q' hn he hr=> ?_)
  repeat'(first|refine sC ?_|((with_reducible refine aj ?_);first|(refine sS ?_;intro Q' hn he hr)|refine sA ?_)|(refine sH ?_;clear hn he hr Q')|refine sO ?_|((conv=>whnf);first|refine sK ?_|(refine sB ?_;repeat'(first|refine sb0 ?_|(refine aA ?_ ?_<;>intro hb<;>try exact cls)))|((with_reducible refine aH ?_);(refine aG (OZ a (UL hk.2 ah) ah) rfl rfl ?_))|((with_reducible refine aZ ?_);(refine aT (Zx _) rfl rfl ?_))|refine sP ?_|(refine sE ?_;intro x hx)|(refine sF ?_;intro i y hi hy)|refine sD ?_|(refine au [] rfl rfl rfl ⟨?_,rfl⟩;conv=>lhs;whnf)|(refine sH ?_;clear hn he hr Q')))
  all_goals first
   |(have h9:=mW (lt:=qZ) hx aO;simp[gZ,h9];done)
   |(have h9:=mX (p:=jH) (lt:=qZ) hx ah hy (by simp[qZ];omega);simp[gZ,h9];done)
   |(refine⟨k+1,⟨by omega,mZ hk.2 hx aO (fun i' y' hi' hy'=> ?_)⟩,by omega,aI⟩;first|(exfalso;omega)|(obtain rfl:i'=i:=ah;rw[hy] at hy';cases hy';simp[qZ];omega))
   |(have h9:=iF hk.2 ah;have h8:a.length≤6:=ah;simp[gZ,h9,h8];done)
theorem PO(a:List bK):ak Tryz.prog 179 G0 0 [] [.sl 5 (a.map dS)] (fun d os=>d= .bool (gZ a)∧os=[]):=by
 refine aF Tryz.func179 rfl aB rfl (fun w0 F0 lent β0=> ?_)
 repeat'(first|refine sC ?_|((with_reducible refine aj ?_);first|(refine sS ?_;intro Q' hn he hr)|refine sA ?_)|(refine sH ?_;clear hn he hr Q')|((conv=>whnf);refine sK ?_))
 refine aQ (fun k:Nat=>[(2,.bool false),(0,.sl 5 (a.map dS)),(3,.int .i64 k)]) (fun _=>[]) (fun k=>k≤a.length∧jT jH qZ a k) (fun k=>a.length-k) 0 ⟨by omega,ng⟩ aI (fun k hk Q' hn he hr=> ?_)
 repeat'(first|refine sC ?_|((with_reducible refine aj ?_);first|(refine sS ?_;intro Q' hn he hr)|refine sA ?_)|(refine sH ?_;clear hn he hr Q')|refine sO ?_|((conv=>whnf);first|refine sK ?_|(refine sB ?_;repeat'(first|refine sb0 ?_|(refine aA ?_ ?_<;>intro hb<;>try exact cls)))|((with_reducible refine aH ?_);(refine aG (PN a (UL hk.2 ah) ah) rfl rfl ?_))|((with_reducible refine aZ ?_);(refine lu (aaJ _) rfl ?_))|refine sP ?_|(refine sE ?_;intro x hx)|(refine sF ?_;intro i y hi hy)|(refine sL ?_;intro hlen)|refine sD ?_|(refine au [] rfl rfl rfl ⟨?_,rfl⟩;conv=>lhs;whnf)|(refine sH ?_;clear hn he hr Q')))
 all_goals first
  |(have h9:=mW (lt:=qZ) hx aO;simp[gZ,h9];done)
  |(have h9:=mX (p:=jH) (lt:=qZ) hx ah hy (by simp[qZ];omega);simp[gZ,h9];done)
  |(refine⟨k+1,⟨by omega,mZ hk.2 hx aO (fun i' y' hi' hy'=> ?_)⟩,by omega,aI⟩;first|(exfalso;omega)|(obtain rfl:i'=i:=ah;rw[hy] at hy';cases hy';simp[qZ];omega))
  |(have h9:=iF hk.2 ah;have h8:a.length≤6:=ah;simp[gZ,h9,h8];done)
  |(rw[VB ah])
def qy(a b:Int):Bool:=decide (a<b)
def oP(n:Int)(a:List Int):Bool:=jG (fun k=>inB k 0 (n-1)) qy a
theorem Y5(a:List Int)(n:Int)(hn0:0≤n∧n≤1000000):ak Tryz.prog 145 G0 0 [] [.sl 1 (a.map encI), .int .i64 n] (fun d os=>d= .bool (oP n a)∧os=[]):=by
 refine aF Tryz.func145 rfl aB rfl (fun w0 F0 lent β0=> ?_)
 repeat'(first|refine sC ?_|((with_reducible refine aj ?_);first|(refine sS ?_;intro Q' hn he hr)|refine sA ?_)|(refine sH ?_;clear hn he hr Q')|((conv=>whnf);first|refine sK ?_|(refine sL ?_;intro hlen)))
 refine aQ (fun k:Nat=>[(0,.sl 1 (a.map encI)),(1,.int .i64 n),(7,.sl 1 (a.map encI)),(8,.int .i64 a.length),(9,.int .i64 k)]) (fun _=>[]) (fun k=>k≤a.length∧jT (fun k=>inB k 0 (n-1)) qy a k) (fun k=>a.length-k) 0 ⟨by omega,ng⟩ aI (fun k hk Q' hn he hr=> ?_)
 repeat'(first|refine sC ?_|((with_reducible refine aj ?_);first|(refine sS ?_;intro Q' hn he hr)|refine sA ?_)|(refine sH ?_;clear hn he hr Q')|((conv=>whnf);first|refine sK ?_|(refine sB ?_;repeat'(first|refine sb0 ?_|(refine aA ?_ ?_<;>intro hb<;>try exact cls)))|((with_reducible refine aH ?_);(refine aG (iQ _ _ _) rfl rfl ?_))|refine sP ?_|(refine sE ?_;intro x hx)|(refine sF ?_;intro i y hi hy)|(refine au [] rfl rfl rfl ⟨?_,rfl⟩;conv=>lhs;whnf)|(refine sH ?_;clear hn he hr Q')))
 all_goals first
  |(have h9:=mW (p:=fun k=>inB k 0 (n-1)) (lt:=qy) hx aO;simp[oP,h9];done)
  |(have h9:=mX (p:=fun k=>inB k 0 (n-1)) (lt:=qy) hx ah hy (by simp[qy];omega);simp[oP,h9];done)
  |(refine⟨k+1,⟨by omega,mZ hk.2 hx aO (fun i' y' hi' hy'=> ?_)⟩,by omega,aI⟩;first|(exfalso;omega)|(obtain rfl:i'=i:=ah;rw[hy] at hy';cases hy';simp[qy];omega))
  |(have h9:=iF hk.2 ah;simp[oP,h9];done)
theorem Z4(a:List Int)(n:Int):ak Tryz.prog 180 G0 0 [] [.sl 1 (a.map encI), .int .i64 0, .int .i64 (n-1)] (fun d os=>d= .bool (oP n a)∧os=[]):=by
 refine aF Tryz.func180 rfl aB rfl (fun w0 F0 lent β0=> ?_)
 repeat'(first|refine sC ?_|((with_reducible refine aj ?_);first|(refine sS ?_;intro Q' hn he hr)|refine sA ?_)|(refine sH ?_;clear hn he hr Q')|((conv=>whnf);refine sK ?_))
 refine aQ (fun k:Nat=>[(0,.sl 1 (a.map encI)),(1,.int .i64 0),(2,.int .i64 (n-1)),(7,.int .i64 k)]) (fun _=>[]) (fun k=>k≤a.length∧jT (fun k=>inB k 0 (n-1)) qy a k) (fun k=>a.length-k) 0 ⟨by omega,ng⟩ aI (fun k hk Q' hn he hr=> ?_)
 repeat'(first|refine sC ?_|((with_reducible refine aj ?_);first|(refine sS ?_;intro Q' hn he hr)|refine sA ?_)|(refine sH ?_;clear hn he hr Q')|refine sO ?_|((conv=>whnf);first|refine sK ?_|(refine sB ?_;repeat'(first|refine sb0 ?_|(refine aA ?_ ?_<;>intro hb<;>try exact cls)))|((with_reducible refine aZ ?_);(refine aT (iy _ _ _) rfl rfl ?_))|refine sP ?_|(refine sE ?_;intro x hx)|(refine sF ?_;intro i y hi hy)|(refine sL ?_;intro hlen)|refine sD ?_|(refine au [] rfl rfl rfl ⟨?_,rfl⟩;conv=>lhs;whnf)|(refine sH ?_;clear hn he hr Q')))
 all_goals first
  |(have h9:=mW (p:=fun k=>inB k 0 (n-1)) (lt:=qy) hx aO;simp[oP,h9];done)
  |(have h9:=mX (p:=fun k=>inB k 0 (n-1)) (lt:=qy) hx ah hy (by simp[qy];omega);simp[oP,h9];done)
  |(refine⟨k+1,⟨by omega,mZ hk.2 hx aO (fun i' y' hi' hy'=> ?_)⟩,by omega,aI⟩;first|(exfalso;omega)|(obtain rfl:i'=i:=ah;rw[hy] at hy';cases hy';simp[qy];omega))
  |(have h9:=iF hk.2 ah;simp[oP,h9];done)
theorem aaH(a:List bK)(b:List Int):ak Tryz.prog 117 G0 0 [] [.sl 5 (a.map dS), .sl 1 (b.map encI)] (fun d os=>d= .int .i64 (bif gZ a&&oP (dO a) b then 0 else 1)∧os=[]):=by
 refine aF Tryz.func117 rfl aB rfl (fun w0 F0 lent β0=> ?_)
 cases hv:gZ a with
 |false=>
  repeat'(first|refine sC ?_|((with_reducible refine aj ?_);first|(refine sS ?_;intro Q' hn he hr)|refine sA ?_)|(refine sH ?_;clear hn he hr Q')|((conv=>whnf);first|refine sK ?_|(refine sB ?_;repeat'(first|refine sb0 ?_|(refine aA ?_ ?_<;>intro hb<;>try exact cls)))|((with_reducible refine aH ?_);(refine aG (PO a) rfl rfl ?_))|(refine au [] rfl rfl rfl ⟨?_,rfl⟩;conv=>lhs;whnf)))
  all_goals simp[*]
 |true=>
  obtain⟨h1,h2,h3,h4⟩:=Bq hv
  repeat'(first|refine sC ?_|((with_reducible refine aj ?_);first|(refine sS ?_;intro Q' hn he hr)|refine sA ?_)|(refine sH ?_;clear hn he hr Q')|((conv=>whnf);first|refine sK ?_|(refine sB ?_;repeat'(first|refine sb0 ?_|(refine aA ?_ ?_<;>intro hb<;>try exact cls)))|((with_reducible refine aH ?_);first|(refine aG (PO a) rfl rfl ?_)|(refine aG (PN a h1 h2) rfl rfl ?_)|(refine aG (Z4 b (dO a)) rfl rfl ?_))|refine sP ?_|(refine au [] rfl rfl rfl ⟨?_,rfl⟩;conv=>lhs;whnf)))
  all_goals simp[*]
end Go.Eng
namespace Go.Eng
open Go Go.RowKit Go.Proofs
set_option maxRecDepth 100000
def oK(f:cu):Bool:=nameB f.fName&&(inB f.xJ 1 8&&(inB f.qg 1 64&&inB f.qU 1 (513-f.qg)))
theorem FH{f:cu}(h:oK f=true):(1≤f.qg∧f.qg≤64)∧(1≤f.qU∧f.qU≤512):=by
 simp only[oK,inB,Bool.and_eq_true,decide_eq_true_eq] at h
 omega
theorem SI{n l h:Int}(hb:inB n l h=true):l≤n∧n≤h:=by simpa[inB] using hb
def yu(a b:cu):Int:=if a.xJ=b.xJ then max 0 (min (a.qU+a.qg) (b.qU+b.qg)-max a.qU b.qU) else 0
theorem YU(f:cu):ak Tryz.prog 211 G0 0 [] [.agg (dP f)] (fun e os=>e= .bool (oK f)∧os=[]):=by
 refine aF Tryz.func211 rfl aB rfl (fun w0 F0 lent β0=> ?_)
 repeat'(first|refine sC ?_|((with_reducible refine aj ?_);first|(refine sS ?_;intro Q' hn he hr)|refine sA ?_)|(refine sH ?_;clear hn he hr Q')|((conv=>whnf);first|refine sK ?_|(refine sB ?_;repeat'(first|refine sb0 ?_|(refine aA ?_ ?_<;>intro hb<;>try exact cls)))|(refine bn.lD (by have h9:=SI (n:=f.qg) (l:=1) (h:=64) aO;omega) ?_)|((with_reducible refine aH ?_);first|(refine aG (rX _) rfl rfl ?_)|(refine aG (iQ _ _ _) rfl rfl ?_))|(refine au [] rfl rfl rfl ⟨?_,rfl⟩;conv=>lhs;whnf)))
 all_goals simp[oK, *]
theorem aaD(n:Int):ak Tryz.prog 244 G0 0 [] [.int .i64 n] (fun d os=>d= .bool (inB n 1 8)∧os=[]):=by
 refine aF Tryz.func244 rfl aB rfl (fun w0 F0 lent β0=> ?_)
 repeat'(first|refine sC ?_|((with_reducible refine aj ?_);first|(refine sS ?_;intro Q' hn he hr)|refine sA ?_)|(refine sH ?_;clear hn he hr Q')|((conv=>whnf);first|refine sK ?_|((with_reducible refine aH ?_);(refine aG (iy _ _ _) rfl rfl ?_))|(refine au [] rfl rfl rfl ⟨?_,rfl⟩;conv=>lhs;whnf)))
theorem aaE(n:Int):ak Tryz.prog 245 G0 0 [] [.int .i64 n] (fun d os=>d= .bool (inB n 1 64)∧os=[]):=by
 refine aF Tryz.func245 rfl aB rfl (fun w0 F0 lent β0=> ?_)
 repeat'(first|refine sC ?_|((with_reducible refine aj ?_);first|(refine sS ?_;intro Q' hn he hr)|refine sA ?_)|(refine sH ?_;clear hn he hr Q')|((conv=>whnf);first|refine sK ?_|((with_reducible refine aH ?_);(refine aG (iy _ _ _) rfl rfl ?_))|(refine au [] rfl rfl rfl ⟨?_,rfl⟩;conv=>lhs;whnf)))
theorem aaB(f:cu):ak Tryz.prog 182 G0 0 [] [.rp (dP f)] (fun e os=>e= .bool (oK f)∧os=[]):=by
 refine aF Tryz.func182 rfl aB rfl (fun w0 F0 lent β0=> ?_)
 repeat'(first|refine sC ?_|((with_reducible refine aj ?_);first|(refine sS ?_;intro Q' hn he hr)|refine sA ?_)|(refine sH ?_;clear hn he hr Q')|refine sO ?_|((conv=>whnf);first|refine sK ?_|(refine sB ?_;repeat'(first|refine sb0 ?_|(refine aA ?_ ?_<;>intro hb<;>try exact cls)))|(refine bn.lD (by have h9:=SI (n:=f.qg) (l:=1) (h:=64) aO;omega) ?_)|((with_reducible refine aZ ?_);first|(refine aT (rZ _) rfl rfl ?_)|(refine aT (aaD _) rfl rfl ?_)|(refine aT (aaE _) rfl rfl ?_)|(refine aT (iy _ _ _) rfl rfl ?_))|refine sD ?_|(refine au [] rfl rfl rfl ⟨?_,rfl⟩;conv=>lhs;whnf)))
 all_goals simp[oK, *]
theorem Zp(a b:cu)(ha:oK a=true)(hb0:oK b=true):ak Tryz.prog 212 G0 0 [] [.agg (dP a), .agg (dP b)] (fun d os=>d= .int .i64 (yu a b)∧os=[]):=by
 have h1:=FH ha
 have h2:=FH hb0
 refine aF Tryz.func212 rfl aB rfl (fun w0 F0 lent β0=> ?_)
 repeat'(first|refine sC ?_|((with_reducible refine aj ?_);first|(refine sS ?_;intro Q' hn he hr)|refine sA ?_)|(refine sH ?_;clear hn he hr Q')|((conv=>whnf);first|refine sK ?_|(refine sB ?_;repeat'(refine aA ?_ ?_<;>intro hb<;>try exact cls))|(refine bn.lD (by simp only[cond_true,cond_false];constructor<;>(repeat' split)<;>omega) ?_)|refine sP ?_|(refine au [] rfl rfl rfl ⟨?_,rfl⟩;conv=>lhs;whnf)))
 all_goals(refine congrArg (D.int _) ?_;unfold yu;first|(rw[if_pos hb];simp only[cond_true,cond_false];(repeat' split)<;>omega)|(rw[if_neg hb];done)|(split<;>omega)|skip)
theorem aaC(a b:cu)(ha:oK a=true)(hb0:oK b=true):ak Tryz.prog 183 G0 0 [] [.rp (dP a), .rp (dP b)] (fun d os=>d= .int .i64 (yu a b)∧os=[]):=by
 have h1:=FH ha
 have h2:=FH hb0
 refine aF Tryz.func183 rfl aB rfl (fun w0 F0 lent β0=> ?_)
 repeat'(first|refine sC ?_|((with_reducible refine aj ?_);first|(refine sS ?_;intro Q' hn he hr)|refine sA ?_)|(refine sH ?_;clear hn he hr Q')|refine sO ?_|((conv=>whnf);first|refine sK ?_|(refine sB ?_;repeat'(refine aA ?_ ?_<;>intro hb<;>try exact cls))|((with_reducible refine aZ ?_);first|(refine aT (O4 _ _) rfl rfl ?_)|(refine aT (EX _ _) rfl rfl ?_))|refine sP ?_|refine sD ?_|(refine au [] rfl rfl rfl ⟨?_,rfl⟩;conv=>lhs;whnf)))
 all_goals(refine congrArg (D.int _) ?_;unfold yu;first|(rw[if_pos hb];(repeat' split)<;>omega)|(rw[if_neg hb];done)|(split<;>omega)|skip)
theorem Wj(a b:cu):yu a b=yu b a:=by
 unfold yu
 split<;>split<;>omega
def vT(a b:cu):Bool:=Op.bytesLess a.fName b.fName
def tJ(x y:cu):Bool:=decide (0<yu x y)
def oL(a:List cu)(k:Nat)(x:cu):Bool:=oK x&&(tZ vT a k x&&iG (tJ x) a k)
def uI(a:List cu):Bool:=decide (a.length≤16)&&allI (oL a) a
theorem ade{a:List cu}(h: ¬a.length≤16):uI a=false:=by simp[uI,h]
theorem Ap{a:List cu}{k:Nat}{x:cu}(hx:a[k]? =some x)(h:oL a k x=false):uI a=false:=by
 unfold uI
 rw[EO hx h,Bool.and_false]
theorem Q7{a:List cu}{k:Nat}(h:pJ (oL a) a k){i:Nat}{y:cu}(hi:i<k)(hy:a[i]? =some y):oK y=true:=by
 have:=h i y hi hy
 simp only[oL,Bool.and_eq_true] at this
 exact this.1
theorem YV(a:List cu):ak Tryz.prog 147 G0 0 [] [.sl 4 (a.map dP)] (fun d os=>d= .bool (uI a)∧os=[]):=by
 refine aF Tryz.func147 rfl aB rfl (fun w0 F0 lent β0=> ?_)
 repeat'(first|refine sC ?_|((with_reducible refine aj ?_);first|(refine sS ?_;intro Q' hn he hr)|refine sA ?_)|(refine sH ?_;clear hn he hr Q')|((conv=>whnf);first|refine sK ?_|(refine sB ?_;repeat'(refine aA ?_ ?_<;>intro hb<;>try exact cls))|(refine sL ?_;intro hlen)|(refine au [] rfl rfl rfl ⟨?_,rfl⟩;conv=>lhs;whnf)))
 ·rw[ade ah]
 ·refine aQ (fun k:Nat=>[(0,.sl 4 (a.map dP)),(10,.sl 4 (a.map dP)),(11,.int .i64 a.length),(12,.int .i64 k)]) (fun _=>[]) (fun k=>k≤a.length∧pJ (oL a) a k) (fun k=>a.length-k) 0 ⟨by omega,wM⟩ aI (fun k hk Q' hn he hr=> ?_)
  repeat'(first|refine sC ?_|((with_reducible refine aj ?_);first|(refine sS ?_;intro Q' hn he hr)|refine sA ?_)|(refine sH ?_;clear hn he hr Q')|refine sO ?_|((conv=>whnf);first|refine sK ?_|(refine sB ?_;repeat'(first|refine sb0 ?_|(refine aA ?_ ?_<;>intro hb<;>try exact cls)))|((with_reducible refine aZ ?_);(refine aT (YU _) rfl rfl ?_))|refine sP ?_|(refine sE ?_;intro x hx)|(refine sF ?_;intro i y hi hy)|(refine sL ?_;intro hlen)|refine sD ?_|(refine au [] rfl rfl rfl ⟨?_,rfl⟩;conv=>lhs;whnf)|(refine sH ?_;clear hn he hr Q')))
  ·rw[Ap hx (by simp[oL,hb])]
  ·rw[Ap hx (by simp[oL,uO (lt:=vT) (x:=x) (show i+1=k by omega) hy,vT,hb])]
  iterate 2
   ·have hfx:oK x=true:=by assumption
    have hx0:=hx
    have hpv:tZ vT a k x=true:=by
     first
      |(rw[uO (lt:=vT) (x:=x) (show i+1=k by omega) hy];exact hb)
      |exact Bg ah
    refine aQ (fun j:Nat=>[(0,.sl 4 (a.map dP)),(3,.int .i64 k),(4,.hp 0 0),(10,.sl 4 (a.map dP)),(11,.int .i64 a.length),(12,.int .i64 k),(37,.sl 4 ((a.take k).map dP)),(38,.int .i64 k),(39,.int .i64 j)]) (fun _=>[.box (dP x)]) (fun j=>j≤k∧jB (tJ x) a j) (fun j=>k-j) 0 ⟨by omega,qE⟩ (by refine aC rfl rfl rfl ?_;((repeat'(first|exact trivial|refine And.intro ?_ ?_))<;>(first|rfl|(conv=>rhs;whnf)<;>(first|rfl|exact Fp|exact acs ah|(refine congrArg (D.int _) ?_;omega))))) (fun j hj Q' hn he hr=> ?_)
    have htl:(a.take k).length=k:=by rw[List.length_take];omega
    repeat'(first|refine sC ?_|((with_reducible refine aj ?_);first|(refine sS ?_;intro Q' hn he hr)|refine sA ?_)|(refine sH ?_;clear hn he hr Q')|((conv=>whnf);first|refine sK ?_|(refine sB ?_;repeat'(refine aA ?_ ?_<;>intro hb<;>try exact cls))|((with_reducible refine aH ?_);(refine aG (Zp _ _ hfx (Q7 hk.2 ah (take_at hx))) rfl rfl ?_))|refine sP ?_|(refine sE ?_;intro x hx)|(refine au [] rfl rfl rfl ⟨?_,rfl⟩;conv=>lhs;whnf)|(refine sH ?_;clear hn he hr Q')))
    all_goals first
     |(refine⟨k+1,⟨by omega,wL hk.2 hx0 ?_⟩,by omega,aI⟩;have h9:=D9 (q:=tJ x) (a:=a) (k:=k) (fun i' y' hi' hy'=>hj.2 i' y' ah hy');simp only[oL,hfx,hpv,h9,Bool.and_self];done)
     |(rw[Ap hx0 (by rw[oL,D8 (q:=tJ _) (take_at hx) (show j<k by omega) (by simpa[tJ] using hb),Bool.and_false,Bool.and_false])];done)
     |exact⟨j+1,⟨by omega,qC hj.2 (take_at hx) (by simp[tJ];omega)⟩,by omega,aI⟩
  ·have h9:=wK hk.2 ah
   have h8:a.length≤16:=by omega
   simp[uI,h9,h8]
theorem aaA(a:List cu):ak Tryz.prog 119 G0 0 [] [.sl 4 (a.map dP)] (fun d os=>d= .bool (uI a)∧os=[]):=by
 refine aF Tryz.func119 rfl aB rfl (fun w0 F0 lent β0=> ?_)
 repeat'(first|refine sC ?_|((with_reducible refine aj ?_);first|(refine sS ?_;intro Q' hn he hr)|refine sA ?_)|(refine sH ?_;clear hn he hr Q')|((conv=>whnf);refine sK ?_))
 refine aQ (fun k:Nat=>[(0,.sl 4 (a.map dP)),(3,.int .i64 k)]) (fun _=>[]) (fun k=>k≤a.length∧pJ (oL a) a k) (fun k=>a.length-k) 0 ⟨by omega,wM⟩ aI (fun k hk Q' hn he hr=> ?_)
 repeat'(first|refine sC ?_|((with_reducible refine aj ?_);first|(refine sS ?_;intro Q' hn he hr)|refine sA ?_)|(refine sH ?_;clear hn he hr Q')|refine sO ?_|((conv=>whnf);first|refine sK ?_|(refine sB ?_;repeat'(first|refine sb0 ?_|(refine aA ?_ ?_<;>intro hb<;>try exact cls)))|((with_reducible refine aZ ?_);(refine lu (aaB _) rfl ?_))|refine sP ?_|(refine sE ?_;intro x hx)|(refine sF ?_;intro i y hi hy)|(refine sL ?_;intro hlen)|refine sD ?_|(refine au [] rfl rfl rfl ⟨?_,rfl⟩;conv=>lhs;whnf)|(refine sH ?_;clear hn he hr Q')))
 ·rw[Ap hx (by simp[oL,hb])]
 ·rw[Ap hx (by simp[oL,uO (lt:=vT) (x:=x) (show i+1=k by omega) hy,vT,hb])]
 iterate 2
  ·have hfx:oK x=true:=by assumption
   have hx0:=hx
   have hpv:tZ vT a k x=true:=by
    first
     |(rw[uO (lt:=vT) (x:=x) (show i+1=k by omega) hy];exact hb)
     |exact Bg ah
   refine aQ (fun j:Nat=>[(0,.sl 4 (a.map dP)),(3,.int .i64 k),(4,.int .i64 j)]) (fun _=>[]) (fun j=>j≤k∧jB (tJ x) a j) (fun j=>k-j) 0 ⟨by omega,qE⟩ aI (fun j hj Q' hn he hr=> ?_)
   by_cases hjk:j<k
   ·obtain⟨z,hz⟩: ∃z,a[j]? =some z:=⟨_,List.getElem?_eq_getElem ah⟩
    repeat'(first|refine sC ?_|((with_reducible refine aj ?_);first|(refine sS ?_;intro Q' hn he hr)|refine sA ?_)|(refine sH ?_;clear hn he hr Q')|refine sO ?_|((conv=>whnf);first|refine sK ?_|(refine sB ?_;repeat'(refine aA ?_ ?_<;>intro hb<;>try exact cls))|(refine aJ.the hz ?_)|(refine aJ.the hx0 ?_)|((with_reducible refine aZ ?_);(refine lu (aaC z x (Q7 hk.2 hjk hz) hfx) rfl ?_))|refine sP ?_|refine sD ?_|(refine au [] rfl rfl rfl ⟨?_,rfl⟩;conv=>lhs;whnf)))
    all_goals first
     |(rw[Ap hx0 (by rw[oL,D8 (q:=tJ x) hz hjk (by simpa[tJ,Wj x z] using hb),Bool.and_false,Bool.and_false])];done)
     |exact⟨j+1,⟨by omega,qC hj.2 hz (by simp[tJ,Wj x z];omega)⟩,by omega,aI⟩
   ·repeat'(first|refine sC ?_|((with_reducible refine aj ?_);first|(refine sS ?_;intro Q' hn he hr)|refine sA ?_)|(refine sH ?_;clear hn he hr Q')|((conv=>whnf);first|refine sK ?_|(refine sB ?_;repeat'(refine aA ?_ ?_<;>intro hb<;>try exact cls))|refine sP ?_|(refine sH ?_;clear hn he hr Q')))
    refine⟨k+1,⟨by omega,wL hk.2 hx0 ?_⟩,by omega,aI⟩
    have h9:=D9 (q:=tJ x) (a:=a) (k:=k) (fun i' y' hi' hy'=>hj.2 i' y' ah hy')
    simp only[oL,hfx,hpv,h9,Bool.and_self]
 ·have h9:=wK hk.2 ah
  simp[uI,h9];omega
end Go.Eng
namespace Go.Eng
open Go Go.RowKit Go.Proofs
set_option maxRecDepth 100000
def sJ(c:aV):Bool:=nameB c.fId&&(nameB c.kR&&(inB c.dK 0 7200000&&(inB c.fValue 0 1000&&(if c.xB=1 then decide (c.iZ=0) else if c.xB=2 then inB c.iZ 1 (7200000-c.dK) else if c.xB=3 then decide (c.iZ=0)&&decide (c.fValue=0) else false))))
theorem YT(c:aV):ak Tryz.prog 213 G0 0 [] [.agg (cO c)] (fun e os=>e= .bool (sJ c)∧os=[]):=by
 refine aF Tryz.func213 rfl aB rfl (fun w0 F0 lent β0=> ?_)
 repeat'(first|refine sC ?_|((with_reducible refine aj ?_);first|(refine sS ?_;intro Q' hn he hr)|refine sA ?_)|(refine sH ?_;clear hn he hr Q')|((conv=>whnf);first|refine sK ?_|(refine sB ?_;repeat'(first|refine sb0 ?_|(refine aA ?_ ?_<;>intro hb<;>try exact cls)))|(refine bn.lD (by have h9:=SK (n:=c.dK) (l:=0) (h:=7200000) aO;omega) ?_)|((with_reducible refine aH ?_);first|(refine aG (rX _) rfl rfl ?_)|(refine aG (iQ _ _ _) rfl rfl ?_))|(refine au [] rfl rfl rfl ⟨?_,rfl⟩;conv=>lhs;whnf)))
 all_goals(simp_all[sJ];done)
theorem aav(n:Int):ak Tryz.prog 191 G0 0 [] [.int .i64 n] (fun d os=>d= .bool (inB n 0 7200000)∧os=[]):=by
 refine aF Tryz.func191 rfl aB rfl (fun w0 F0 lent β0=> ?_)
 repeat'(first|refine sC ?_|((with_reducible refine aj ?_);first|(refine sS ?_;intro Q' hn he hr)|refine sA ?_)|(refine sH ?_;clear hn he hr Q')|((conv=>whnf);first|refine sK ?_|((with_reducible refine aH ?_);(refine aG (iy _ _ _) rfl rfl ?_))|(refine au [] rfl rfl rfl ⟨?_,rfl⟩;conv=>lhs;whnf)))
theorem aau(c:aV):ak Tryz.prog 184 G0 0 [] [.rp (cO c)] (fun e os=>e= .bool (sJ c)∧os=[]):=by
 refine aF Tryz.func184 rfl aB rfl (fun w0 F0 lent β0=> ?_)
 repeat'(first|refine sC ?_|((with_reducible refine aj ?_);first|(refine sS ?_;intro Q' hn he hr)|refine sA ?_)|(refine sH ?_;clear hn he hr Q')|refine sO ?_|((conv=>whnf);first|refine sK ?_|(refine sB ?_;repeat'(first|refine sb0 ?_|(refine aA ?_ ?_<;>intro hb<;>try exact cls)))|(refine bn.lD (by have h9:=SK (n:=c.dK) (l:=0) (h:=7200000) aO;omega) ?_)|((with_reducible refine aH ?_);first|(refine aG (rZ _) rfl rfl ?_)|(refine aG (aav _) rfl rfl ?_)|(refine aG (iy _ _ _) rfl rfl ?_))|((with_reducible refine aZ ?_);(refine aT (iy _ _ _) rfl rfl ?_))|refine sD ?_|(refine au [] rfl rfl rfl ⟨?_,rfl⟩;conv=>lhs;whnf)))
 all_goals(simp_all[sJ];done)
def Dl(x y:List UInt8):Int:=if Op.bytesLess x y=true then-1 else if Op.bytesLess y x=true then 1 else 0
def Fh(x y:Int):Int:=if x<y then-1 else if y<x then 1 else 0
theorem ZC(x:List UInt8):ak Tryz.prog 296 G0 0 [] [.str x] (fun d os=>d= .bool false∧os=[]):=by
 refine aF Tryz.func296 rfl aB rfl (fun w0 F0 lent β0=> ?_)
 repeat'(first|refine sC ?_|((with_reducible refine aj ?_);first|(refine sS ?_;intro Q' hn he hr)|refine sA ?_)|(refine sH ?_;clear hn he hr Q')|((conv=>whnf);first|refine sK ?_|(refine au [] rfl rfl rfl ⟨?_,rfl⟩;conv=>lhs;whnf)))
 all_goals first|rfl|simp_all
theorem ZB(x:Int):ak Tryz.prog 295 G0 0 [] [.int .i64 x] (fun d os=>d= .bool false∧os=[]):=by
 refine aF Tryz.func295 rfl aB rfl (fun w0 F0 lent β0=> ?_)
 repeat'(first|refine sC ?_|((with_reducible refine aj ?_);first|(refine sS ?_;intro Q' hn he hr)|refine sA ?_)|(refine sH ?_;clear hn he hr Q')|((conv=>whnf);first|refine sK ?_|(refine au [] rfl rfl rfl ⟨?_,rfl⟩;conv=>lhs;whnf)))
 all_goals first|rfl|simp_all
theorem Yg(x y:List UInt8):ak Tryz.prog 264 G0 0 [] [.str x, .str y] (fun d os=>d= .int .i64 (Dl x y)∧os=[]):=by
 refine aF Tryz.func264 rfl aB rfl (fun w0 F0 lent β0=> ?_)
 repeat'(first|refine sC ?_|((with_reducible refine aj ?_);first|(refine sS ?_;intro Q' hn he hr)|refine sA ?_)|(refine sH ?_;clear hn he hr Q')|((conv=>whnf);first|refine sK ?_|(refine sB ?_;repeat'(first|refine sb0 ?_|(refine aA ?_ ?_<;>intro hb<;>try exact cls)))|((with_reducible refine aH ?_);(refine aG (ZC _) rfl rfl ?_))|(refine au [] rfl rfl rfl ⟨?_,rfl⟩;conv=>lhs;whnf)))
 all_goals first|(simp_all[Dl];done)|(simp_all[Dl];exact KZ aO aO)
theorem Yf(x y:Int):ak Tryz.prog 263 G0 0 [] [.int .i64 x, .int .i64 y] (fun d os=>d= .int .i64 (Fh x y)∧os=[]):=by
 refine aF Tryz.func263 rfl aB rfl (fun w0 F0 lent β0=> ?_)
 repeat'(first|refine sC ?_|((with_reducible refine aj ?_);first|(refine sS ?_;intro Q' hn he hr)|refine sA ?_)|(refine sH ?_;clear hn he hr Q')|((conv=>whnf);first|refine sK ?_|(refine sB ?_;repeat'(first|refine sb0 ?_|(refine aA ?_ ?_<;>intro hb<;>try exact cls)))|((with_reducible refine aH ?_);(refine aG (ZB _) rfl rfl ?_))|(refine au [] rfl rfl rfl ⟨?_,rfl⟩;conv=>lhs;whnf)))
 all_goals(refine congrArg (D.int _) ?_;unfold Fh;(repeat' split)<;>omega)
def vS(a b:aV):Bool:=decide (a.dK<b.dK)||(decide (a.dK=b.dK)&&Op.bytesLess a.fId b.fId)
def Jj(a b:aV):Int:=tX [Fh a.dK b.dK,Dl a.fId b.fId]
theorem Qi(a b:aV):decide (0≤Jj a b)= !vS a b:=by
 unfold Jj vS Fh Dl tX tX tX
 by_cases h1:a.dK<b.dK
 ·simp[h1]
 ·by_cases h2:b.dK<a.dK
  ·have h3: ¬a.dK=b.dK:=by omega
   simp[h1,h2,h3]
  ·have h3:a.dK=b.dK:=by omega
   cases h4:Op.bytesLess a.fId b.fId
   ·cases h5:Op.bytesLess b.fId a.fId<;>simp[h3]
   ·simp[h3]
theorem Y7(a b:aV):ak Tryz.prog 214 G0 0 [] [.agg (cO a), .agg (cO b)] (fun d os=>d= .int .i64 (Jj a b)∧os=[]):=by
 refine aF Tryz.func214 rfl aB rfl (fun w0 F0 lent β0=> ?_)
 repeat'(first|refine sC ?_|((with_reducible refine aj ?_);first|(refine sS ?_;intro Q' hn he hr)|refine sA ?_)|(refine sH ?_;clear hn he hr Q')|refine sO ?_|((conv=>whnf);first|refine sK ?_|((with_reducible refine aH ?_);(refine jq (Yh [_,_]) rfl ?_))|((with_reducible refine aZ ?_);first|(refine aT (Yf _ _) rfl rfl ?_)|(refine aT (Yg _ _) rfl rfl ?_))|refine sD ?_|(refine au [] rfl rfl rfl ⟨?_,rfl⟩;conv=>lhs;whnf)))
 all_goals rfl
theorem aaq(a b:aV):ak Tryz.prog 186 G0 0 [] [.rp (cO a), .rp (cO b)] (fun d os=>d= .bool (vS a b)∧os=[]):=by
 refine aF Tryz.func186 rfl aB rfl (fun w0 F0 lent β0=> ?_)
 repeat'(first|refine sC ?_|((with_reducible refine aj ?_);first|(refine sS ?_;intro Q' hn he hr)|refine sA ?_)|(refine sH ?_;clear hn he hr Q')|refine sO ?_|((conv=>whnf);first|refine sK ?_|(refine sB ?_;repeat'(first|refine sb0 ?_|(refine aA ?_ ?_<;>intro hb<;>try exact cls)))|refine sD ?_|(refine au [] rfl rfl rfl ⟨?_,rfl⟩;conv=>lhs;whnf)))
 all_goals(simp only[vS];simp_all)
def jy(id:List UInt8)(c:aV):Bool:=c.fId==id
theorem Za(x:aV)(id:List UInt8):ak Tryz.prog 231 G0 0 [] [.agg (cO x), .rp [.str id]] (fun d os=>d= .bool (jy id x)∧os=[]):=by
 refine aF Tryz.func231 rfl aB rfl (fun w0 F0 lent β0=> ?_)
 repeat'(first|refine sC ?_|((with_reducible refine aj ?_);first|(refine sS ?_;intro Q' hn he hr)|refine sA ?_)|(refine sH ?_;clear hn he hr Q')|((conv=>whnf);first|refine sK ?_|(refine au [] rfl rfl rfl ⟨?_,rfl⟩;conv=>lhs;whnf)))
 all_goals(refine congrArg D.bool ?_;simp[jy, *])
theorem ZN(a:List aV)(id:List UInt8):ak Tryz.prog 230 G0 0 [] [.sl 6 (a.map cO), .clo (.func 231) [.rp [.str id]]] (fun d os=>d= .int .i64 (dV (jy id) a)∧os=[]):=by
 refine aF Tryz.func230 rfl aB rfl (fun w0 F0 lent β0=> ?_)
 repeat'(first|refine sC ?_|((with_reducible refine aj ?_);first|(refine sS ?_;intro Q' hn he hr)|refine sA ?_)|(refine sH ?_;clear hn he hr Q')|((conv=>whnf);first|refine sK ?_|(refine sL ?_;intro hlen)))
 refine aQ (fun k:Nat=>[(0,.sl 6 (a.map cO)),(1,.clo (.func 231) [.rp [.str id]]),(6,.sl 6 (a.map cO)),(7,.int .i64 a.length),(8,.int .i64 k)]) (fun _=>[]) (fun k=>k≤a.length∧jB (jy id) a k) (fun k=>a.length-k) 0 ⟨by omega,qE⟩ aI (fun k hk Q' hn he hr=> ?_)
 repeat'(first|refine sC ?_|((with_reducible refine aj ?_);first|(refine sS ?_;intro Q' hn he hr)|refine sA ?_)|(refine sH ?_;clear hn he hr Q')|((conv=>whnf);first|refine sK ?_|(refine sB ?_;repeat'(refine aA ?_ ?_<;>intro hb<;>try exact cls))|((with_reducible refine aH ?_);(refine jq (Za x id) rfl ?_))|refine sP ?_|(refine sE ?_;intro x hx)|(refine au [] rfl rfl rfl ⟨?_,rfl⟩;conv=>lhs;whnf)|(refine sH ?_;clear hn he hr Q')))
 ·rw[y9 hk.2 hx hb]
 ·exact⟨k+1,⟨by omega,qC hk.2 hx hb⟩,by omega,aI⟩
 ·rw[zf hk.2 ah]
theorem IK(a:List aV)(id:List UInt8):ak Tryz.prog 165 G0 0 [] [.sl 6 (a.map cO), .str id] (fun d os=>d= .int .i64 (dV (jy id) a)∧os=[]):=by
 refine aF Tryz.func165 rfl aB rfl (fun w0 F0 lent β0=> ?_)
 repeat'(first|refine sC ?_|((with_reducible refine aj ?_);first|(refine sS ?_;intro Q' hn he hr)|refine sA ?_)|(refine sH ?_;clear hn he hr Q')|((conv=>whnf);first|refine sK ?_|((with_reducible refine aH ?_);(refine jq (ZN a id) rfl ?_))|(refine au [] rfl rfl rfl ⟨?_,rfl⟩;conv=>lhs;whnf)))
theorem Zb(a:List aV)(k:Nat)(id:List UInt8):ak Tryz.prog 165 G0 0 [] [.sl 6 (gJ (a.map cO) none (some k)), .str id] (fun d os=>d= .int .i64 (dV (jy id) (a.take k))∧os=[]):=by
 have h:=IK (a.take k) id
 rwa [Fp] at h
theorem IZ(a:List aV)(id:List UInt8):ak Tryz.prog 185 G0 0 [] [.sl 6 (a.map cO), .str id] (fun d os=>d= .int .i64 (dV (jy id) a)∧os=[]):=by
 refine aF Tryz.func185 rfl aB rfl (fun w0 F0 lent β0=> ?_)
 repeat'(first|refine sC ?_|((with_reducible refine aj ?_);first|(refine sS ?_;intro Q' hn he hr)|refine sA ?_)|(refine sH ?_;clear hn he hr Q')|((conv=>whnf);refine sK ?_))
 refine aQ (fun k:Nat=>[(0,.sl 6 (a.map cO)),(1,.str id),(5,.int .i64 k)]) (fun _=>[]) (fun k=>k≤a.length∧jB (jy id) a k) (fun k=>a.length-k) 0 ⟨by omega,qE⟩ aI (fun k hk Q' hn he hr=> ?_)
 repeat'(first|refine sC ?_|((with_reducible refine aj ?_);first|(refine sS ?_;intro Q' hn he hr)|refine sA ?_)|(refine sH ?_;clear hn he hr Q')|((conv=>whnf);first|refine sK ?_|(refine sB ?_;repeat'(refine aA ?_ ?_<;>intro hb<;>try exact cls))|refine sP ?_|(refine sE ?_;intro x hx)|(refine sL ?_;intro hlen)|(refine au [] rfl rfl rfl ⟨?_,rfl⟩;conv=>lhs;whnf)|(refine sH ?_;clear hn he hr Q')))
 ·rw[y9 hk.2 hx (by simp[jy,hb])]
 ·exact⟨k+1,⟨by omega,qC hk.2 hx (by simp[jy,hb])⟩,by omega,aI⟩
 ·rw[zf hk.2 ah]
def pR(a:List aV)(k:Nat)(x:aV):Bool:=sJ x&&(tZ vS a k x&&iG (jy x.fId) a k)
def mJ(a:List aV):Bool:=decide (a.length≤32)&&allI (pR a) a
theorem acn{a:List aV}(h: ¬a.length≤32):mJ a=false:=by simp[mJ,h]
theorem Ae{a:List aV}{k:Nat}{x:aV}(hx:a[k]? =some x)(h:pR a k x=false):mJ a=false:=by
 unfold mJ
 rw[EO hx h,Bool.and_false]
theorem Qp{a:List aV}{k:Nat}{x:aV}(h:sJ x=false):pR a k x=false:=by simp[pR,h]
theorem Qq{a:List aV}{k i:Nat}{x y:aV}(hi:i+1=k)(hy:a[i]? =some y)(h:vS y x=false):pR a k x=false:=by simp[pR,uO hi hy,h]
theorem Qo{a:List aV}{k:Nat}{x:aV}(h:iG (jy x.fId) a k=false):pR a k x=false:=by simp[pR,h]
theorem Qr{a:List aV}{k:Nat}{x:aV}(h1:sJ x=true)(h2:tZ vS a k x=true)(h3:iG (jy x.fId) a k=true):pR a k x=true:=by simp[pR,h1,h2,h3]
theorem acj{a:List aV}{k:Nat}{x:aV}(hx:a[k]? =some x):(dV (jy x.fId) a<k↔iG (jy x.fId) a k=false):=by
 have hk:=(List.getElem?_eq_some_iff.1 hx).1
 have h1:=SE (q:=jy x.fId) hx (by simp[jy])
 rw[UD ah,decide_eq_false_iff_not]
 omega
theorem OE(a:List aV):ak Tryz.prog 148 G0 0 [] [.sl 6 (a.map cO)] (fun d os=>d= .bool (mJ a)∧os=[]):=by
 refine aF Tryz.func148 rfl aB rfl (fun w0 F0 lent β0=> ?_)
 repeat'(first|refine sC ?_|((with_reducible refine aj ?_);first|(refine sS ?_;intro Q' hn he hr)|refine sA ?_)|(refine sH ?_;clear hn he hr Q')|((conv=>whnf);first|refine sK ?_|(refine sB ?_;repeat'(refine aA ?_ ?_<;>intro hb<;>try exact cls))|(refine sL ?_;intro hlen)|(refine au [] rfl rfl rfl ⟨?_,rfl⟩;conv=>lhs;whnf)))
 ·rw[acn ah]
 ·refine aQ (fun k:Nat=>[(0,.sl 6 (a.map cO)),(8,.sl 6 (a.map cO)),(9,.int .i64 a.length),(10,.int .i64 k)]) (fun _=>[]) (fun k=>k≤a.length∧pJ (pR a) a k) (fun k=>a.length-k) 0 ⟨by omega,wM⟩ aI (fun k hk Q' hn he hr=> ?_)
  repeat'(first|refine sC ?_|((with_reducible refine aj ?_);first|(refine sS ?_;intro Q' hn he hr)|refine sA ?_)|(refine sH ?_;clear hn he hr Q')|refine sO ?_|((conv=>whnf);first|refine sK ?_|(refine sB ?_;repeat'(first|refine sb0 ?_|(refine aA ?_ ?_<;>intro hb<;>try exact cls)))|((with_reducible refine aZ ?_);first|(refine aT (YT _) rfl rfl ?_)|(refine lu (Y7 _ _) rfl ?_)|(refine aT (Zb a k _) rfl rfl ?_))|refine sP ?_|(refine sE ?_;intro x hx)|(refine sF ?_;intro i y hi hy)|refine sD ?_|(refine au [] rfl rfl rfl ⟨?_,rfl⟩;conv=>lhs;whnf)|(refine sH ?_;clear hn he hr Q')))
  all_goals first
   |(rw[Ae hx (Qp hb)];done)
   |(rw[Ae hx (Qq (y:=y) (i:=i) ah hy (by have h9:=Qi y x;rw[decide_eq_true ah] at h9;simpa using h9.symm))];done)
   |(rw[Ae hx (Qo ((AB ah).1 ah))];done)
   |(refine⟨k+1,⟨by omega,wL hk.2 hx (Qr aO ?_ ?_)⟩,by omega,aI⟩
     ·first
       |exact Bg ah
       |(rw[uO (lt:=vS) (x:=x) (show i+1=k by omega) hy];have h9:=Qi y x;rw[decide_eq_false ah] at h9;simpa using h9.symm)
     ·cases h8:iG (jy x.fId) a k with
      |true=>rfl
      |false=>
       have h9:=(AB (q:=jy x.fId) (a:=a) (k:=k) ah).2 h8
       exfalso;omega)
   |(have h9:=wK hk.2 ah;have h8:a.length≤32:=ah;simp[mJ,h9,h8];done)
theorem aat(a:List aV):ak Tryz.prog 120 G0 0 [] [.sl 6 (a.map cO)] (fun d os=>d= .bool (mJ a)∧os=[]):=by
 refine aF Tryz.func120 rfl aB rfl (fun w0 F0 lent β0=> ?_)
 repeat'(first|refine sC ?_|((with_reducible refine aj ?_);first|(refine sS ?_;intro Q' hn he hr)|refine sA ?_)|(refine sH ?_;clear hn he hr Q')|((conv=>whnf);refine sK ?_))
 refine aQ (fun k:Nat=>[(0,.sl 6 (a.map cO)),(3,.int .i64 k)]) (fun _=>[]) (fun k=>k≤a.length∧pJ (pR a) a k) (fun k=>a.length-k) 0 ⟨by omega,wM⟩ aI (fun k hk Q' hn he hr=> ?_)
 by_cases hkl:k<a.length
 ·obtain⟨x,hx⟩: ∃x,a[k]? =some x:=⟨_,List.getElem?_eq_getElem hkl⟩
  have hcf:=acj hx
  repeat'(first|refine sC ?_|((with_reducible refine aj ?_);first|(refine sS ?_;intro Q' hn he hr)|refine sA ?_)|(refine sH ?_;clear hn he hr Q')|refine sO ?_|((conv=>whnf);first|refine sK ?_|(refine sB ?_;repeat'(first|refine sb0 ?_|(refine aA ?_ ?_<;>intro hb<;>try exact cls)))|(refine aJ.the hx ?_)|((with_reducible refine aZ ?_);first|(refine lu (aau x) rfl ?_)|(refine aT (IZ a _) rfl rfl ?_)|(refine lu (aaq _ _) rfl ?_))|refine sP ?_|(refine sF ?_;intro i y hi hy)|(refine sL ?_;intro hlen)|refine sD ?_|(refine au [] rfl rfl rfl ⟨?_,rfl⟩;conv=>lhs;whnf)))
  all_goals first
   |(rw[Ae hx (Qp aO)];done)
   |(rw[Ae hx (Qo (hcf.1 aO))];done)
   |(rw[Ae hx (Qq (show i+1=k by omega) hy hb)];done)
   |(refine⟨k+1,⟨by omega,wL hk.2 hx (Qr aO ?_ ?_)⟩,by omega,aI⟩
     ·first
       |exact Bg ah
       |(rw[uO (lt:=vS) (x:=x) (show i+1=k by omega) hy];exact hb)
     ·cases h8:iG (jy x.fId) a k with
      |true=>rfl
      |false=>
       have h9:=hcf.2 h8
       exfalso;omega)
 ·repeat'(first|refine sC ?_|((with_reducible refine aj ?_);first|(refine sS ?_;intro Q' hn he hr)|refine sA ?_)|(refine sH ?_;clear hn he hr Q')|((conv=>whnf);first|refine sK ?_|(refine sB ?_;repeat'(refine aA ?_ ?_<;>intro hb<;>try exact cls))|(refine sL ?_;intro hlen)|(refine au [] rfl rfl rfl ⟨?_,rfl⟩;conv=>lhs;whnf)|(refine sH ?_;clear hn he hr Q')))
  have h9:=wK hk.2 ah
  simp[mJ,h9]
  try omega
end Go.Eng
namespace Go.Eng
open Go Go.RowKit Go.Proofs
set_option maxRecDepth 100000
def lZ(x:aY):Bool:=if x.bT=1∨x.bT=3 then nameB x.fName&&decide (x.fValue=0) else if x.bT=2 then decide (x.fName=[])&&inB x.fValue 1 7200000 else if x.bT=4 then nameB x.fName&&inB x.fValue 1 100 else if x.bT=5 then decide (x.fName=[])&&decide (x.fValue=0) else false
def gY(n:List UInt8)(x:aY):Bool:=decide (x.bT=1)&&x.fName==n
def qH(a:List aY)(k:Nat)(x:aY):Bool:=lZ x&&((!decide (x.bT=1)||iG (gY x.fName) a k)&&(!decide (x.bT=4)||decide (0≤dV (gY x.fName) a)))
def kV(a:List aY):Bool:=decide (a.length≤40)&&allI (qH a) a
theorem agB{a:List aY}(h: ¬a.length≤40):kV a=false:=by simp[kV,h]
theorem zA{a:List aY}{k:Nat}{x:aY}(hx:a[k]? =some x)(h:qH a k x=false):kV a=false:=by
 unfold kV
 rw[EO hx h,Bool.and_false]
theorem TG{a:List aY}{k:Nat}{x:aY}(hx:a[k]? =some x)(h1:x.bT=1):(dV (gY x.fName) a=k↔iG (gY x.fName) a k=true):=by
 have hk:=(List.getElem?_eq_some_iff.1 hx).1
 have h2:=SE (q:=gY x.fName) hx (by simp[gY,h1])
 rw[UD ah,decide_eq_true_eq]
 omega
theorem afa{α:Type}{q:α→Bool}{a:List α}{k:Nat}(hk:k≤a.length)(h:dV q (a.take k)<0):iG q a k=true:=by
 cases h8:iG q a k with
 |true=>rfl
 |false=>exact absurd ((AB hk).2 h8) ah
theorem band{a b:Bool}(h:a=true)(k:b=true):(a&&b)=true:=by rw[h,k];rfl
theorem VZ{x:aY}(h:x.bT=1):lZ x=(nameB x.fName&&decide (x.fValue=0)):=by simp[lZ,h]
theorem V3{x:aY}(h:x.bT=3):lZ x=(nameB x.fName&&decide (x.fValue=0)):=by simp[lZ,h]
theorem Nu{x:aY}(h:x.bT=2):lZ x=(decide (x.fName=[])&&inB x.fValue 1 7200000):=by simp[lZ,h]
theorem Nv{x:aY}(h:x.bT=4):lZ x=(nameB x.fName&&inB x.fValue 1 100):=by simp[lZ,h]
theorem V4{x:aY}(h:x.bT=5):lZ x=(decide (x.fName=[])&&decide (x.fValue=0)):=by simp[lZ,h]
theorem agA{x:aY}(h1: ¬x.bT=1)(h2: ¬x.bT=2)(h3: ¬x.bT=3)(h4: ¬x.bT=4)(h5: ¬x.bT=5):lZ x=false:=by simp[lZ,h1,h2,h3,h4,h5]
theorem Ns{a:List aY}{k:Nat}{x:aY}(h:lZ x=false):qH a k x=false:=by simp[qH,h]
theorem VX{a:List aY}{k:Nat}{x:aY}(h1:x.bT=1)(h:iG (gY x.fName) a k=false):qH a k x=false:=by simp[qH,h1,h]
theorem VW{a:List aY}{k:Nat}{x:aY}(h1:x.bT=4)(h:dV (gY x.fName) a<0):qH a k x=false:=by
 have h2: ¬0≤dV (gY x.fName) a:=by omega
 simp[qH,h1,h2]
theorem VY{a:List aY}{k:Nat}{x:aY}(h:lZ x=true)(h1:x.bT=1→iG (gY x.fName) a k=true)(h2:x.bT=4→0≤dV (gY x.fName) a):qH a k x=true:=by
 unfold qH
 rw[h,Bool.true_and]
 by_cases e1:x.bT=1
 ·simp[e1,h1 e1]
 ·by_cases e4:x.bT=4
  ·simp[e4,h2 e4]
  ·simp[e1,e4]
theorem aeA{a:List aY}{k:Nat}{x:aY}(hx:a[k]? =some x)(h1:x.bT=1)(h: ¬dV (gY x.fName) a=k):iG (gY x.fName) a k=false:=by
 cases h8:iG (gY x.fName) a k with
 |false=>rfl
 |true=>exact absurd ((TG hx h1).2 h8) h
theorem Zg(x:aY)(n:List UInt8):ak Tryz.prog 266 G0 0 [] [.agg (dH x), .rp [.str n]] (fun d os=>d= .bool (gY n x)∧os=[]):=by
 refine aF Tryz.func266 rfl aB rfl (fun w0 F0 lent β0=> ?_)
 repeat'(first|refine sC ?_|((with_reducible refine aj ?_);first|(refine sS ?_;intro Q' hn he hr)|refine sA ?_)|(refine sH ?_;clear hn he hr Q')|((conv=>whnf);first|refine sK ?_|(refine sB ?_;repeat'(first|refine sb0 ?_|(refine aA ?_ ?_<;>intro hb<;>try exact cls)))|(refine au [] rfl rfl rfl ⟨?_,rfl⟩;conv=>lhs;whnf)))
 all_goals(simp_all[gY];done)
theorem ZP(a:List aY)(n:List UInt8):ak Tryz.prog 265 G0 0 [] [.sl 3 (a.map dH), .clo (.func 266) [.rp [.str n]]] (fun d os=>d= .int .i64 (dV (gY n) a)∧os=[]):=by
 refine aF Tryz.func265 rfl aB rfl (fun w0 F0 lent β0=> ?_)
 repeat'(first|refine sC ?_|((with_reducible refine aj ?_);first|(refine sS ?_;intro Q' hn he hr)|refine sA ?_)|(refine sH ?_;clear hn he hr Q')|((conv=>whnf);first|refine sK ?_|(refine sL ?_;intro hlen)))
 refine aQ (fun k:Nat=>[(0,.sl 3 (a.map dH)),(1,.clo (.func 266) [.rp [.str n]]),(6,.sl 3 (a.map dH)),(7,.int .i64 a.length),(8,.int .i64 k)]) (fun _=>[]) (fun k=>k≤a.length∧jB (gY n) a k) (fun k=>a.length-k) 0 ⟨by omega,qE⟩ aI (fun k hk Q' hn he hr=> ?_)
 repeat'(first|refine sC ?_|((with_reducible refine aj ?_);first|(refine sS ?_;intro Q' hn he hr)|refine sA ?_)|(refine sH ?_;clear hn he hr Q')|((conv=>whnf);first|refine sK ?_|(refine sB ?_;repeat'(refine aA ?_ ?_<;>intro hb<;>try exact cls))|((with_reducible refine aH ?_);(refine jq (Zg x n) rfl ?_))|refine sP ?_|(refine sE ?_;intro x hx)|(refine au [] rfl rfl rfl ⟨?_,rfl⟩;conv=>lhs;whnf)|(refine sH ?_;clear hn he hr Q')))
 ·rw[y9 hk.2 hx hb]
 ·exact⟨k+1,⟨by omega,qC hk.2 hx hb⟩,by omega,aI⟩
 ·rw[zf hk.2 ah]
theorem IQ(a:List aY)(n:List UInt8):ak Tryz.prog 215 G0 0 [] [.sl 3 (a.map dH), .str n] (fun d os=>d= .int .i64 (dV (gY n) a)∧os=[]):=by
 refine aF Tryz.func215 rfl aB rfl (fun w0 F0 lent β0=> ?_)
 repeat'(first|refine sC ?_|((with_reducible refine aj ?_);first|(refine sS ?_;intro Q' hn he hr)|refine sA ?_)|(refine sH ?_;clear hn he hr Q')|((conv=>whnf);first|refine sK ?_|((with_reducible refine aH ?_);(refine jq (ZP a n) rfl ?_))|(refine au [] rfl rfl rfl ⟨?_,rfl⟩;conv=>lhs;whnf)))
theorem Zh(a:List aY)(k:Nat)(n:List UInt8):ak Tryz.prog 215 G0 0 [] [.sl 3 (gJ (a.map dH) none (some k)), .str n] (fun d os=>d= .int .i64 (dV (gY n) (a.take k))∧os=[]):=by
 have h:=IQ (a.take k) n
 rwa [Fp] at h
theorem I4(a:List aY)(n:List UInt8):ak Tryz.prog 188 G0 0 [] [.sl 3 (a.map dH), .str n] (fun d os=>d= .int .i64 (dV (gY n) a)∧os=[]):=by
 refine aF Tryz.func188 rfl aB rfl (fun w0 F0 lent β0=> ?_)
 repeat'(first|refine sC ?_|((with_reducible refine aj ?_);first|(refine sS ?_;intro Q' hn he hr)|refine sA ?_)|(refine sH ?_;clear hn he hr Q')|((conv=>whnf);refine sK ?_))
 refine aQ (fun k:Nat=>[(0,.sl 3 (a.map dH)),(1,.str n),(5,.int .i64 k)]) (fun _=>[]) (fun k=>k≤a.length∧jB (gY n) a k) (fun k=>a.length-k) 0 ⟨by omega,qE⟩ aI (fun k hk Q' hn he hr=> ?_)
 by_cases hkl:k<a.length
 ·obtain⟨x,hx0⟩: ∃x,a[k]? =some x:=⟨_,List.getElem?_eq_getElem hkl⟩
  repeat'(first|refine sC ?_|((with_reducible refine aj ?_);first|(refine sS ?_;intro Q' hn he hr)|refine sA ?_)|(refine sH ?_;clear hn he hr Q')|((conv=>whnf);first|refine sK ?_|(refine sB ?_;repeat'(first|refine sb0 ?_|(refine aA ?_ ?_<;>intro hb<;>try exact cls)))|(refine aJ.the hx0 ?_)|refine sP ?_|(refine sL ?_;intro hlen)|(refine au [] rfl rfl rfl ⟨?_,rfl⟩;conv=>lhs;whnf)))
  all_goals first
   |(rw[y9 hk.2 hx0 (by simp[gY, *])];done)
   |exact⟨k+1,⟨by omega,qC hk.2 hx0 (by simp[gY, *])⟩,by omega,aI⟩
 ·repeat'(first|refine sC ?_|((with_reducible refine aj ?_);first|(refine sS ?_;intro Q' hn he hr)|refine sA ?_)|(refine sH ?_;clear hn he hr Q')|((conv=>whnf);first|refine sK ?_|(refine sB ?_;repeat'(refine aA ?_ ?_<;>intro hb<;>try exact cls))|(refine sL ?_;intro hlen)|(refine au [] rfl rfl rfl ⟨?_,rfl⟩;conv=>lhs;whnf)|(refine sH ?_;clear hn he hr Q')))
  rw[zf hk.2 ah]
theorem aay(x:aY):ak Tryz.prog 187 G0 0 [] [.rp (dH x)] (fun d os=>d= .bool (lZ x)∧os=[]):=by
 refine aF Tryz.func187 rfl aB rfl (fun w0 F0 lent β0=> ?_)
 repeat'(first|refine sC ?_|((with_reducible refine aj ?_);first|(refine sS ?_;intro Q' hn he hr)|refine sA ?_)|(refine sH ?_;clear hn he hr Q')|((conv=>whnf);first|refine sK ?_|(refine sB ?_;repeat'(first|refine sb0 ?_|(refine aA ?_ ?_<;>intro hb<;>try exact cls)))|((with_reducible refine aH ?_);first|(refine aG (rZ _) rfl rfl ?_)|(refine aG (iy _ _ _) rfl rfl ?_))|(refine au [] rfl rfl rfl ⟨?_,rfl⟩;conv=>lhs;whnf)))
 all_goals(simp_all[lZ];done)
theorem I5(a:List aY):ak Tryz.prog 121 G0 0 [] [.sl 3 (a.map dH)] (fun d os=>d= .bool (kV a)∧os=[]):=by
 refine aF Tryz.func121 rfl aB rfl (fun w0 F0 lent β0=> ?_)
 repeat'(first|refine sC ?_|((with_reducible refine aj ?_);first|(refine sS ?_;intro Q' hn he hr)|refine sA ?_)|(refine sH ?_;clear hn he hr Q')|((conv=>whnf);refine sK ?_))
 refine aQ (fun k:Nat=>[(0,.sl 3 (a.map dH)),(3,.int .i64 k)]) (fun _=>[]) (fun k=>k≤a.length∧pJ (qH a) a k) (fun k=>a.length-k) 0 ⟨by omega,wM⟩ aI (fun k hk Q' hn he hr=> ?_)
 repeat'(first|refine sC ?_|((with_reducible refine aj ?_);first|(refine sS ?_;intro Q' hn he hr)|refine sA ?_)|(refine sH ?_;clear hn he hr Q')|((conv=>whnf);first|refine sK ?_|(refine sB ?_;repeat'(first|refine sb0 ?_|(refine aA ?_ ?_<;>intro hb<;>try exact cls)))|((with_reducible refine aH ?_);first|(refine jq (aay x) rfl ?_)|(refine jq (I4 a x.fName) rfl ?_))|refine sP ?_|(refine sE ?_;intro x hx)|(refine sL ?_;intro hlen)|(refine au [] rfl rfl rfl ⟨?_,rfl⟩;conv=>lhs;whnf)|(refine sH ?_;clear hn he hr Q')))
 all_goals first
  |(rw[zA hx (Ns hb)];done)
  |(rw[zA hx (VX aO (aeA hx aO hb))];done)
  |(rw[zA hx (VW aO hb)];done)
  |(refine⟨k+1,⟨by omega,wL hk.2 hx (VY aO (fun h1=> ?_) (fun h4=> ?_))⟩,by omega,aI⟩
    ·first
      |(exfalso;omega)
      |exact(TG hx h1).1 aO
    ·first
      |(exfalso;omega)
      |assumption)
  |(have h9:=wK hk.2 ah;simp[kV,h9];try omega)
theorem IJ(a:List aY):ak Tryz.prog 149 G0 0 [] [.sl 3 (a.map dH)] (fun d os=>d= .bool (kV a)∧os=[]):=by
 refine aF Tryz.func149 rfl aB rfl (fun w0 F0 lent β0=> ?_)
 repeat'(first|refine sC ?_|((with_reducible refine aj ?_);first|(refine sS ?_;intro Q' hn he hr)|refine sA ?_)|(refine sH ?_;clear hn he hr Q')|((conv=>whnf);first|refine sK ?_|(refine sB ?_;repeat'(refine aA ?_ ?_<;>intro hb<;>try exact cls))|(refine sL ?_;intro hlen)|(refine au [] rfl rfl rfl ⟨?_,rfl⟩;conv=>lhs;whnf)))
 ·rw[agB ah]
 ·refine aQ (fun k:Nat=>[(0,.sl 3 (a.map dH)),(10,.sl 3 (a.map dH)),(11,.int .i64 a.length),(12,.int .i64 k)]) (fun _=>[]) (fun k=>k≤a.length∧pJ (qH a) a k) (fun k=>a.length-k) 0 ⟨by omega,wM⟩ aI (fun k hk Q' hn he hr=> ?_)
  repeat'(first|refine sC ?_|((with_reducible refine aj ?_);first|(refine sS ?_;intro Q' hn he hr)|refine sA ?_)|(refine sH ?_;clear hn he hr Q')|refine sO ?_|((conv=>whnf);first|refine sK ?_|(refine sB ?_;repeat'(first|refine sb0 ?_|(refine aA ?_ ?_<;>intro hb<;>try exact cls)))|((with_reducible refine aH ?_);first|(refine aG (rX _) rfl rfl ?_)|(refine aG (iQ _ _ _) rfl rfl ?_)|(refine jq (IQ a x.fName) rfl ?_))|((with_reducible refine aZ ?_);(refine aT (Zh a k x.fName) rfl rfl ?_))|refine sP ?_|(refine sE ?_;intro x hx)|refine sD ?_|(refine au [] rfl rfl rfl ⟨?_,rfl⟩;conv=>lhs;whnf)|(refine sH ?_;clear hn he hr Q')))
  all_goals first
   |(have h9:=wK hk.2 ah;have h8:a.length≤40:=ah;simp[kV,h9,h8];done)
   |(refine⟨k+1,⟨by omega,wL hk.2 hx (VY ?_ (fun h1=> ?_) (fun h4=> ?_))⟩,by omega,aI⟩
     ·first
       |(rw[VZ aO];exact band aO (decide_eq_true aO))
       |(rw[V3 aO];exact band aO (decide_eq_true aO))
       |(rw[Nu aO];exact band (decide_eq_true aO) aO)
       |(rw[Nv aO];exact band aO aO)
       |(rw[V4 aO];exact band (decide_eq_true aO) (decide_eq_true aO))
     ·first
       |(exfalso;omega)
       |exact afa ah aO
     ·first
       |(exfalso;omega)
       |assumption)
   |(rw[zA hx (Ns (agA aO aO aO aO aO))];done)
   |(rw[zA hx (Ns (by first|rw[VZ aO]|rw[V3 aO]|rw[Nu aO]|rw[Nv aO]|rw[V4 aO]
                      first
                       |(rw[hb];rfl)
                       |(rw[hb,Bool.and_false])
                       |(rw[decide_eq_false hb,Bool.and_false])
                       |(rw[decide_eq_false (show ¬x.fName=[] from hb)];rfl)))];done)
   |(rw[zA hx (VW aO hb)];done)
   |(rw[zA hx (VX aO ((AB ah).1 hb))];done)
   |skip
end Go.Eng
