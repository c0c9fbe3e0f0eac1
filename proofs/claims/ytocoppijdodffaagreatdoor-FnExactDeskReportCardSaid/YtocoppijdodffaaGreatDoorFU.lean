/-
  The worst view of a seat, scores, and the findings of the seats: the contracts of the program's functions and of the reference's.
  No conditions.
-/
import Derived.Test.YtocoppijdodffaaGreatDoorFY
set_option linter.unusedVariables false
set_option linter.unusedSimpArgs false
set_option maxHeartbeats 4000000
namespace Go.Eng
open Go Go.RowKit Go.Proofs
set_option maxRecDepth 100000
theorem Uh(w e:Int):(bif true then if e>w then e else w else if e<w then e else w)=max w e:=by
 show(if e>w then e else w)=max w e
 split<;>omega
set_option maxHeartbeats 8000000 in
theorem Y4(d:dn)(v:bI)(hd:jD d=true)(hv2:fE 30000 v)(hv3:mV d v=true):ak Tryz.prog 234 GS 0 [] [.agg (jE d), .agg (eu v), .int .i64 45000] (fun e os=>e= .aN [.int .i64 (qM d v), .int .i64 0]∧os=[]):=by
 have hv:inB 45000 15000 90000=true:=by decide
 refine aF Tryz.func234 rfl aB rfl (fun w0 F0 lent β0=> ?_)
 repeat'(first|refine sC ?_|((with_reducible refine aj ?_);first|(refine sS ?_;intro Q' hn he hr)|refine sA ?_)|(refine sH ?_;clear hn he hr Q')|((conv=>whnf);first|refine sK ?_|(refine sB ?_;repeat'(refine aA ?_ ?_<;>intro hb<;>try exact cls))|((with_reducible refine aH ?_);first|(refine aG ((IG d).aU) rfl rfl ?_)|(refine aG (ak.aU (iQ _ _ _)) rfl rfl ?_)|(refine aG ((IL d v hd hv2).aU) rfl rfl ?_))|(refine au [] rfl rfl rfl ⟨?_,rfl⟩;conv=>lhs;whnf)))
 ·exfalso
  have h9:=hd.symm.trans (by assumption:jD d=false)
  cases h9
 refine qY (fun(m:Nat) (a:Int) (w:Int)=>[(2,.int .i64 45000),(3,.hp 0 0),(4,.hp 1 0),(8,.int .i64 w),(9,.int .i64 a)]) (fun m a w=>[.box (jE d), .box (eu v)]) (fun m a w=>qL d v m a w=qM d v∧360000≤a+45000*m∧(0≤a∧a≤405000)∧(0≤w∧w≤360000)) (fun m a w=>m) 9 0 0 ⟨rfl,by omega,by omega,by omega⟩ aI (fun m a w hk Q' hn he hr=> ?_)
 obtain⟨hk1,hk2,hk3,hk4⟩:=hk
 by_cases sV:a<360000
 ·obtain⟨m',rfl⟩: ∃m',m=m'+1:=⟨m-1,by omega⟩
  rw[NZ sV] at hk1
  repeat'(first|refine sC ?_|((with_reducible refine aj ?_);first|(refine sS ?_;intro Q' hn he hr)|refine sA ?_)|(refine sH ?_;clear hn he hr Q')|((conv=>whnf);first|refine sK ?_|(refine sB ?_;repeat'(refine aA ?_ ?_<;>intro hb<;>try exact cls))))
  refine qY (fun(n:Nat) (h:Int) (w:Int)=>[(2,.int .i64 45000),(3,.hp 0 0),(4,.hp 1 0),(8,.int .i64 w),(9,.int .i64 a),(10,.int .i64 h)]) (fun n h w=>[.box (jE d), .box (eu v)]) (fun n h w=>qL d v m' (a+45000) (rP d v a n h w)=qM d v∧90000<h+45000*n∧(0≤h∧h≤135000)∧(0≤w∧w≤360000)) (fun n h w=>n) 4 0 w ⟨hk1,by omega,by omega,by omega⟩ aI (fun n h w hj Q' hn he hr=> ?_)
  obtain⟨hj1,hj2,hj3,Ko⟩:=hj
  by_cases hh:h≤90000
  ·obtain⟨n',rfl⟩: ∃n',n=n'+1:=⟨n-1,by omega⟩
   rw[NW hh] at hj1
   have heb:=JB d v a h
   have hlb:=Lc (jC d v a h)
   have hla:=TI (jC d v a h)
   repeat'(first|refine sC ?_|((with_reducible refine aj ?_);first|(refine sS ?_;intro Q' hn he hr)|refine sA ?_)|(refine sH ?_;clear hn he hr Q')|((conv=>whnf);first|refine sK ?_|(refine sB ?_;repeat'(refine aA ?_ ?_<;>intro hb<;>try exact cls))|((with_reducible refine aH ?_);first|(refine aG (Zy d v a h hd hv2 ah ah) rfl rfl ?_)|(refine aG (Zc (jC d v a h) (W9 hd hv2 a h)) rfl rfl ?_)|(refine aG (CY a h eY eY) rfl rfl ?_)|(refine aG (CY ((90000-kT (jC d v a h)) % 360000) (iR (jC d v a h)) eY eY) rfl rfl ?_)|(refine aG (OC (fO a h) (fO ((90000-kT (jC d v a h)) % 360000) (iR (jC d v a h))) (sN _ _) (sN _ _)) rfl rfl ?_))|refine sP ?_))
   refine⟨n',h+45000,max w (yR d v a h),⟨hj1,by omega,by omega,by omega⟩,by omega,?_⟩
   exact(by refine aC rfl rfl rfl ?_;((repeat'(first|exact trivial|refine And.intro ?_ ?_))<;>(first|rfl|(conv=>rhs;whnf)<;>(first|rfl|exact(congrArg (D.int _) (Uh w (yR d v a h))).symm|(refine congrArg (D.int _) ?_;omega)))))
  ·rw[NV hh] at hj1
   repeat'(first|refine sC ?_|((with_reducible refine aj ?_);first|(refine sS ?_;intro Q' hn he hr)|refine sA ?_)|(refine sH ?_;clear hn he hr Q')|((conv=>whnf);first|refine sK ?_|(refine sB ?_;repeat'(refine aA ?_ ?_<;>intro hb<;>try exact cls))|refine sP ?_|(refine sH ?_;clear hn he hr Q')))
   exact⟨m',a+45000,w,⟨hj1,by omega,by omega,by omega⟩,by omega,aI⟩
 ·rw[NY sV] at hk1
  subst hk1
  repeat'(first|refine sC ?_|((with_reducible refine aj ?_);first|(refine sS ?_;intro Q' hn he hr)|refine sA ?_)|(refine sH ?_;clear hn he hr Q')|((conv=>whnf);first|refine sK ?_|(refine sB ?_;repeat'(refine aA ?_ ?_<;>intro hb<;>try exact cls))|(refine au [] rfl rfl rfl ⟨?_,rfl⟩;conv=>lhs;whnf)|(refine sH ?_;clear hn he hr Q')))
  all_goals rfl
set_option maxHeartbeats 8000000 in
theorem aak(d:dn)(r:List D)(v:bI)(hd:jD d=true)(hv2:fE 30000 v):ak Tryz.prog 256 G0 0 [] [.rp (jE d++r), .agg (eu v), .int .i64 45000] (fun e os=>e= .int .i64 (qM d v)∧os=[]):=by
 refine aF Tryz.func256 rfl aB rfl (fun w0 F0 lent β0=> ?_)
 repeat'(first|refine sC ?_|((with_reducible refine aj ?_);first|(refine sS ?_;intro Q' hn he hr)|refine sA ?_)|(refine sH ?_;clear hn he hr Q')|((conv=>whnf);refine sK ?_))
 refine qY (fun(m:Nat) (a:Int) (w:Int)=>[(0,.rp (jE d++r)),(2,.int .i64 45000),(4,.hp 0 0),(7,.int .i64 w),(8,.int .i64 a)]) (fun m a w=>[.box (eu v)]) (fun m a w=>qL d v m a w=qM d v∧360000≤a+45000*m∧(0≤a∧a≤405000)∧(0≤w∧w≤360000)) (fun m a w=>m) 9 0 0 ⟨rfl,by omega,by omega,by omega⟩ aI (fun m a w hk Q' hn he hr=> ?_)
 obtain⟨hk1,hk2,hk3,hk4⟩:=hk
 by_cases sV:a<360000
 ·obtain⟨m',rfl⟩: ∃m',m=m'+1:=⟨m-1,by omega⟩
  rw[NZ sV] at hk1
  repeat'(first|refine sC ?_|((with_reducible refine aj ?_);first|(refine sS ?_;intro Q' hn he hr)|refine sA ?_)|(refine sH ?_;clear hn he hr Q')|((conv=>whnf);first|refine sK ?_|(refine sB ?_;repeat'(refine aA ?_ ?_<;>intro hb<;>try exact cls))))
  refine qY (fun(n:Nat) (h:Int) (w:Int)=>[(0,.rp (jE d++r)),(2,.int .i64 45000),(4,.hp 0 0),(7,.int .i64 w),(8,.int .i64 a),(9,.int .i64 h)]) (fun n h w=>[.box (eu v)]) (fun n h w=>qL d v m' (a+45000) (rP d v a n h w)=qM d v∧90000<h+45000*n∧(0≤h∧h≤135000)∧(0≤w∧w≤360000)) (fun n h w=>n) 4 0 w ⟨hk1,by omega,by omega,by omega⟩ aI (fun n h w hj Q' hn he hr=> ?_)
  obtain⟨hj1,hj2,hj3,Ko⟩:=hj
  by_cases hh:h≤90000
  ·obtain⟨n',rfl⟩: ∃n',n=n'+1:=⟨n-1,by omega⟩
   rw[NW hh] at hj1
   have heb:=JB d v a h
   have hlb:=Lc (jC d v a h)
   have hla:=TI (jC d v a h)
   repeat'(first|refine sC ?_|((with_reducible refine aj ?_);first|(refine sS ?_;intro Q' hn he hr)|refine sA ?_)|(refine sH ?_;clear hn he hr Q')|((conv=>whnf);first|refine sK ?_|(refine sB ?_;repeat'(refine aA ?_ ?_<;>intro hb<;>try exact cls))|((with_reducible refine aH ?_);first|(refine aG (aaj d r v a h hd hv2 ah ah) rfl rfl ?_)|(refine aG (aah a h ((90000-kT (jC d v a h)) % 360000) (iR (jC d v a h)) eY eY eY eY) rfl rfl ?_)|(refine aG (EX _ _) rfl rfl ?_))|refine sP ?_))
   refine⟨n',h+45000,max w (yR d v a h),⟨hj1,by omega,by omega,by omega⟩,by omega,?_⟩
   exact aI
  ·rw[NV hh] at hj1
   repeat'(first|refine sC ?_|((with_reducible refine aj ?_);first|(refine sS ?_;intro Q' hn he hr)|refine sA ?_)|(refine sH ?_;clear hn he hr Q')|((conv=>whnf);first|refine sK ?_|(refine sB ?_;repeat'(refine aA ?_ ?_<;>intro hb<;>try exact cls))|refine sP ?_|(refine sH ?_;clear hn he hr Q')))
   exact⟨m',a+45000,w,⟨hj1,by omega,by omega,by omega⟩,by omega,aI⟩
 ·rw[NY sV] at hk1
  subst hk1
  repeat'(first|refine sC ?_|((with_reducible refine aj ?_);first|(refine sS ?_;intro Q' hn he hr)|refine sA ?_)|(refine sH ?_;clear hn he hr Q')|((conv=>whnf);first|refine sK ?_|(refine sB ?_;repeat'(refine aA ?_ ?_<;>intro hb<;>try exact cls))|(refine au [] rfl rfl rfl ⟨?_,rfl⟩;conv=>lhs;whnf)|(refine sH ?_;clear hn he hr Q')))
theorem VT{d:dn}{v:bI}(h:mV d v=false):rH d v=0:=by unfold rH;rw[h];rfl
theorem VU{d:dn}{v:bI}(h:mV d v=true):rH d v=max 0 (1000-(qM d v).tdiv 90):=by unfold rH;rw[if_pos h]
theorem Xg(d:dn)(v:bI):0≤(qM d v).tdiv 90∧(qM d v).tdiv 90≤4000:=by
 have h:=Xf d v
 rw[Int.tdiv_eq_ediv_of_nonneg h.1]
 omega
set_option maxHeartbeats 4000000 in
theorem Zo(d:dn)(R:List bK)(k:Int)(hd:jD d=true)(hR:gZ R=true)(h0:0≤k)(h1:k<dO R):ak Tryz.prog 166 GS 0 [] [.agg (jE d), .sl 5 (R.map dS), .int .i64 k] (fun e os=>e= .int .i64 (rH d (jU R k))∧os=[]):=by
 have hpb:=U1 hR h0 h1
 have hq:=Xg d (jU R k)
 cases hv:mV d (jU R k) with
 |false=>
  rw[VT hv]
  refine aF Tryz.func166 rfl aB rfl (fun w0 F0 lent β0=> ?_)
  repeat'(first|refine sC ?_|((with_reducible refine aj ?_);first|(refine sS ?_;intro Q' hn he hr)|refine sA ?_)|(refine sH ?_;clear hn he hr Q')|((conv=>whnf);first|refine sK ?_|(refine sB ?_;repeat'(refine aA ?_ ?_<;>intro hb<;>try exact cls))|((with_reducible refine aH ?_);first|(refine aG (O1 R k hR h0 h1) rfl rfl ?_)|(refine aG ((IL d (jU R k) hd hpb).aU) rfl rfl ?_))|(refine au [] rfl rfl rfl ⟨?_,rfl⟩;conv=>lhs;whnf)))
 |true=>
  rw[VU hv]
  refine aF Tryz.func166 rfl aB rfl (fun w0 F0 lent β0=> ?_)
  repeat'(first|refine sC ?_|((with_reducible refine aj ?_);first|(refine sS ?_;intro Q' hn he hr)|refine sA ?_)|(refine sH ?_;clear hn he hr Q')|((conv=>whnf);first|refine sK ?_|(refine sB ?_;repeat'(refine aA ?_ ?_<;>intro hb<;>try exact cls))|(refine bZ.mk ⟨by omega,?_⟩)|(refine bn.lD ah ?_)|((with_reducible refine aH ?_);first|(refine aG (O1 R k hR h0 h1) rfl rfl ?_)|(refine aG ((IL d (jU R k) hd hpb).aU) rfl rfl ?_)|(refine aG (Y4 d (jU R k) hd hpb hv) rfl rfl ?_))|(refine au [] rfl rfl rfl ⟨?_,rfl⟩;conv=>lhs;whnf)))
  all_goals exact congrArg (D.int _) (Uh 0 _)
set_option maxHeartbeats 4000000 in
theorem aaL(d:dn)(r:List D)(R:List bK)(k:Int)(hd:jD d=true)(hR:gZ R=true)(h0:0≤k)(h1:k<dO R):ak Tryz.prog 204 G0 0 [] [.rp (jE d++r), .agg (eu (jU R k))] (fun e os=>e= .int .i64 (rH d (jU R k))∧os=[]):=by
 have hpb:=U1 hR h0 h1
 have hq:=Xg d (jU R k)
 cases hv:mV d (jU R k) with
 |false=>
  rw[VT hv]
  refine aF Tryz.func204 rfl aB rfl (fun w0 F0 lent β0=> ?_)
  repeat'(first|refine sC ?_|((with_reducible refine aj ?_);first|(refine sS ?_;intro Q' hn he hr)|refine sA ?_)|(refine sH ?_;clear hn he hr Q')|((conv=>whnf);first|refine sK ?_|(refine sB ?_;repeat'(refine aA ?_ ?_<;>intro hb<;>try exact cls))|((with_reducible refine aH ?_);(refine aG (PK d r (jU R k) hd hpb) rfl rfl ?_))|(refine au [] rfl rfl rfl ⟨?_,rfl⟩;conv=>lhs;whnf)))
 |true=>
  rw[VU hv]
  refine aF Tryz.func204 rfl aB rfl (fun w0 F0 lent β0=> ?_)
  repeat'(first|refine sC ?_|((with_reducible refine aj ?_);first|(refine sS ?_;intro Q' hn he hr)|refine sA ?_)|(refine sH ?_;clear hn he hr Q')|((conv=>whnf);first|refine sK ?_|(refine sB ?_;repeat'(refine aA ?_ ?_<;>intro hb<;>try exact cls))|(refine bZ.mk ⟨by omega,?_⟩)|(refine bn.lD ah ?_)|((with_reducible refine aH ?_);first|(refine aG (PK d r (jU R k) hd hpb) rfl rfl ?_)|(refine aG (aak d r (jU R k) hd hpb) rfl rfl ?_)|(refine aG (EX _ _) rfl rfl ?_))|(refine au [] rfl rfl rfl ⟨?_,rfl⟩;conv=>lhs;whnf)))
  all_goals rfl
theorem Kv{h:bM}(hv:gB h=true):jD h.fP=true∧gZ h.dW=true∧oP (dO h.dW) h.dZ=true∧0≤h.oG∧h.oG≤1000:=by
 simp only[gB,inB,Bool.and_eq_true,decide_eq_true_eq] at hv
 exact⟨hv.1,hv.2.2.1,hv.2.2.2.1,hv.2.2.2.2.2.2.2.2.2.2.1⟩
theorem aeH{α:Type}{p:α→Bool}{lt:α→α→Bool}{a:List α}(h:jG p lt a=true){k:Nat}{x y:α}(hx:a[k]? =some x)(hy:a[k+1]? =some y):lt x y=true:=by
 simp only[jG,Bool.and_eq_true,Ac] at h
 exact h.2 k x y hx hy
theorem agp{n m:Int} : ∀ {B:List Int},jG (fun k=>inB k m (n-1)) qy B=true→(B.length:Int)≤max 0 (n-m):=by
 intro B hb
 have h: ∀(j:Nat) (k:Int),B[j]? =some k→m+j≤k:=by
  intro j
  induction j with
  |zero=>
   intro k hk
   have h3:=AP hb hk
   simp only[inB,decide_eq_true_eq] at h3
   omega
  |succ j ih=>
   intro k hk
   have hj:j+1<B.length:=(List.getElem?_eq_some_iff.1 hk).1
   obtain⟨y,hy⟩: ∃y,B[j]? =some y:=⟨_,List.getElem?_eq_getElem ah⟩
   have h4:=ih y hy
   have h5:=aeH hb hy hk
   simp only[qy,decide_eq_true_eq] at h5
   omega
 rcases Nat.eq_zero_or_pos B.length with h0|h0
 ·omega
 ·obtain⟨y,hy⟩: ∃y,B[B.length-1]? =some y:=⟨_,List.getElem?_eq_getElem ah⟩
  have h1:=h _ y hy
  have h3:=AP hb hy
  simp only[inB,decide_eq_true_eq] at h3
  omega
theorem ER{h:bM}(hv:gB h=true):h.dZ.length≤120:=by
 obtain⟨_,h2,h3,_⟩:=Kv hv
 have h4:=(Bq h2).2.2
 have h5:=agp (n:=dO h.dW) (m:=0) h3
 omega
noncomputable def uj(h:bM):List gU:=rJ h h.dZ.length
set_option maxHeartbeats 8000000 in
theorem Zm(h:bM)(hv:gB h=true):ak Tryz.prog 84 zN 0 [] [.agg (jQ h)] (fun d os=>d= .h 0∧os=[.row 152 3 ((uj h).map eG)]):=by
 obtain⟨h1,h2,h3,h4⟩:=Kv hv
 have hbl:=ER hv
 refine aF Tryz.func84 rfl aB rfl (fun w0 F0 lent β0=> ?_)
 repeat'(first|refine sC ?_|((with_reducible refine aj ?_);first|(refine sS ?_;intro Q' hn he hr)|refine sA ?_)|(refine sH ?_;clear hn he hr Q')|((conv=>whnf);first|refine sK ?_|(refine sL ?_;intro hlen)))
 refine aQ (fun k:Nat=>[(1,.hp 0 0),(3,.h 1),(8,.sl 1 (h.dZ.map encI)),(9,.int .i64 h.dZ.length),(10,.int .i64 k)]) (fun k=>[.box (jQ h), .row 152 3 ((rJ h k).map eG)]) (fun k=>k≤h.dZ.length) (fun k=>h.dZ.length-k) 0 ah (by refine Weak.trans (yA 3 152 3 rfl rfl) (aC rfl rfl rfl ?_);exact⟨rfl,rfl,rfl,rfl,rfl,trivial⟩) (fun k hk Q' hn he hr=> ?_)
 have hml:=Ey h k
 by_cases hkl:k<h.dZ.length
 ·obtain⟨x,hx0⟩: ∃x,h.dZ[k]? =some x:=⟨_,List.getElem?_eq_getElem hkl⟩
  obtain⟨g1,g2⟩:=VD h2 h3 hx0
  have hsb:=VR h.fP (jU h.dW x)
  repeat'(first|refine sC ?_|((with_reducible refine aj ?_);first|(refine sS ?_;intro Q' hn he hr)|refine sA ?_)|(refine sH ?_;clear hn he hr Q')|((conv=>whnf);first|refine sK ?_|(refine sB ?_;repeat'(refine aA ?_ ?_<;>intro hb<;>try exact cls))|(refine aJ.the hx0 ?_)|((with_reducible refine aH ?_);first|(refine aG ((Zo h.fP h.dW x h1 h2 g1 g2).Wu) rfl rfl ?_)|(refine aG ((Zn h.dW x h2 g1 g2).Ny) rfl rfl ?_)|(refine aG ((CW (rH h.fP (jU h.dW x)) ah).Ny) rfl rfl ?_))|refine sP ?_))
  ·refine⟨k+1,by omega,by omega,?_⟩
   exact(by refine aC rfl rfl (by rw[V8 hx0 Ia,List.map_append];rfl) ?_;((repeat'(first|exact trivial|refine And.intro ?_ ?_))<;>(first|rfl|(conv=>rhs;whnf)<;>(first|rfl|(refine congrArg (D.int _) ?_;omega)))))
  ·refine⟨k+1,by omega,by omega,?_⟩
   exact(by refine aC rfl rfl (by rw[V7 hx0 Ia];rfl) ?_;((repeat'(first|exact trivial|refine And.intro ?_ ?_))<;>(first|rfl|(conv=>rhs;whnf)<;>(first|rfl|(refine congrArg (D.int _) ?_;omega)))))
 ·obtain rfl:k=h.dZ.length:=by omega
  repeat'(first|refine sC ?_|((with_reducible refine aj ?_);first|(refine sS ?_;intro Q' hn he hr)|refine sA ?_)|(refine sH ?_;clear hn he hr Q')|((conv=>whnf);first|refine sK ?_|(refine sB ?_;repeat'(refine aA ?_ ?_<;>intro hb<;>try exact cls))|((with_reducible refine bP ?_);(refine au [1] rfl rfl rfl ⟨rfl,?_⟩))|(refine sH ?_;clear hn he hr Q')))
  all_goals rfl
set_option maxHeartbeats 8000000 in
theorem aaZ(h:bM)(r:List D)(hv:gB h=true):ak Tryz.prog 133 G0 0 [] [.rp (oz h r)] (fun d os=>d= .h 0∧os=[.row 152 3 ((uj h).map eG)]):=by
 obtain⟨h1,h2,h3,h4⟩:=Kv hv
 have hbl:=ER hv
 refine aF Tryz.func133 rfl aB rfl (fun w0 F0 lent β0=> ?_)
 repeat'(first|refine sC ?_|((with_reducible refine aj ?_);first|(refine sS ?_;intro Q' hn he hr)|refine sA ?_)|(refine sH ?_;clear hn he hr Q')|((conv=>whnf);refine sK ?_))
 refine aQ (fun k:Nat=>[(0,.rp (oz h r)),(3,.h 0),(4,.int .i64 k)]) (fun k=>[.row 152 3 ((rJ h k).map eG)]) (fun k=>k≤h.dZ.length) (fun k=>h.dZ.length-k) 0 ah aI (fun k hk Q' hn he hr=> ?_)
 have hml:=Ey h k
 by_cases hkl:k<h.dZ.length
 ·obtain⟨x,hx0⟩: ∃x,h.dZ[k]? =some x:=⟨_,List.getElem?_eq_getElem hkl⟩
  obtain⟨g1,g2⟩:=VD h2 h3 hx0
  have hsb:=VR h.fP (jU h.dW x)
  repeat'(first|refine sC ?_|((with_reducible refine aj ?_);first|(refine sS ?_;intro Q' hn he hr)|refine sA ?_)|(refine sH ?_;clear hn he hr Q')|refine sO ?_|((conv=>whnf);first|refine sK ?_|(refine sB ?_;repeat'(refine aA ?_ ?_<;>intro hb<;>try exact cls))|(refine aJ.the hx0 ?_)|((with_reducible refine aZ ?_);first|(refine aT (aaK h.dW x h2 g1 g2) rfl rfl ?_)|(refine aT (aaL h.fP _ h.dW x h1 h2 g1 g2) rfl rfl ?_)|(refine aT (aaI h.dW x h2 g1 g2) rfl rfl ?_)|(refine aT (CZ (rH h.fP (jU h.dW x)) ah) rfl rfl ?_))|refine sP ?_|(refine sL ?_;intro hlen)|refine sD ?_))
  ·refine⟨k+1,by omega,by omega,?_⟩
   exact(by refine aC rfl rfl (by rw[V8 hx0 Ia,List.map_append];rfl) ?_;((repeat'(first|exact trivial|refine And.intro ?_ ?_))<;>(first|rfl|(conv=>rhs;whnf)<;>(first|rfl|(refine congrArg (D.int _) ?_;omega)))))
  ·refine⟨k+1,by omega,by omega,?_⟩
   exact(by refine aC rfl rfl (by rw[V7 hx0 Ia];rfl) ?_;((repeat'(first|exact trivial|refine And.intro ?_ ?_))<;>(first|rfl|(conv=>rhs;whnf)<;>(first|rfl|(refine congrArg (D.int _) ?_;omega)))))
 ·obtain rfl:k=h.dZ.length:=by omega
  repeat'(first|refine sC ?_|((with_reducible refine aj ?_);first|(refine sS ?_;intro Q' hn he hr)|refine sA ?_)|(refine sH ?_;clear hn he hr Q')|((conv=>whnf);first|refine sK ?_|(refine sB ?_;repeat'(refine aA ?_ ?_<;>intro hb<;>try exact cls))|((with_reducible refine bP ?_);(refine au [0] rfl rfl rfl ⟨rfl,?_⟩))|(refine sL ?_;intro hlen)|(refine sH ?_;clear hn he hr Q')))
  all_goals rfl
end Go.Eng
