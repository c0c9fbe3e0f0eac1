/-
  Weights of projectors, spots that are not lit, the findings of the dome: the contracts of the program's functions and of the reference's.
  No conditions.
-/
import Derived.Test.YtocoppijdodffaaGreatDoorFX
import Derived.Test.YtocoppijdodffaaGreatDoorFM
import Derived.Test.YtocoppijdodffaaGreatDoorPK
import Derived.Test.YtocoppijdodffaaGreatDoorDT
set_option linter.unusedVariables false
set_option linter.unusedSimpArgs false
set_option maxHeartbeats 4000000
namespace Go.Eng
open Go Go.RowKit Go.Proofs
set_option maxRecDepth 100000
theorem MJ{a:List bW}(h:jV a=true):a.length≤6∧ ∀(k:Nat) p,a[k]? =some p→ni p=true:=by
 simp only[jV,Bool.and_eq_true,decide_eq_true_eq] at h
 exact⟨h.1,fun k p hp=>AP h.2 hp⟩
set_option maxHeartbeats 4000000 in
theorem Zj(p:bW)(a h:Int)(hp:ni p=true)(ha:bU a)(hh:bU h):ak Tryz.prog 272 GS 0 [] [.agg (dR p), .int .i64 a, .int .i64 h] (fun d os=>d= .int .i64 (vW p (fO a h))∧os=[]):=by
 obtain⟨h1,h2,h3,h4⟩:=U5 hp
 have hd:=Ir (fO p.jS p.jR) (fO a h)
 refine aF Tryz.func272 rfl aB rfl (fun w0 F0 lent β0=> ?_)
 repeat'(first|refine sC ?_|((with_reducible refine aj ?_);first|(refine sS ?_;intro Q' hn he hr)|refine sA ?_)|(refine sH ?_;clear hn he hr Q')|((conv=>whnf);first|refine sK ?_|(refine sB ?_;repeat'(refine aA ?_ ?_<;>intro hb<;>try exact cls))|(refine bZ.mk ⟨by omega,?_⟩)|(refine bn.lD (by have h9:=Vk (f:=p.lV) (d:=jO (fO p.jS p.jR) (fO a h)) h3 ⟨hd.1,by omega⟩;omega) ?_)|((with_reducible refine aH ?_);first|(refine aG (CY p.jS p.jR eY eY) rfl rfl ?_)|(refine aG (CY a h ha hh) rfl rfl ?_)|(refine aG (OC (fO p.jS p.jR) (fO a h) (sN _ _) (sN _ _)) rfl rfl ?_))|(refine au [] rfl rfl rfl ⟨?_,rfl⟩;conv=>lhs;whnf)))
 all_goals first
  |(rw[Vl aO];done)
  |(rw[Vm ah];done)
set_option maxHeartbeats 4000000 in
theorem aao(p:bW)(v:bI)(hp:ni p=true)(hv:fE 1000000 v):ak Tryz.prog 291 G0 0 [] [.rp (dR p), .agg (eu v)] (fun d os=>d= .int .i64 (vW p v)∧os=[]):=by
 obtain⟨h1,h2,h3,h4⟩:=U5 hp
 have hd:=Ir (fO p.jS p.jR) v
 refine aF Tryz.func291 rfl aB rfl (fun w0 F0 lent β0=> ?_)
 repeat'(first|refine sC ?_|((with_reducible refine aj ?_);first|(refine sS ?_;intro Q' hn he hr)|refine sA ?_)|(refine sH ?_;clear hn he hr Q')|refine sO ?_|((conv=>whnf);first|refine sK ?_|(refine sB ?_;repeat'(refine aA ?_ ?_<;>intro hb<;>try exact cls))|(refine bZ.mk ⟨by omega,?_⟩)|(refine bn.lD (by have h9:=Vk (f:=p.lV) (d:=jO (fO p.jS p.jR) v) h3 ⟨hd.1,by omega⟩;omega) ?_)|((with_reducible refine aZ ?_);first|(refine aT (Dh p.jS p.jR eY eY) rfl rfl ?_)|(refine aT (PE (fO p.jS p.jR) v (sN _ _) hv) rfl rfl ?_))|refine sD ?_|(refine au [] rfl rfl rfl ⟨?_,rfl⟩;conv=>lhs;whnf)))
 all_goals first
  |(rw[Vl aO];done)
  |(rw[Vm ah];done)
set_option maxHeartbeats 4000000 in
theorem Zk(ps:List bW)(a h:Int)(hps:jV ps=true)(ha:0≤a∧a≤359999)(hh:0≤h∧h≤90000):ak Tryz.prog 224 GS 0 [] [.sl 5 (ps.map dR), .sl 1 ([a,h].map encI)] (fun d os=>d= .int .i64 (uf ps a h)∧os=[]):=by
 obtain⟨hl,hall⟩:=MJ hps
 refine aF Tryz.func224 rfl aB rfl (fun w0 F0 lent β0=> ?_)
 repeat'(first|refine sC ?_|((with_reducible refine aj ?_);first|(refine sS ?_;intro Q' hn he hr)|refine sA ?_)|(refine sH ?_;clear hn he hr Q')|((conv=>whnf);first|refine sK ?_|(refine sL ?_;intro hlen)))
 refine aQ (fun k:Nat=>[(0,.sl 5 (ps.map dR)),(1,.sl 1 ([a,h].map encI)),(5,.int .i64 (uf (ps.take k) a h)),(8,.sl 5 (ps.map dR)),(9,.int .i64 ps.length),(10,.int .i64 k)]) (fun _=>[]) (fun k=>k≤ps.length) (fun k=>ps.length-k) 0 ah aI (fun k hk Q' hn he hr=> ?_)
 have hrl:=Vo (ps.take k) a h
 have htl:(ps.take k).length≤6:=by rw[List.length_take];omega
 by_cases hkl:k<ps.length
 ·obtain⟨p,hp⟩: ∃p,ps[k]? =some p:=⟨_,List.getElem?_eq_getElem hkl⟩
  have hst:=Vp hp a h
  repeat'(first|refine sC ?_|((with_reducible refine aj ?_);first|(refine sS ?_;intro Q' hn he hr)|refine sA ?_)|(refine sH ?_;clear hn he hr Q')|refine sO ?_|((conv=>whnf);first|refine sK ?_|(refine sB ?_;repeat'(refine aA ?_ ?_<;>intro hb<;>try exact cls))|(refine aJ.the hp ?_)|(refine aJ.lit 0 rfl rfl ?_)|(refine aJ.lit 1 rfl rfl ?_)|((with_reducible refine aZ ?_);(refine aT (Zj p a h (hall _ _ hp) eY eY) rfl rfl ?_))|refine sP ?_|refine sD ?_))
  ·refine⟨k+1,by omega,by omega,?_⟩
   rw[hst,if_pos ah]
   exact aI
  ·refine⟨k+1,by omega,by omega,?_⟩
   rw[hst,if_neg ah]
   exact aI
 ·obtain rfl:k=ps.length:=by omega
  rw[List.take_length]
  repeat'(first|refine sC ?_|((with_reducible refine aj ?_);first|(refine sS ?_;intro Q' hn he hr)|refine sA ?_)|(refine sH ?_;clear hn he hr Q')|((conv=>whnf);first|refine sK ?_|(refine sB ?_;repeat'(refine aA ?_ ?_<;>intro hb<;>try exact cls))|(refine au [] rfl rfl rfl ⟨?_,rfl⟩;conv=>lhs;whnf)|(refine sH ?_;clear hn he hr Q')))
  all_goals rfl
set_option maxHeartbeats 4000000 in
theorem aam(ps:List bW)(a h:Int)(hps:jV ps=true)(ha:0≤a∧a≤359999)(hh:0≤h∧h≤90000):ak Tryz.prog 252 G0 0 [] [.sl 5 (ps.map dR), .sl 1 ([a,h].map encI)] (fun d os=>d= .int .i64 (uf ps a h)∧os=[]):=by
 obtain⟨hl,hall⟩:=MJ hps
 refine aF Tryz.func252 rfl aB rfl (fun w0 F0 lent β0=> ?_)
 repeat'(first|refine sC ?_|((with_reducible refine aj ?_);first|(refine sS ?_;intro Q' hn he hr)|refine sA ?_)|(refine sH ?_;clear hn he hr Q')|((conv=>whnf);refine sK ?_))
 refine acA (γ:=Unit) (fun _=>[(0,.sl 5 (ps.map dR)),(5,.int .i64 0),(6,.hp 0 0)]) (fun _=>[.box (eu (fO a h))]) (fun _=>True) ?_ (fun _ _=> ?_)
 ·refine acE (.ins [0,3] (.fork 1 (.fork 2 (.fork 4 (.fork 5 (.fork 6 (.line [7,8]) (.line [7,6,8])) (.line [7,5,6,8])) (.line [7,4,5,6,8])) (.fork 4 (.fork 2 (.fork 5 (.fork 6 (.line [7,8]) (.line [7,6,8])) (.line [7,5,6,8])) (.fork 5 (.fork 2 (.fork 6 (.line [7,8]) (.line [7,6,8])) (.line [7,2,6,8])) (.ins [7] (.fork 2 (.line [5,6,8]) (.line [5,2,6,8]))))) (.ins [7] (.fork 2 (.line [4,5,6,8]) (.ins [4] (.fork 2 (.line [5,6,8]) (.line [5,2,6,8]))))))) (.fork 4 (.fork 1 (.fork 2 (.fork 5 (.fork 6 (.line [7,8]) (.line [7,6,8])) (.line [7,5,6,8])) (.fork 5 (.fork 2 (.fork 6 (.line [7,8]) (.line [7,6,8])) (.line [7,2,6,8])) (.ins [7] (.fork 2 (.line [5,6,8]) (.line [5,2,6,8]))))) (.fork 5 (.fork 1 (.fork 2 (.fork 6 (.line [7,8]) (.line [7,6,8])) (.line [7,2,6,8])) (.line [7,1,2,6,8])) (.ins [7] (.fork 1 (.fork 2 (.line [5,6,8]) (.line [5,2,6,8])) (.line [5,1,2,6,8]))))) (.ins [7] (.fork 1 (.fork 2 (.line [4,5,6,8]) (.ins [4] (.fork 2 (.line [5,6,8]) (.line [5,2,6,8])))) (.ins [4] (.fork 1 (.fork 2 (.line [5,6,8]) (.line [5,2,6,8])) (.line [5,1,2,6,8])))))))) aB aB aB ?_
  repeat'((conv=>whnf);first|(refine aJ.lit 0 rfl rfl ?_)|(refine aJ.lit 1 rfl rfl ?_)|((with_reducible refine aes ?_);first|refine agX rfl ?_|refine agY rfl ?_ ?_|refine agZ ?_)|((with_reducible refine aH ?_);(refine aG (Dh a h eY eY) rfl rfl ?_)))
  all_goals refine⟨(),trivial,?_⟩
  all_goals exact aI
 repeat'(first|refine sC ?_|((with_reducible refine aj ?_);first|(refine sS ?_;intro Q' hn he hr)|refine sA ?_)|(refine sH ?_;clear hn he hr Q')|((conv=>whnf);refine sK ?_))
 refine aQ (fun k:Nat=>[(0,.sl 5 (ps.map dR)),(5,.int .i64 (uf (ps.take k) a h)),(6,.hp 0 0),(7,.int .i64 k)]) (fun _=>[.box (eu (fO a h))]) (fun k=>k≤ps.length) (fun k=>ps.length-k) 0 ah aI (fun k hk Q' hn he hr=> ?_)
 have hrl:=Vo (ps.take k) a h
 have htl:(ps.take k).length≤6:=by rw[List.length_take];omega
 by_cases hkl:k<ps.length
 ·obtain⟨p,hp⟩: ∃p,ps[k]? =some p:=⟨_,List.getElem?_eq_getElem hkl⟩
  have hst:=Vp hp a h
  repeat'(first|refine sC ?_|((with_reducible refine aj ?_);first|(refine sS ?_;intro Q' hn he hr)|refine sA ?_)|(refine sH ?_;clear hn he hr Q')|refine sO ?_|((conv=>whnf);first|refine sK ?_|(refine sB ?_;repeat'(refine aA ?_ ?_<;>intro hb<;>try exact cls))|(refine aJ.the hp ?_)|((with_reducible refine aZ ?_);(refine aT (aao p (fO a h) (hall _ _ hp) (sN _ _)) rfl rfl ?_))|refine sP ?_|(refine sL ?_;intro hlen)|refine sD ?_))
  ·refine⟨k+1,by omega,by omega,?_⟩
   rw[hst,if_pos ah]
   exact aI
  ·refine⟨k+1,by omega,by omega,?_⟩
   rw[hst,if_neg ah]
   exact aI
 ·obtain rfl:k=ps.length:=by omega
  rw[List.take_length]
  repeat'(first|refine sC ?_|((with_reducible refine aj ?_);first|(refine sS ?_;intro Q' hn he hr)|refine sA ?_)|(refine sH ?_;clear hn he hr Q')|((conv=>whnf);first|refine sK ?_|(refine sB ?_;repeat'(refine aA ?_ ?_<;>intro hb<;>try exact cls))|(refine sL ?_;intro hlen)|(refine au [] rfl rfl rfl ⟨?_,rfl⟩;conv=>lhs;whnf)|(refine sH ?_;clear hn he hr Q')))
  all_goals rfl
set_option maxHeartbeats 4000000 in
theorem Zq(s:Int)(hs:10000≤s∧s≤90000):ak Tryz.prog 223 G0 0 [] [.int .i64 s] (fun d os=>d= .aN [.sl 1 ((dL s).map jF), .int .i64 0]∧os=[]):=by
 have hv:inB s 10000 90000=true:=by simp[inB];omega
 refine aF Tryz.func223 rfl aB rfl (fun w0 F0 lent β0=> ?_)
 repeat'(first|refine sC ?_|((with_reducible refine aj ?_);first|(refine sS ?_;intro Q' hn he hr)|refine sA ?_)|(refine sH ?_;clear hn he hr Q')|((conv=>whnf);first|refine sK ?_|(refine sB ?_;repeat'(refine aA ?_ ?_<;>intro hb<;>try exact cls))|((with_reducible refine aH ?_);(refine aG (iQ _ _ _) rfl rfl ?_))))
 refine qY (fun(m:Nat) (h:Int) (out:List (List Int))=>[(0,.int .i64 s),(4,.h 0),(5,.int .i64 h)]) (fun m h out=>[.row 26 1 (out.map jF)]) (fun m h out=>out++nH s m h=dL s∧90000<h+10000*m∧(0≤h∧h≤180000)∧out.length+40*m≤480) (fun m h out=>m) 12 0 [] ⟨rfl,by omega,by omega,by simp⟩ (by refine Weak.trans (yA 4 26 1 rfl rfl) (aC rfl rfl rfl ?_);exact⟨rfl,rfl,rfl,trivial⟩) (fun m h out hk Q' hn he hr=> ?_)
 obtain⟨hk1,hk2,hk3,hk4⟩:=hk
 by_cases hh:h≤90000
 ·obtain⟨m',rfl⟩: ∃m',m=m'+1:=⟨m-1,by omega⟩
  rw[Ij hh,←List.append_assoc] at hk1
  repeat'(first|refine sC ?_|((with_reducible refine aj ?_);first|(refine sS ?_;intro Q' hn he hr)|refine sA ?_)|(refine sH ?_;clear hn he hr Q')|((conv=>whnf);first|refine sK ?_|(refine sB ?_;repeat'(refine aA ?_ ?_<;>intro hb<;>try exact cls))))
  refine qY (fun(n:Nat) (a:Int) (out:List (List Int))=>[(0,.int .i64 s),(4,.h 0),(5,.int .i64 h),(6,.int .i64 a)]) (fun n a out=>[.row 26 1 (out.map jF)]) (fun n a out=>out++nZ s h n a++nH s m' (h+s)=dL s∧360000≤a+10000*n∧(0≤a∧a≤450000)∧out.length+n+40*m'≤480) (fun n a out=>n) 40 0 out ⟨hk1,by omega,by omega,by omega⟩ aI (fun n a out hj Q' hn he hr=> ?_)
  obtain⟨hj1,hj2,hj3,Ko⟩:=hj
  by_cases sV:a<360000
  ·obtain⟨n',rfl⟩: ∃n',n=n'+1:=⟨n-1,by omega⟩
   rw[Iw sV] at hj1
   repeat'(first|refine sC ?_|((with_reducible refine aj ?_);first|(refine sS ?_;intro Q' hn he hr)|refine sA ?_)|(refine sH ?_;clear hn he hr Q')|((conv=>whnf);first|refine sK ?_|(refine sB ?_;repeat'(refine aA ?_ ?_<;>intro hb<;>try exact cls))|refine sP ?_))
   refine⟨n',a+s,out++[[a,h]],⟨by rw[←hj1];simp,by omega,by omega,by simp;omega⟩,by omega,?_⟩
   exact BP
  ·rw[Iu sV,List.append_nil] at hj1
   repeat'(first|refine sC ?_|((with_reducible refine aj ?_);first|(refine sS ?_;intro Q' hn he hr)|refine sA ?_)|(refine sH ?_;clear hn he hr Q')|((conv=>whnf);first|refine sK ?_|(refine sB ?_;repeat'(refine aA ?_ ?_<;>intro hb<;>try exact cls))|refine sP ?_|(refine sH ?_;clear hn he hr Q')))
   exact⟨m',h+s,out,⟨hj1,by omega,by omega,by omega⟩,by omega,aI⟩
 ·rw[Ii hh,List.append_nil] at hk1
  repeat'(first|refine sC ?_|((with_reducible refine aj ?_);first|(refine sS ?_;intro Q' hn he hr)|refine sA ?_)|(refine sH ?_;clear hn he hr Q')|((conv=>whnf);first|refine sK ?_|(refine sB ?_;repeat'(refine aA ?_ ?_<;>intro hb<;>try exact cls))|((with_reducible refine bP ?_);(refine uh 0 rfl (Nat.zero_le _) ?_;refine au [] rfl rfl rfl ⟨?_,rfl⟩))|(refine sH ?_;clear hn he hr Q')))
  rw[←hk1]
  rfl
set_option maxHeartbeats 4000000 in
theorem aap(s:Int)(hs:10000≤s∧s≤90000):ak Tryz.prog 251 G0 0 [] [.int .i64 s] (fun d os=>d= .sl 1 ((dL s).map jF)∧os=[]):=by
 refine aF Tryz.func251 rfl aB rfl (fun w0 F0 lent β0=> ?_)
 repeat'(first|refine sC ?_|((with_reducible refine aj ?_);first|(refine sS ?_;intro Q' hn he hr)|refine sA ?_)|(refine sH ?_;clear hn he hr Q')|((conv=>whnf);refine sK ?_))
 refine qY (fun(m:Nat) (h:Int) (out:List (List Int))=>[(0,.int .i64 s),(3,.h 0),(4,.int .i64 h)]) (fun m h out=>[.row 26 1 (out.map jF)]) (fun m h out=>out++nH s m h=dL s∧90000<h+10000*m∧(0≤h∧h≤180000)∧out.length+40*m≤480) (fun m h out=>m) 12 0 [] ⟨rfl,by omega,by omega,by simp⟩ aI (fun m h out hk Q' hn he hr=> ?_)
 obtain⟨hk1,hk2,hk3,hk4⟩:=hk
 by_cases hh:h≤90000
 ·obtain⟨m',rfl⟩: ∃m',m=m'+1:=⟨m-1,by omega⟩
  rw[Ij hh,←List.append_assoc] at hk1
  repeat'(first|refine sC ?_|((with_reducible refine aj ?_);first|(refine sS ?_;intro Q' hn he hr)|refine sA ?_)|(refine sH ?_;clear hn he hr Q')|((conv=>whnf);first|refine sK ?_|(refine sB ?_;repeat'(refine aA ?_ ?_<;>intro hb<;>try exact cls))))
  refine qY (fun(n:Nat) (a:Int) (out:List (List Int))=>[(0,.int .i64 s),(3,.h 0),(4,.int .i64 h),(5,.int .i64 a)]) (fun n a out=>[.row 26 1 (out.map jF)]) (fun n a out=>out++nZ s h n a++nH s m' (h+s)=dL s∧360000≤a+10000*n∧(0≤a∧a≤450000)∧out.length+n+40*m'≤480) (fun n a out=>n) 40 0 out ⟨hk1,by omega,by omega,by omega⟩ aI (fun n a out hj Q' hn he hr=> ?_)
  obtain⟨hj1,hj2,hj3,Ko⟩:=hj
  by_cases sV:a<360000
  ·obtain⟨n',rfl⟩: ∃n',n=n'+1:=⟨n-1,by omega⟩
   rw[Iw sV] at hj1
   repeat'(first|refine sC ?_|((with_reducible refine aj ?_);first|(refine sS ?_;intro Q' hn he hr)|refine sA ?_)|(refine sH ?_;clear hn he hr Q')|((conv=>whnf);first|refine sK ?_|(refine sB ?_;repeat'(refine aA ?_ ?_<;>intro hb<;>try exact cls))|refine sP ?_))
   refine⟨n',a+s,out++[[a,h]],⟨by rw[←hj1];simp,by omega,by omega,by simp;omega⟩,by omega,?_⟩
   exact BP
  ·rw[Iu sV,List.append_nil] at hj1
   repeat'(first|refine sC ?_|((with_reducible refine aj ?_);first|(refine sS ?_;intro Q' hn he hr)|refine sA ?_)|(refine sH ?_;clear hn he hr Q')|((conv=>whnf);first|refine sK ?_|(refine sB ?_;repeat'(refine aA ?_ ?_<;>intro hb<;>try exact cls))|refine sP ?_|(refine sH ?_;clear hn he hr Q')))
   exact⟨m',h+s,out,⟨hj1,by omega,by omega,by omega⟩,by omega,aI⟩
 ·rw[Ii hh,List.append_nil] at hk1
  repeat'(first|refine sC ?_|((with_reducible refine aj ?_);first|(refine sS ?_;intro Q' hn he hr)|refine sA ?_)|(refine sH ?_;clear hn he hr Q')|((conv=>whnf);first|refine sK ?_|(refine sB ?_;repeat'(refine aA ?_ ?_<;>intro hb<;>try exact cls))|((with_reducible refine bP ?_);(refine uh 0 rfl (Nat.zero_le _) ?_;refine au [] rfl rfl rfl ⟨?_,rfl⟩))|(refine sH ?_;clear hn he hr Q')))
  rw[←hk1]
  rfl
set_option maxHeartbeats 4000000 in
theorem YN(ps:List bW)(s:Int)(hv:jV ps=true)(hs:10000≤s∧s≤90000):ak Tryz.prog 157 GS 0 [] [.sl 5 (ps.map dR), .int .i64 s] (fun d os=>d= .aN [.sl 1 ((iD ps (dL s)).map jF), .int .i64 0]∧os=[]):=by
 have hsl:=BG s
 refine aF Tryz.func157 rfl aB rfl (fun w0 F0 lent β0=> ?_)
 repeat'(first|refine sC ?_|((with_reducible refine aj ?_);first|(refine sS ?_;intro Q' hn he hr)|refine sA ?_)|(refine sH ?_;clear hn he hr Q')|((conv=>whnf);first|refine sK ?_|(refine sB ?_;repeat'(refine aA ?_ ?_<;>intro hb<;>try exact cls))|((with_reducible refine aH ?_);first|(refine aG ((II ps).aU) rfl rfl ?_)|(refine aG ((Zq s hs).aU) rfl rfl ?_))|(refine sL ?_;intro hlen)))
 refine aQ (fun k:Nat=>[(0,.sl 5 (ps.map dR)),(8,.h 0),(22,.sl 1 ((dL s).map jF)),(23,.int .i64 (dL s).length),(24,.int .i64 k)]) (fun k=>[.row 26 1 ((iD ps ((dL s).take k)).map jF)]) (fun k=>k≤(dL s).length) (fun k=>(dL s).length-k) 0 ah (by refine Weak.trans (yA 8 26 1 rfl rfl) (aC rfl rfl rfl ?_);exact⟨rfl,rfl,rfl,rfl,rfl,trivial⟩) (fun k hk Q' hn he hr=> ?_)
 have hdl:=Ah ps ((dL s).take k)
 have htl:((dL s).take k).length≤480:=by rw[List.length_take];omega
 by_cases hkl:k<(dL s).length
 ·obtain⟨t,ht⟩: ∃t,(dL s)[k]? =some t:=⟨_,List.getElem?_eq_getElem hkl⟩
  obtain⟨a,h,rfl,ha,hh⟩:=GU ah (List.mem_of_getElem? ht)
  have hdb:Dp ps [a,h]=decide (uf ps a h=0):=rfl
  repeat'(first|refine sC ?_|((with_reducible refine aj ?_);first|(refine sS ?_;intro Q' hn he hr)|refine sA ?_)|(refine sH ?_;clear hn he hr Q')|((conv=>whnf);first|refine sK ?_|(refine sB ?_;repeat'(refine aA ?_ ?_<;>intro hb<;>try exact cls))|(refine aJ.the ht ?_)|((with_reducible refine aH ?_);(refine aG (Zk ps a h hv ha hh) rfl rfl ?_))|refine sP ?_))
  ·refine⟨k+1,by omega,by omega,?_⟩
   exact(by refine aC rfl rfl (by rw[Qz ht (by rw[hdb];exact decide_eq_true ah),List.map_append];rfl) ?_;((repeat'(first|exact trivial|refine And.intro ?_ ?_))<;>(first|rfl|(conv=>rhs;whnf)<;>(first|rfl|(refine congrArg (D.int _) ?_;omega)))))
  ·refine⟨k+1,by omega,by omega,?_⟩
   exact(by refine aC rfl rfl (by rw[Qy ht (by rw[hdb];exact decide_eq_false ah)];rfl) ?_;((repeat'(first|exact trivial|refine And.intro ?_ ?_))<;>(first|rfl|(conv=>rhs;whnf)<;>(first|rfl|(refine congrArg (D.int _) ?_;omega)))))
 ·obtain rfl:k=(dL s).length:=by omega
  rw[List.take_length]
  repeat'(first|refine sC ?_|((with_reducible refine aj ?_);first|(refine sS ?_;intro Q' hn he hr)|refine sA ?_)|(refine sH ?_;clear hn he hr Q')|((conv=>whnf);first|refine sK ?_|(refine sB ?_;repeat'(refine aA ?_ ?_<;>intro hb<;>try exact cls))|((with_reducible refine bP ?_);(refine uh 0 rfl (Nat.zero_le _) ?_;refine au [] rfl rfl rfl ⟨?_,rfl⟩))|(refine sH ?_;clear hn he hr Q')))
  all_goals rfl
theorem aal(ps:List bW)(s:Int)(hv:jV ps=true)(hs:10000≤s∧s≤90000):ak Tryz.prog 250 G0 0 [] [.sl 5 (ps.map dR), .int .i64 s] (fun d os=>d= .int .i64 0∧os=[]):=by
 have hv2:inB s 10000 90000=true:=by simp[inB];omega
 refine aF Tryz.func250 rfl aB rfl (fun w0 F0 lent β0=> ?_)
 repeat'(first|refine sC ?_|((with_reducible refine aj ?_);first|(refine sS ?_;intro Q' hn he hr)|refine sA ?_)|(refine sH ?_;clear hn he hr Q')|((conv=>whnf);first|refine sK ?_|(refine sB ?_;repeat'(refine aA ?_ ?_<;>intro hb<;>try exact cls))|((with_reducible refine aH ?_);first|(refine aG (IX ps) rfl rfl ?_)|(refine aG (IY s) rfl rfl ?_))|(refine au [] rfl rfl rfl ⟨?_,rfl⟩;conv=>lhs;whnf)))
set_option maxHeartbeats 4000000 in
theorem ZU(ps:List bW)(s:Int)(hv:jV ps=true)(hs:10000≤s∧s≤90000):ak Tryz.prog 197 G0 0 [] [.sl 5 (ps.map dR), .int .i64 s] (fun d os=>d= .aN [.sl 1 ((iD ps (dL s)).map jF), .int .i64 0]∧os=[]):=by
 have hsl:=BG s
 refine aF Tryz.func197 rfl aB rfl (fun w0 F0 lent β0=> ?_)
 repeat'(first|refine sC ?_|((with_reducible refine aj ?_);first|(refine sS ?_;intro Q' hn he hr)|refine sA ?_)|(refine sH ?_;clear hn he hr Q')|((conv=>whnf);first|refine sK ?_|(refine sB ?_;repeat'(refine aA ?_ ?_<;>intro hb<;>try exact cls))|((with_reducible refine aH ?_);first|(refine aG (aal ps s hv hs) rfl rfl ?_)|(refine aG (aap s hs) rfl rfl ?_))))
 refine aQ (fun k:Nat=>[(0,.sl 5 (ps.map dR)),(7,.h 0),(8,.sl 1 ((dL s).map jF)),(9,.int .i64 k)]) (fun k=>[.row 26 1 ((iD ps ((dL s).take k)).map jF)]) (fun k=>k≤(dL s).length) (fun k=>(dL s).length-k) 0 ah aI (fun k hk Q' hn he hr=> ?_)
 have hdl:=Ah ps ((dL s).take k)
 have htl:((dL s).take k).length≤480:=by rw[List.length_take];omega
 by_cases hkl:k<(dL s).length
 ·obtain⟨t,ht⟩: ∃t,(dL s)[k]? =some t:=⟨_,List.getElem?_eq_getElem hkl⟩
  obtain⟨a,h,rfl,ha,hh⟩:=GU ah (List.mem_of_getElem? ht)
  have hdb:Dp ps [a,h]=decide (uf ps a h=0):=rfl
  repeat'(first|refine sC ?_|((with_reducible refine aj ?_);first|(refine sS ?_;intro Q' hn he hr)|refine sA ?_)|(refine sH ?_;clear hn he hr Q')|((conv=>whnf);first|refine sK ?_|(refine sB ?_;repeat'(refine aA ?_ ?_<;>intro hb<;>try exact cls))|(refine aJ.the ht ?_)|((with_reducible refine aH ?_);(refine aG (aam ps a h hv ha hh) rfl rfl ?_))|refine sP ?_|(refine sL ?_;intro hlen)))
  ·refine⟨k+1,by omega,by omega,?_⟩
   exact(by refine aC rfl rfl (by rw[Qz ht (by rw[hdb];exact decide_eq_true ah),List.map_append];rfl) ?_;((repeat'(first|exact trivial|refine And.intro ?_ ?_))<;>(first|rfl|(conv=>rhs;whnf)<;>(first|rfl|(refine congrArg (D.int _) ?_;omega)))))
  ·refine⟨k+1,by omega,by omega,?_⟩
   exact(by refine aC rfl rfl (by rw[Qy ht (by rw[hdb];exact decide_eq_false ah)];rfl) ?_;((repeat'(first|exact trivial|refine And.intro ?_ ?_))<;>(first|rfl|(conv=>rhs;whnf)<;>(first|rfl|(refine congrArg (D.int _) ?_;omega)))))
 ·obtain rfl:k=(dL s).length:=by omega
  rw[List.take_length]
  repeat'(first|refine sC ?_|((with_reducible refine aj ?_);first|(refine sS ?_;intro Q' hn he hr)|refine sA ?_)|(refine sH ?_;clear hn he hr Q')|((conv=>whnf);first|refine sK ?_|(refine sB ?_;repeat'(refine aA ?_ ?_<;>intro hb<;>try exact cls))|((with_reducible refine bP ?_);(refine uh 0 rfl (Nat.zero_le _) ?_;refine au [] rfl rfl rfl ⟨?_,rfl⟩))|(refine sL ?_;intro hlen)|(refine sH ?_;clear hn he hr Q')))
  all_goals rfl
def zh(L:List Int)(k:Nat):List UInt8:=joinL ((L.take k).map Lib.itoa)
theorem Tz: ∀(l:List (List UInt8)) (x:List UInt8),joinL (l++[x])=if l=[] then x else joinL l++44::x
 |[],x=>rfl
 |[p],x=>by simp[joinL]
 |p::q::r,x=>by
  have h:=Tz (q::r) x
  simp only[List.cons_append] at h
  simp only[List.cons_append,joinL,h]
  simp
theorem aex{L:List Int}{k:Nat}{n:Int}(hn:L[k]? =some n):zh L (k+1)=if k=0 then Lib.itoa n else zh L k++44::Lib.itoa n:=by
 have hk:=(List.getElem?_eq_some_iff.1 hn).1
 unfold zh
 rw[List.take_add_one,hn,Option.toList_some,List.map_append,List.map_singleton,Tz]
 by_cases h0:k=0
 ·subst h0;simp
 ·rw[if_neg h0,if_neg]
  simp
  refine⟨h0,?_⟩
  intro h
  rw[h] at hk
  simp at hk
theorem aew{L:List Int}(hb0: ∀(k:Nat) n,L[k]? =some n→ -1000000000000≤n∧n≤1000000000000)(hl:L.length≤64)(k:Nat):(zh L k).length≤2000:=by
 have h2:=Tv ((L.take k).map Lib.itoa) fun x hx=>by
  obtain⟨n,hn,rfl⟩:=List.mem_map.1 hx
  obtain⟨j,hj⟩:=List.getElem?_of_mem (List.mem_of_mem_take hn)
  have:=hb0 j n hj
  have:=Lib.itoa_length_le n ah ah
  omega
 rw[List.length_map,List.length_take] at h2
 unfold zh
 omega
set_option maxHeartbeats 4000000 in
theorem Z8(L:List Int)(h1:1≤L.length∧L.length≤64)(hb0: ∀(k:Nat) n,L[k]? =some n→ -1000000000000≤n∧n≤1000000000000):ak Tryz.prog 198 G0 0 [] [.sl 1 (L.map encI)] (fun d os=>d= .str (joinL (L.map Lib.itoa))∧os=[]):=by
 refine aF Tryz.func198 rfl aB rfl (fun w0 F0 lent β0=> ?_)
 repeat'(first|refine sC ?_|((with_reducible refine aj ?_);first|(refine sS ?_;intro Q' hn he hr)|refine sA ?_)|(refine sH ?_;clear hn he hr Q')|((conv=>whnf);first|refine sK ?_|(refine sB ?_;repeat'(refine aA ?_ ?_<;>intro hb<;>try exact cls))|(refine sL ?_;intro hlen)))
 refine aQ (fun k:Nat=>[(0,.sl 1 (L.map encI)),(3,.str (zh L k)),(4,.int .i64 k)]) (fun _=>[]) (fun k=>k≤L.length) (fun k=>L.length-k) 0 ah aI (fun k hk Q' hn he hr=> ?_)
 have hjl:=aew hb0 h1.2 k
 by_cases hkl:k<L.length
 ·obtain⟨n,hnk⟩: ∃n,L[k]? =some n:=⟨_,List.getElem?_eq_getElem hkl⟩
  have hbn:=hb0 k n hnk
  have hnl:=Lib.itoa_length_le n ah ah
  have hst:=aex hnk
  repeat'(first|refine sC ?_|((with_reducible refine aj ?_);first|(refine sS ?_;intro Q' hn he hr)|refine sA ?_)|(refine sH ?_;clear hn he hr Q')|((conv=>whnf);first|refine sK ?_|(refine sB ?_;repeat'(refine aA ?_ ?_<;>intro hb<;>try exact cls))|(refine bZ.mk ⟨by first|(unfold maxLen;simp;omega)|(unfold maxLen;omega),?_⟩)|(refine aJ.the hnk ?_)|((with_reducible refine aH ?_);(refine aG (CZ n ah) rfl rfl ?_))|refine sP ?_|(refine sL ?_;intro hlen)))
  ·refine⟨k+1,by omega,by omega,?_⟩
   rw[hst,if_neg ah]
   exact(by refine aC rfl rfl rfl ?_;((repeat'(first|exact trivial|refine And.intro ?_ ?_))<;>(first|rfl|(conv=>rhs;whnf)<;>(first|rfl|simp|(refine congrArg (D.int _) ?_;omega)))))
  ·refine⟨k+1,by omega,by omega,?_⟩
   rw[hst,if_pos ah]
   obtain rfl:k=0:=by omega
   exact(by refine aC rfl rfl rfl ?_;((repeat'(first|exact trivial|refine And.intro ?_ ?_))<;>(first|rfl|(conv=>rhs;whnf)<;>(first|rfl|simp|(refine congrArg (D.int _) ?_;omega)))))
 ·obtain rfl:k=L.length:=by omega
  repeat'(first|refine sC ?_|((with_reducible refine aj ?_);first|(refine sS ?_;intro Q' hn he hr)|refine sA ?_)|(refine sH ?_;clear hn he hr Q')|((conv=>whnf);first|refine sK ?_|(refine sB ?_;repeat'(refine aA ?_ ?_<;>intro hb<;>try exact cls))|(refine sL ?_;intro hlen)|(refine au [] rfl rfl rfl ⟨?_,rfl⟩;conv=>lhs;whnf)|(refine sH ?_;clear hn he hr Q')))
  unfold zh
  rw[List.take_length]
theorem Ku{h:bM}(hv:gB h=true):jV h.dU=true∧10000≤h.dw∧h.dw≤90000:=by
 simp only[gB,inB,Bool.and_eq_true,decide_eq_true_eq] at hv
 exact⟨hv.2.1,hv.2.2.2.2.2.2.2.2.2.1⟩
noncomputable def vG(h:bM)(k:Nat):List gU:=((iD h.dU (dL h.dw)).take k).map Jt
theorem QE{h:bM}{k:Nat}{s:List Int}(hs:(iD h.dU (dL h.dw))[k]? =some s):vG h (k+1)=vG h k++[Jt s]:=by
 unfold vG
 rw[List.take_add_one,hs]
 simp
theorem QD(h:bM)(k:Nat):(vG h k).length≤480:=by
 have h1:=Ah h.dU (dL h.dw)
 have h2:=BG h.dw
 simp only[vG,List.length_map,List.length_take]
 omega
theorem QB(h:bM):(sU h).length≤480:=by
 have h1:=Ah h.dU (dL h.dw)
 have h2:=BG h.dw
 simp only[sU,List.length_map]
 omega
set_option maxHeartbeats 8000000 in
theorem aaW(h:bM)(r:List D)(hv:gB h=true):ak Tryz.prog 131 G0 0 [] [.rp (oz h r)] (fun d os=>d= .h 0∧os=[.row 152 3 ((sU h).map eG)]):=by
 obtain⟨h1,h2⟩:=Ku hv
 have hdl:=Ah h.dU (dL h.dw)
 have hsl:=BG h.dw
 refine aF Tryz.func131 rfl aB rfl (fun w0 F0 lent β0=> ?_)
 repeat'(first|refine sC ?_|((with_reducible refine aj ?_);first|(refine sS ?_;intro Q' hn he hr)|refine sA ?_)|(refine sH ?_;clear hn he hr Q')|refine sO ?_|((conv=>whnf);first|refine sK ?_|((with_reducible refine aZ ?_);(refine aT (ZU h.dU h.dw h1 h2) rfl rfl ?_))|refine sD ?_))
 refine aQ (fun k:Nat=>[(3,.h 0),(4,.sl 1 ((iD h.dU (dL h.dw)).map jF)),(6,.int .i64 k)]) (fun k=>[.row 152 3 ((vG h k).map eG)]) (fun k=>k≤(iD h.dU (dL h.dw)).length) (fun k=>(iD h.dU (dL h.dw)).length-k) 0 ah aI (fun k hk Q' hn he hr=> ?_)
 have hml:=QD h k
 by_cases hkl:k<(iD h.dU (dL h.dw)).length
 ·obtain⟨t,ht⟩: ∃t,(iD h.dU (dL h.dw))[k]? =some t:=⟨_,List.getElem?_eq_getElem hkl⟩
  obtain⟨a,z,rfl,ha,hh⟩:=GU ah (Qx (List.mem_of_getElem? ht))
  have hlt:=Z8 [a,z] ⟨by simp,by simp⟩ (by
   intro k n hk
   match k,hk with
   |0,hk=>cases hk;omega
   |1,hk=>cases hk;omega)
  repeat'(first|refine sC ?_|((with_reducible refine aj ?_);first|(refine sS ?_;intro Q' hn he hr)|refine sA ?_)|(refine sH ?_;clear hn he hr Q')|((conv=>whnf);first|refine sK ?_|(refine sB ?_;repeat'(refine aA ?_ ?_<;>intro hb<;>try exact cls))|(refine aJ.the ht ?_)|((with_reducible refine aH ?_);(refine aG (hlt) rfl rfl ?_))|refine sP ?_|(refine sL ?_;intro hlen)))
  refine⟨k+1,by omega,by omega,?_⟩
  exact(by refine aC rfl rfl (by rw[QE ht,List.map_append];rfl) ?_;((repeat'(first|exact trivial|refine And.intro ?_ ?_))<;>(first|rfl|(conv=>rhs;whnf)<;>(first|rfl|(refine congrArg (D.int _) ?_;omega)))))
 ·obtain rfl:k=(iD h.dU (dL h.dw)).length:=by omega
  repeat'(first|refine sC ?_|((with_reducible refine aj ?_);first|(refine sS ?_;intro Q' hn he hr)|refine sA ?_)|(refine sH ?_;clear hn he hr Q')|((conv=>whnf);first|refine sK ?_|(refine sB ?_;repeat'(refine aA ?_ ?_<;>intro hb<;>try exact cls))|((with_reducible refine bP ?_);(refine au [0] rfl rfl rfl ⟨rfl,?_⟩))|(refine sL ?_;intro hlen)|(refine sH ?_;clear hn he hr Q')))
  unfold vG
  rw[List.take_length]
  rfl
end Go.Eng
