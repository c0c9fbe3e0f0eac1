/-
  The engine, bundle ED: values as data, objects, states, the walk's rules, and that the model follows them.
  No conditions.
-/
import Derived.Test.YtocoppijdodffaaGreatDoorEC
set_option linter.unusedVariables false
set_option linter.unusedSimpArgs false
namespace Go.Eng
open Go Go.RowKit
end Go.Eng
namespace Go.Eng
open Go Go.RowKit
@[irreducible] def rU(s s':St):Prop:=Weak s s'
theorem rU.mk{s s':St}(h:Weak s s'):rU s s':=by unfold rU;exact h
theorem rU.out{s s':St}(h:rU s s'):Weak s s':=by unfold rU at h;exact h
theorem rU.swap{i j:Nat}{d e:D}{env:List (Nat×D)}{nt:Nat}{objs:List Obj}{g:Nat→Option (List D)}{pin:Nat}(h:Nat.beq i j=false):rU ⟨(i,d)::(j,e)::env,nt,objs,g,pin⟩ ⟨(j,e)::(i,d)::env,nt,objs,g,pin⟩:=by
 refine rU.mk ?_
 intro X β a w hr
 refine⟨β,hr.less rfl rfl rfl rfl fun t=> .inr ?_⟩
 have hne:i≠j:=fun he=>by rw[he,Nat.beq_refl] at h;cases h
 show look ((j,e)::(i,d)::env) t=look ((i,d)::(j,e)::env) t
 by_cases h1:t=i
 ·subst h1
  rw[x9 _ _ hne,AQ,AQ]
 ·by_cases h2:t=j
  ·subst h2
   rw[AQ,x9 _ _ h1,AQ]
  ·rw[x9 _ _ h2,x9 _ _ h1,x9 _ _ h1,x9 _ _ h2]
inductive OU where
 |nil
 |cons (i:Nat) (t:OU)
 |swap (i j:Nat) (t:OU)
def OU.line:List Nat→OU
 |[]=> .nil
 |i::r=> .cons i (OU.line r)
def BJ(ops:Array Oper):OU→Nat→Array Bool→Bool
 | .nil,_,listed=>(Region.ready .any ops listed).isEmpty
 | .cons i t,fuel+1,listed=>(match ops[i]? with
    |some oi=>(Region.ready .any ops listed).contains i&&((Region.ready .any ops listed).all (Nat.beq i)||(Aw oi.op&&apartB ops listed i oi))
    |none=>false)&&BJ ops t fuel (listed.setIfInBounds i true)
 | .swap i j t,fuel+2,listed=>(match ops[i]?,ops[j]? with
    |some _,some _=>(Region.ready .any ops listed).contains i&&(Region.ready .any ops listed).all (fun k=>Nat.beq i k||Nat.beq j k)&&((Region.ready .any ops (listed.setIfInBounds i true)).contains j&&(Region.ready .any ops (listed.setIfInBounds i true)).all (Nat.beq j))&&
      ((Region.ready .any ops (listed.setIfInBounds j true)).contains i&&(Region.ready .any ops (listed.setIfInBounds j true)).all (Nat.beq i))&&((listed.setIfInBounds i true).setIfInBounds j true==(listed.setIfInBounds j true).setIfInBounds i true)
    |_,_=>false)&&BJ ops t fuel ((listed.setIfInBounds i true).setIfInBounds j true)
 |_,_,_=>false
noncomputable def AZ(X:Ctx)(ops:Array Oper)(l:OU):St→(St→Prop)→Prop:=
 @OU.rec (fun _=>St→(St→Prop)→Prop) (fun st K=>K st)
  (fun i _ ih st K=>match ops[i]? with
    |some o=>iE X ops o st fun st'=>ih st' K
    |none=>False)
  (fun i j _ ih st K=>match ops[i]?,ops[j]? with
    |some o,some p=>iE X ops o st fun s1=>iE X ops p s1 fun s2=>(iE X ops p st fun r1=>iE X ops o r1 fun r2=>rU r2 s2)∧ih s2 K
    |_,_=>False) l
section
variable {X:Ctx} {K:St→Prop} {ops:Array Oper}
theorem RQ{o:Oper}{st:St}{K':St→Prop}{β:Nat→Option Value}{a:Act}{w:World}(h:iE X ops o st K')(hr:Rel X st β a w): ∃a' w',PostR X K' a' w':=by
 unfold iE at h
 split at h
 ·obtain⟨a',w',h⟩:=N7 (tV (Q:=fun _ _ _=>False) h hr)
  exact⟨a',w',h⟩
 ·rename_i j want hg
  split at h
  ·rename_i t hj
   split at h
   ·rename_i c ht
    by_cases hc:c=want
    ·subst hc
     obtain⟨a',w',h⟩:=N7 (tV (Q:=fun _ _ _=>False) (eX (h.1 rfl)) (hr.self ht))
     exact⟨a',w',h⟩
    ·have hc':c= !want:=by cases c<;>cases want<;>simp_all
     exact⟨_,w,_,β,eX (eX (h.2 hc')),(hr.self (by rw[ht,hc'])).put _ oZ⟩
   ·exact⟨_,w,_,β,eX h,hr.put _ oZ⟩
   ·exact h.elim
  ·exact h.elim
theorem NG(hsel: ∀(j:Nat) (o:Oper) cs b,ops[j]? =some o→o.op≠ .select cs b): ∀(t:OU) (fuel:Nat) (listed:Array Bool) (st:St) (β:Nat→Option Value) (a:Act) (w:World),
 BJ ops t fuel listed=true→AZ X ops t st K→Rel X st β a w→wpAny X.P .any ops (jm X K) fuel listed a w
 | .nil,fuel,listed,st,β,a,w,hB,h,hr=>by
   have hB:(Region.ready .any ops listed).isEmpty=true:=by cases fuel<;>exact hB
   have he:Region.ready .any ops listed=[]:=List.isEmpty_iff.1 hB
   have hq:jm X K .normal a w:=⟨st,β,h,hr⟩
   cases fuel with
   |zero=>exact⟨he,hq⟩
   |succ fuel=>exact⟨fun _=>hq,fun i hi=>by rw[he] at hi;cases hi⟩
 | .cons i t,0,listed,st,β,a,w,hB,h,hr=>by cases hB
 | .swap i j t,0,listed,st,β,a,w,hB,h,hr=>by cases hB
 | .swap i j t,1,listed,st,β,a,w,hB,h,hr=>by cases hB
 | .cons i t,fuel+1,listed,st,β,a,w,hB,h,hr=>by
   simp only[BJ,Bool.and_eq_true] at hB
   obtain⟨hB,hB2⟩:=hB
   have h:(match ops[i]? with
    |some o=>iE X ops o st fun st'=>AZ X ops t st' K
    |none=>False):=h
   split at hB
   ·rename_i oi hi
    simp only[hi] at h
    simp only[Bool.and_eq_true,List.contains_eq_mem,decide_eq_true_eq] at hB
    obtain⟨hrd,hB⟩:=hB
    have next: ∀a' w',PostR X (fun st'=>AZ X ops t st' K) a' w'→wpAny X.P .any ops (jm X K) fuel (listed.setIfInBounds i true) a' w':=by
     rintro a' w' ⟨st',β',hk,hr'⟩
     exact NG hsel t fuel _ st' β' a' w' hB2 hk hr'
    obtain⟨h1,h2⟩:=Dz (Q:=jm X K) hi h hr
    rcases Bool.or_eq_true _ _▸hB with hall|hfree
    ·refine⟨fun he=>Ob,fun j hj=> ?_⟩
     have:=Nat.eq_of_beq_eq_true (List.all_eq_true.1 hall j hj)
     subst this
     exact wpOp_mono next h1
    ·simp only[Bool.and_eq_true] at hfree
     obtain⟨v,hy,hp⟩:=h2 hfree.1
     refine wpAny_first hi hsel (fun c a w h=>h) fuel listed a w (fun j oj hj hne hun hnw=> ?_) hrd hy (next _ _ hp)
     have hlt:j<ops.size:=(Array.getElem?_eq_some_iff.1 hj).1
     have hb:=List.all_eq_true.1 hfree.2 j (List.mem_range.2 hlt)
     simp only[hj,Bool.or_eq_true,hun,Bool.false_eq_true,or_false] at hb
     rcases hb with(hb|hb)|hb
     ·exact absurd (Nat.eq_of_beq_eq_true hb) hne
     ·exfalso
      rw[show(oj.after.all fun e=> !Region.binds .any e|| !Nat.beq e.on i)=true from Array.all_eq_true_iff_forall_mem.2 fun e he=>by
       cases hbb:Region.binds .any e with
       |false=>rfl
       |true=>simp[lQ (hnw e he hbb)]] at hb
      cases hb
     ·exact hb
   ·cases hB
 | .swap i j t,fuel+2,listed,st,β,a,w,hB,h,hr=>by
   simp only[BJ,Bool.and_eq_true] at hB
   obtain⟨hB,hB2⟩:=hB
   have h:(match ops[i]?,ops[j]? with
    |some o,some p=>iE X ops o st fun s1=>iE X ops p s1 fun s2=>(iE X ops p st fun r1=>iE X ops o r1 fun r2=>rU r2 s2)∧AZ X ops t s2 K
    |_,_=>False):=h
   split at hB
   ·rename_i oi oj hi hj
    simp only[hi,hj] at h
    simp only[Bool.and_eq_true,List.contains_eq_mem,decide_eq_true_eq,beq_iff_eq] at hB
    obtain⟨⟨⟨⟨hrd,hall⟩,oO,adH⟩,Sr,adI⟩,hset⟩:=hB
    have next: ∀a' w',PostR X (fun st'=>AZ X ops t st' K) a' w'→wpAny X.P .any ops (jm X K) fuel ((listed.setIfInBounds i true).setIfInBounds j true) a' w':=by
     rintro a' w' ⟨st',β',hk,hr'⟩
     exact NG hsel t fuel _ st' β' a' w' hB2 hk hr'
    refine⟨fun he=>Ob,fun k hk=> ?_⟩
    have hc:=List.all_eq_true.1 hall k hk
    simp only[Bool.or_eq_true] at hc
    rcases hc with hc|hc
    ·have:=Nat.eq_of_beq_eq_true hc
     subst this
     refine wpOp_mono ?_ (Dz (Q:=jm X K) hi h hr).1
     rintro a1 w1 ⟨s1,β1,h1,hr1⟩
     refine⟨fun he=>(by rw[he] at oO;cases oO),fun k hk=> ?_⟩
     have:=Nat.eq_of_beq_eq_true (List.all_eq_true.1 adH k hk)
     subst this
     refine wpOp_mono ?_ (Dz (Q:=jm X K) hj h1 hr1).1
     rintro a2 w2 ⟨s2,β2,h2,hr2⟩
     exact next _ _ ⟨s2,β2,h2.2,hr2⟩
    ·have:=Nat.eq_of_beq_eq_true hc
     subst this
     obtain⟨a1,w1,s1,β1,h1,hr1⟩:=RQ h hr
     obtain⟨a2,w2,s2,β2,h2,hr2⟩:=RQ h1 hr1
     refine wpOp_mono ?_ (Dz (Q:=jm X K) hj h2.1 hr).1
     rintro b1 v1 ⟨r1,γ1,g1,rr1⟩
     refine⟨fun he=>(by rw[he] at Sr;cases Sr),fun k hk=> ?_⟩
     have:=Nat.eq_of_beq_eq_true (List.all_eq_true.1 adI k hk)
     subst this
     refine wpOp_mono ?_ (Dz (Q:=jm X K) hi g1 rr1).1
     rintro b2 v2 ⟨r2,γ2,g2,rr2⟩
     obtain⟨γ3,rr3⟩:=g2.out X γ2 b2 v2 rr2
     rw[←hset]
     exact next _ _ ⟨s2,γ3,h2.2,rr3⟩
   ·cases hB
end
theorem ahp{P:Program}{w0:World}{F0 lent:Nat→Prop}{β0:Nat→Option Value}{ops:Array Oper}{K:St→Prop}{st:St}(order:OU)(hm:P.follows .mixedOrders=true)(hs:ops.toList.all (fun o=>Gj o.op)=true)(hB:BJ ops order ops.size (Array.replicate ops.size false)=true)
 (h:AZ ⟨P,w0,F0,lent,β0⟩ ops order st K):jf ⟨P,w0,F0,lent,β0⟩ ops K st:=by
 refine jf.mk fun β a w id Q hr hQ=> ?_
 have hsel: ∀(j:Nat) (o:Oper) cs b,ops[j]? =some o→o.op≠ .select cs b:=by
  intro j o cs b hj e
  have hm:o∈ops.toList:=by
   have:=Array.mem_of_getElem? hj
   simpa using this
  have:=List.all_eq_true.1 hs o hm
  rw[e] at this
  cases this
 have h1:=wp_region_any (id:=id) hm (NG (X:=⟨P,w0,F0,lent,β0⟩) (K:=K) hsel order ops.size _ st β a _ hB h hr.drew)
 refine Code.wp_mono (fun e a' w' hq=> ?_) h1
 cases e<;>first|exact hQ a' w' hq|exact hq.elim
end Go.Eng
namespace Go.Eng
open Go Go.RowKit
theorem Fv{P:Program}{w0:World}{F0 lent:Nat→Prop}{β0:Nat→Option Value}{ops:Array Oper}{K:St→Prop}{st:St}(n:Nat)(hm:P.follows .mixedOrders=true)(hB:yO ops n=true)
 (h:ny ⟨P,w0,F0,lent,β0⟩ ops (ops.toList.take n) st fun st=>lH ⟨P,w0,F0,lent,β0⟩ ops (ops.toList.drop n) st K):jf ⟨P,w0,F0,lent,β0⟩ ops K st:=
 Jw (X:=⟨P,w0,F0,lent,β0⟩) n hm hB h
end Go.Eng
namespace Go.Eng
open Go Go.RowKit
theorem Xa{env:List (Nat×D)}{nt:Nat}{objs:List Obj}{g:Nat→Option (List D)}{pin:Nat}(o j:Nat)(e:TypeId)(s:Nat){cs:List D}(ho:objs.getD o .dead= .box cs)(hol:Nat.blt o objs.length=true)
 (hj:cs.getD j .junk= .v (.slice none 0 0))(hjl:Nat.blt j cs.length=true):
 Weak ⟨env,nt,objs,g,pin⟩ ⟨env,nt,objs.set o (.box (cs.set j (.h objs.length)))++[.row e s []],g,pin⟩:=by
 intro X β a w h
 let st:St:=⟨env,nt,objs,g,pin⟩
 have hol:o<objs.length:=by simpa using hol
 have hjl:j<cs.length:=by simpa using hjl
 have h1:Rel X (st.push (.row e s [])) (dY β st.n (.slice none 0 0)) a w:=by
  refine h.zu (grownBy_refl w) (fun b hb=>by simp[blk] at hb) (fun F' _=> ?_)
  exact⟨Nat.zero_le _,fun i hi=>by simp at hi,[],⟨by simp, .inl ⟨rfl,rfl⟩⟩,fun u hu=>by simp at hu,fun i j hi=>by simp at hi⟩
 have ho1:(st.push (.row e s [])).obj o= .box cs:=by
  rw[Ej _ _ (by show o≠objs.length;omega)]
  exact ho
 obtain⟨x,hx,hw⟩:=h1.own o (by rw[Bh];show o<objs.length+1;omega) (by rw[ho1];trivial)
 rw[ho1] at hw
 obtain⟨b,c,T,rfl,hg,hs,hone,hr⟩:=hw
 have h2:=h1.store hx (w':=w) ⟨rfl,rfl,rfl,Nat.le_refl _,fun _ _ _=>rfl⟩ (.box (cs.set j (.h objs.length))) trivial (fun F' hF'=>by
  refine⟨b,c,T,rfl,hg,by simp[hs],hone,fun i hi=> ?_⟩
  have hi':i<cs.length:=by simpa using hi
  by_cases e1:i=j
  ·subst e1
   have hv:=hr i hi'
   rw[hj] at hv
   have hv:=hv.kZ
   have e3:(cs.set i (D.h objs.length)).getD i .junk= .h objs.length:=by rw[List.getD_eq_getElem?_getD,List.getElem?_set_self hi'];rfl
   rw[hv,e3]
   exact .h _ _ (by simp[dY,st,St.n])
  ·have e3:(cs.set j (D.h objs.length)).getD i .junk=cs.getD i .junk:=by rw[List.getD_eq_getElem?_getD,List.getD_eq_getElem?_getD,List.getElem?_set_ne (Ne.symm e1)]
   rw[e3]
   exact(hr i hi').mono hF' (fun _ _ h=>h))
 refine⟨dY β st.n (.slice none 0 0),?_⟩
 have e2:(st.push (.row e s [])).setObj o (.box (cs.set j (.h objs.length)))=⟨env,nt,objs.set o (.box (cs.set j (.h objs.length)))++[.row e s []],g,pin⟩:=by
  simp only[St.setObj,St.push,st]
  rw[List.set_append_left _ _ hol]
 rw[e2] at h2
 exact h2
end Go.Eng
namespace Go.Eng
open Go Go.RowKit
def Nw(ops:Array Oper)(n:Nat)(pre:List Nat):Bool:=
 (List.range n).all fun i=>pre.contains i||(List.range (n+1)).any fun j=>decide (i<j)&&Region.waitsFor .any ops j i
def Fq(ops:Array Oper)(n:Nat)(pre:List Nat):Bool:=
 Nat.ble n ops.size&&
 ((List.range ops.size).all fun i=>match ops[i]? with
   |some o=>o.after.all fun e=> !Region.binds .any e||Nat.blt e.on i
   |none=>true)&&
 ((List.range n).all fun i=>(List.range n).all fun k=>match ops[i]?,ops[k]? with
   |some oi,some ok=>match ok.dst with
    |some t=>(Nat.beq i k||oi.dst != some t)&&(!(oi.looksAt ops).contains t||(Nat.blt k i&&Region.waitsFor .any ops i k))
    |none=>true
   |_,_=>true)&&
 (Nat.beq n ops.size||(Nw ops n pre&&Region.chainB .any ops n))&&
 Region.seqB .any ops (ops.size-n) n (Array.replicate n true++Array.replicate (ops.size-n) false)&&
 (pre.all fun p=>match ops[p]? with
   |some o=>Nat.blt p n&&Aw o.op&&o.guard.isNone&&apartB ops (Array.replicate ops.size false) p o&&(o.after.all fun e=> !Region.binds .any e||pre.contains e.on)
   |none=>false)
section
variable {X:Ctx} {ops:Array Oper}
theorem agU{n:Nat}{pre:List Nat}{listed:Array Bool}(hs:Nw ops n pre=true)(hc:Region.chainB .any ops n=true)(hn:n<ops.size)(inv:HeadInv .any ops n listed)(hpl: ∀p,p∈pre→listed.getD p true=true):
 ∀(d i:Nat),n-i=d→i<n→listed.getD i true=false→ ∀t,n≤t→t∉Region.ready .any ops listed:=by
 intro d
 induction d using Nat.strongRecOn with
 |_ d ih=>
  intro i hd hi hun t ht hr
  obtain⟨_,ot,hot,hall⟩:=mem_ready.1 hr
  have htlt:t<ops.size:=(Array.getElem?_eq_some_iff.1 hot).1
  by_cases htn:t=n
  ·subst htn
   have h1:=List.all_eq_true.1 hs i (List.mem_range.2 hi)
   rcases Bool.or_eq_true _ _▸h1 with h1|h1
   ·rw[hpl i (by simpa using h1)] at hun
    cases hun
   obtain⟨j,hj,hj2⟩:=List.any_eq_true.1 h1
   simp only[Bool.and_eq_true,decide_eq_true_eq] at hj2
   obtain⟨oj,hoj,e,he,hb,hon⟩:=Region.waitsFor_spec hj2.2
   have hjle:j≤t:=by have:=List.mem_range.1 hj;omega
   by_cases hjt:j=t
   ·subst hjt
    have:oj=ot:=Option.some.inj (hoj.symm.trans hot)
    subst this
    have h2:=hall e he hb
    rw[hon,getD_both hun] at h2
    cases h2
   ·cases hl:listed.getD j false with
    |true=>
     have h2:=inv.closed j oj hoj hl e he hb
     rw[hon,getD_both hun] at h2
     cases h2
    |false=>
     have hjs:j<listed.size:=by rw[inv.size];omega
     exact ih (t-j) ah j rfl ah (getD_in hjs hl) t (Nat.le_refl _) hr
  ·have h1:=List.all_eq_true.1 hc t (List.mem_range.2 htlt)
   simp only[Bool.or_eq_true,decide_eq_true_eq] at h1
   rcases h1 with h1|h1
   ·omega
   ·obtain⟨o',ho',e,he,hb,hon⟩:=Region.waitsFor_spec h1
    have:o'=ot:=Option.some.inj (ho'.symm.trans hot)
    subst this
    have h2:=hall e he hb
    rw[hon,getD_both (inv.tail (t-1) ah ah)] at h2
    cases h2
theorem QH{n:Nat}{pre:List Nat}(h:Fq ops n pre=true):n≤ops.size∧(∀i o,ops[i]? =some o→ ∀e∈o.after,Region.binds .any e=true→e.on<i)∧
 (∀i k oi ok t,i<n→k<n→ops[i]? =some oi→ops[k]? =some ok→ok.dst=some t→(i=k∨oi.dst≠some t)∧(t∈oi.looksAt ops→k<i∧Region.waitsFor .any ops i k=true))∧
 (n<ops.size→Nw ops n pre=true∧Region.chainB .any ops n=true)∧Region.seqB .any ops (ops.size-n) n (Array.replicate n true++Array.replicate (ops.size-n) false)=true∧
 (∀p,p∈pre→ ∃o,ops[p]? =some o∧p<n∧Aw o.op=true∧o.guard=none∧apartB ops (Array.replicate ops.size false) p o=true∧ ∀e∈o.after,Region.binds .any e=true→e.on∈pre):=by
 unfold Fq at h
 simp only[Bool.and_eq_true] at h
 obtain⟨⟨⟨⟨⟨h1,h2⟩,h3⟩,h4⟩,h5⟩,h6⟩:=h
 refine⟨by simpa using h1,fun i o hi e he hb=> ?_,fun i k oi ok t hi hk hoi hok hd=> ?_,fun hn=> ?_,h5,fun p hp=> ?_⟩
 ·have hlt:i<ops.size:=(Array.getElem?_eq_some_iff.1 hi).1
  have:=List.all_eq_true.1 h2 i (List.mem_range.2 hlt)
  rw[hi] at this
  have:=Array.all_eq_true_iff_forall_mem.1 this e he
  simpa[hb,Nat.blt_eq] using this
 ·have:=List.all_eq_true.1 (List.all_eq_true.1 h3 i (List.mem_range.2 hi)) k (List.mem_range.2 hk)
  rw[hoi,hok] at this
  simp only[hd] at this
  simp only[Bool.and_eq_true,Bool.or_eq_true,bne_iff_ne,ne_eq,Nat.blt_eq,Bool.not_eq_true',List.contains_eq_mem,decide_eq_false_iff_not] at this
  exact⟨this.1.imp Nat.eq_of_beq_eq_true id,fun ht=>this.2.resolve_left (fun h=>h ht)⟩
 ·rcases Bool.or_eq_true _ _▸h4 with h|h
  ·have:=Nat.eq_of_beq_eq_true h
   omega
  ·simpa only[Bool.and_eq_true] using h
 ·have:=List.all_eq_true.1 h6 p hp
  split at this
  ·rename_i o ho
   simp only[Bool.and_eq_true] at this
   obtain⟨⟨⟨⟨g1,g2⟩,g3⟩,g4⟩,g5⟩:=this
   refine⟨o,ho,by simpa[Nat.blt_eq] using g1,g2,by simpa using g3,g4,fun e he hb=> ?_⟩
   have:=Array.all_eq_true_iff_forall_mem.1 g5 e he
   simpa[hb] using this
  ·cases this
def Xx(X:Ctx)(ops:Array Oper)(_:St)(dX:Nat→St)(j:Nat)(o:Oper)(si:St)(β:Nat→Option Value)(a:Act)(w:World):Prop:=
 Rel X (si.only (o.looksAt ops)) β a w∧ ∀t,look si.env t=look (dX j).env t
theorem aeS{n:Nat}{pre:List Nat}{s0:St}{ds:Nat→D}{dX:Nat→St}{K0:St→Prop}(hB:Fq ops n pre=true)(hsel: ∀(j:Nat) (o:Oper) cs b,ops[j]? =some o→o.op≠ .select cs b)(h0:dX 0=s0)
 (hstep: ∀i o,i<n→ops[i]? =some o→zS X ops (dX i) o (ds i) (dX (i+1)))
 (htail: ∀β a w,Rel X (dX n) β a w→wpList X.P ops (jm X K0) (ops.toList.drop n) a w):
 ∀(fuel:Nat) (listed:Array Bool) (β:Nat→Option Value) (a:Act) (w:World),listed.toList.count false=fuel→HeadInv .any ops n listed→Mid X ops n s0 ds listed β a w→wpAny X.P .any ops (jm X K0) fuel listed a w:=by
 obtain⟨hn,AA,vJ,htl,hseq,hpre⟩:=QH hB
 have hrest: ∀i,i≤n→(dX i).objs=s0.objs∧(dX i).g=s0.g∧(dX i).pin=s0.pin∧(dX i).nt=s0.nt:=by
  intro i
  induction i with
  |zero=>intro _;rw[h0];exact⟨rfl,rfl,rfl,rfl⟩
  |succ i ih=>
   intro hi
   have hlt:i<ops.size:=by omega
   obtain⟨e1,e2,e3,e4⟩:=rest_step (hstep i ops[i] ah (Array.getElem?_eq_getElem hlt))
   obtain⟨f1,f2,f3,f4⟩:=ih ah
   exact⟨e1.trans f1,e2.trans f2,e3.trans f3,e4.trans f4⟩
 have hbase: ∀i,i≤n→ ∀t,(t<s0.nt→ ∀k o,k<i→ops[k]? =some o→o.dst≠some t)→look (dX i).env t=look s0.env t:=by
  intro i
  induction i with
  |zero=>intro _ t _;rw[h0]
  |succ i ih=>
   intro hi t ht
   have hlt:i<ops.size:=by omega
   rw[Gg (hstep i ops[i] ah (Array.getElem?_eq_getElem hlt)),if_neg (fun h=>ht (by rw[(hrest i ah).2.2.2] at h;exact h.2) i _ ah (Array.getElem?_eq_getElem hlt) h.1)]
   exact ih ah t (fun hnt k o hk ho=>ht hnt k o ah ho)
 have hdone: ∀i,i≤n→ ∀k o t,k<i→ops[k]? =some o→o.dst=some t→t<s0.nt→look (dX i).env t=ds k:=by
  intro i
  induction i with
  |zero=>intro _ k o t hk;omega
  |succ i ih=>
   intro hi k o t hk ho hd ht
   have hlt:i<ops.size:=by omega
   have hst:=hstep i ops[i] ah (Array.getElem?_eq_getElem hlt)
   rw[Gg hst]
   by_cases hki:k=i
   ·subst hki
    have:ops[k]=o:=by rw[Array.getElem?_eq_getElem hlt] at ho;exact Option.some.inj ho
    rw[this,if_pos ⟨hd,by rw[(hrest k ah).2.2.2];exact ht⟩]
   ·rw[if_neg]
    ·exact ih ah k o t ah ho hd ht
    ·intro h
     rcases(vJ i k ops[i] o t ah ah (Array.getElem?_eq_getElem hlt) ho hd).1 with h'|h'
     ·exact hki h'.symm
     ·exact h' h.1
 have DI: ∀(listed:Array Bool) (β:Nat→Option Value) (a:Act) (w:World),Mid X ops n s0 ds listed β a w→ ∀i,i≤n→ ∀t,(t<s0.nt→ ∀k o,k<n→ops[k]? =some o→o.dst=some t→k<i∧listed.getD k false=true)→
  Rep (FX X s0 β w) β w (a.tmps.getD t undef) (look (dX i).env t):=by
  intro listed β a w hm i hi t ht
  by_cases hex:t<s0.nt∧ ∃k o,k<n∧ops[k]? =some o∧o.dst=some t
  ·obtain⟨hnt,k,o,hk,ho,hd⟩:=hex
   obtain⟨hki,hl⟩:=ht hnt k o hk ho hd
   rw[hdone i hi k o t hki ho hd hnt]
   exact hm.done k o t hk ho hd hnt hl
  ·rw[hbase i hi t (fun hnt k o hk ho hd=>hex ⟨hnt,k,o,by omega,ho,hd⟩)]
   exact hm.base t (fun hnt k o hk ho hd=>hex ⟨hnt,k,o,hk,ho,hd⟩)
 have hend: ∀(listed:Array Bool) (β:Nat→Option Value) (a:Act) (w:World),Mid X ops n s0 ds listed β a w→(∀i,i<n→listed.getD i false=true)→wpList X.P ops (jm X K0) (ops.toList.drop n) a w:=by
  intro listed β a w hm hall
  obtain⟨e1,e2,e3,e4⟩:=hrest n (Nat.le_refl _)
  refine htail β a w ((hm.heap.same e1 e2 e3).toRel hm.defers (by rw[hm.size,e4]) (fun t=> ?_))
  rw[FX.same (X:=X) e1]
  exact DI listed β a w hm n (Nat.le_refl _) t (fun _ k o hk _ _=>⟨hk,hall k hk⟩)
 have hin: ∀(listed:Array Bool) i,i<listed.size→listed.getD i true=listed.getD i false:=by
  intro listed i hi;simp[hi]
 intro fuel
 induction fuel with
 |zero=>
  intro listed β a w hc inv hm
  have hall: ∀i,i<ops.size→listed.getD i true=true:=by
   intro i hi
   rcases hb:listed.getD i true with _|_
   ·have hl:i<listed.size:=by rw[inv.size];exact hi
    have:listed.toList[i]' pI=false:=by simpa[hl] using hb
    have hmem:false∈listed.toList:=by rw[←this];exact List.getElem_mem _
    have:=List.count_pos_iff.2 hmem
    omega
   ·rfl
  have hns:n=ops.size:=by
   rcases Nat.lt_or_ge n ops.size with h|h
   ·have:=inv.tail n (Nat.le_refl _) h
    rw[hall n h] at this
    cases this
   ·omega
  have hw:=hend listed β a w hm (fun i hi=>by rw[←hin listed i zJ];exact hall i ah)
  rw[List.drop_of_length_le nX] at hw
  refine⟨?_,hw⟩
  cases hr:Region.ready .any ops listed with
  |nil=>rfl
  |cons x xs=>
   have hx:x∈Region.ready .any ops listed:=by rw[hr];simp
   obtain⟨h1,o,h2,_⟩:=mem_ready.1 hx
   rw[hall x (Array.getElem?_eq_some_iff.1 h2).1] at h1
   cases h1
 |succ fuel ih=>
  intro listed β a w hc inv hm
  by_cases hall: ∀i,i<n→listed.getD i false=true
  ·
   have hw:=hend listed β a w hm hall
   have hlist:listed=Array.replicate n true++Array.replicate (ops.size-n) false:=by
    apply Array.ext
    ·simp[inv.size];omega
    ·intro i h1 h2
     have his:i<ops.size:=by rw[←inv.size];exact h1
     by_cases hi:i<n
     ·have:=hall i hi
      simp[h1] at this
      rw[this,Array.getElem_append_left iI]
      simp
     ·have:=inv.tail i ah his
      simp[h1] at this
      rw[this,Array.getElem_append_right nX]
      simp
   have hfl:fuel+1=(ops.toList.drop n).length:=by
    rw[←hc,hlist]
    simp[List.count_replicate]
   rw[hfl]
   refine wpAny_of_seq (ops.toList.drop n) n listed a w (fun j=>by simp[List.getElem?_drop]) ?_ hw
   rw[←hfl,hlist]
   have:fuel+1=ops.size-n:=by rw[hfl];simp
   rw[this]
   exact hseq
  ·
   have hex: ∃i,i<n∧listed.getD i true=false:=by
    refine Classical.byContradiction fun hno=>hall fun i hi=> ?_
    rw[←hin listed i zJ]
    cases hb:listed.getD i true with
    |true=>rfl
    |false=>exact absurd ⟨i,hi,hb⟩ hno
   have KA: ∀m i,i≤m→i<n→listed.getD i true=false→Region.ready .any ops listed≠ []:=by
    intro m
    induction m with
    |zero=>
     intro i hi hin' hu hr
     have:i=0:=by omega
     subst this
     have hlt:0<ops.size:=by omega
     have:0∈Region.ready .any ops listed:=mem_ready.2 ⟨hu,ops[0],Array.getElem?_eq_getElem hlt,fun e he hb=>absurd (AA 0 _ (Array.getElem?_eq_getElem hlt) e he hb) ah⟩
     rw[hr] at this
     cases this
    |succ m KH=>
     intro i hi hin' hu hr
     by_cases hlow: ∃j,j<i∧listed.getD j true=false
     ·obtain⟨j,hj,xW⟩:=hlow
      exact KH j ah ah xW hr
     ·have hlt:i<ops.size:=by omega
      have:i∈Region.ready .any ops listed:=mem_ready.2 ⟨hu,ops[i],Array.getElem?_eq_getElem hlt,fun e he hb=>by
       have:=AA i _ (Array.getElem?_eq_getElem hlt) e he hb
       rw[←hin listed e.on zJ]
       cases hbb:listed.getD e.on true with
       |true=>rfl
       |false=>exact absurd ⟨e.on,this,hbb⟩ hlow⟩
      rw[hr] at this
      cases this
   obtain⟨i0,hi0,hu0⟩:=hex
   have step: ∀j,j∈Region.ready .any ops listed→ ∀o,ops[j]? =some o→j<n→ ∃si,Xx X ops s0 dX j o si β a w∧(∀v w',w.grownBy w' none→Rep (FX X s0 β w') β w' v (ds j)→wpAny X.P .any ops (jm X K0) fuel (listed.setIfInBounds j true) (a.put o.dst v) w')∧(∀w',FX X (si.only (o.looksAt ops)) β w'=FX X s0 β w')∧((o.guard=none∧wI X o (si.only (o.looksAt ops)) (ds j))∨ ∃jg want t,o.guard=some (jg,want)∧(ops[jg]?).bind (·.dst)=some t∧((look (dX j).env t= .bool want∧wI X o (si.only (o.looksAt ops)) (ds j))∨((look (dX j).env t= .bool (!want)∨look (dX j).env t= .aN [])∧ds j= .aN []))):=by
    intro j hj o hoj hjn
    obtain⟨xW,o1,adV,hall'⟩:=mem_ready.1 hj
    obtain rfl:o=o1:=Option.some.inj (hoj.symm.trans adV)
    have hjs:j<ops.size:=(Array.getElem?_eq_some_iff.1 hoj).1
    have hst:=hstep j o hjn hoj
    obtain⟨si,hal,_,y8⟩:=hst
    obtain⟨a1,a2,a3,a4,a5⟩:=hal
    obtain⟨e1,e2,e3,e4⟩:=hrest j ah
    have nO:Rel X (si.only (o.looksAt ops)) β a w:=by
     refine(hm.heap.same (st':=si.only (o.looksAt ops)) (a1.trans e1) (a2.trans e2) (a3.trans e3)).toRel hm.defers (by show a.tmps.size=si.nt;rw[hm.size,a4,e4]) (fun t=> ?_)
     have hF:FX X (si.only (o.looksAt ops)) β w=FX X s0 β w:=FX.same (X:=X) (a1.trans e1) β w
     rw[hF]
     rcases Gf si.env (o.looksAt ops) t with h|⟨hin2,h⟩
     ·show Rep _ β w _ (look (nR si.env (o.looksAt ops)) t)
      rw[h];exact .ro _ _ (.junk _)
     ·show Rep _ β w _ (look (nR si.env (o.looksAt ops)) t)
      rw[h,a5]
      refine DI listed β a w hm j ah t (fun hnt k ok hk hok hd=> ?_)
      obtain⟨h1,h2⟩:=(vJ j k o ok t hjn hk hoj hok hd).2 hin2
      obtain⟨o',ho',e,he,hb,hon⟩:=Region.waitsFor_spec h2
      have:o'=o:=Option.some.inj (ho'.symm.trans hoj)
      subst this
      exact⟨h1,by rw[←hon];exact hall' e he hb⟩
    have hcount:(listed.setIfInBounds j true).toList.count false=fuel:=by
     have hl:j<listed.toList.length:=by simp[inv.size];exact hjs
     have hv:listed.toList[j]=false:=by
      have hl':j<listed.size:=by simpa using hl
      simpa[hl'] using xW
     rw[Array.toList_setIfInBounds,List.count_set hl,hv,hc]
     simp
    have hnext: ∀v w',w.grownBy w' none→Rep (FX X s0 β w') β w' v (ds j)→wpAny X.P .any ops (jm X K0) fuel (listed.setIfInBounds j true) (a.put o.dst v) w':=by
     intro v w' hg hrep
     refine ih _ β _ w' hcount (inv.set hj hjn) ?_
     have DK:Rel X ⟨[],s0.nt,s0.objs,s0.g,s0.pin⟩ β a w:=(hm.heap.same (st':=⟨[],s0.nt,s0.objs,s0.g,s0.pin⟩) rfl rfl rfl).toRel hm.defers hm.size (fun t=> .ro _ _ (.junk _))
     have hgrow:=DK.grown hg
     have hup: ∀ {v d},Rep (FX X s0 β w) β w v d→Rep (FX X s0 β w') β w' v d:=fun h=>RP DK hg h
     have hsame: ∀t,(o.dst=some t→ ¬t<s0.nt)→(a.put o.dst v).tmps.getD t undef=a.tmps.getD t undef:=by
      intro t ht
      cases hd:o.dst with
      |none=>rfl
      |some u=>
       by_cases hut:u=t
       ·subst hut
        have hnt:=ht hd
        have: ¬u<a.tmps.size:=by rw[hm.size];exact hnt
        simp[Act.put,this]
       ·simp[Act.put,Array.getElem?_setIfInBounds_ne hut]
     refine⟨hgrow.toW.same rfl rfl rfl,by cases o.dst<;>exact hm.defers,?_,fun i oi t hi hoi hd hnt hl=> ?_,fun t ht=> ?_⟩
     ·cases hd:o.dst<;>simp[Act.put,hm.size]
     ·by_cases hij:i=j
      ·subst hij
       have:oi=o:=Option.some.inj (hoi.symm.trans hoj)
       subst this
       have hts:t<a.tmps.size:=by rw[hm.size];exact hnt
       have:(a.put oi.dst v).tmps.getD t undef=v:=by simp[Act.put,hd,hts]
       rw[this]
       exact hrep
      ·rw[hsame t (fun hod=>by
        rcases(vJ j i o oi t hjn hi hoj hoi hd).1 with h|h
        ·exact absurd h.symm hij
        ·exact absurd hod h)]
       rw[getD_set_ne false (Ne.symm hij)] at hl
       exact hup (hm.done i oi t hi hoi hd hnt hl)
     ·rw[hsame t (fun hod hnt=>ht hnt j o hjn hoj hod)]
      exact hup (hm.base t ht)
    exact⟨si,⟨nO,a5⟩,hnext,fun w'=>FX.same (X:=X) (a1.trans e1) β w',y8⟩
   by_cases hp: ∃p,p∈pre∧listed.getD p true=false
   ·
    obtain⟨p,hpm,hpu,hmin⟩: ∃p,p∈pre∧listed.getD p true=false∧ ∀q,q<p→q∈pre→listed.getD q true=true:=by
     obtain⟨p0,hp0,hu⟩:=hp
     induction p0 using Nat.strongRecOn with
     |_ p0 ihp=>
      by_cases hlow: ∃q,q<p0∧q∈pre∧listed.getD q true=false
      ·obtain⟨q,hq,hqm,hqu⟩:=hlow
       exact ihp q hq hqm hqu
      ·refine⟨p0,hp0,hu,fun q hq hqm=> ?_⟩
       cases hb:listed.getD q true with
       |true=>rfl
       |false=>exact absurd ⟨q,hq,hqm,hb⟩ hlow
    obtain⟨o,hop,hpn,hfree,hgn,hap,adK⟩:=hpre p hpm
    have hps:p<ops.size:=(Array.getElem?_eq_some_iff.1 hop).1
    have hrd:p∈Region.ready .any ops listed:=mem_ready.2 ⟨hpu,o,hop,fun e he hb=>by
     have h1:=AA p o hop e he hb
     rw[←hin listed e.on zJ]
     exact hmin e.on h1 (adK e he hb)⟩
    obtain⟨si,⟨nO,_⟩,hnext,hFX,y8⟩:=step p hrd o hop hpn
    rcases y8 with⟨_,hy⟩|⟨jg,want,t,hg,_⟩
    ·have hw1:=hy β a w (fun a' w'=> ∃v,w.grownBy w' none∧Rep (FX X (si.only (o.looksAt ops)) β w') β w' v (ds p)∧a'=a.put o.dst v∧wpAny X.P .any ops (jm X K0) fuel (listed.setIfInBounds p true) a' w') (fun _ _ _=>False) nO (fun v w' hgr hrep=>⟨v,hgr,hrep,rfl,hnext v w' hgr EK⟩)
     obtain⟨v,hyv,v',_,_,hput,hgo⟩:=FQ hfree hw1
     refine wpAny_first hop hsel (fun c a w h=>h) fuel listed a w (fun j oj hj hne hun hnw=> ?_) hrd (.inl ⟨by simp[Region.wanted,hgn],hyv⟩) hgo
     have hlt:j<ops.size:=(Array.getElem?_eq_some_iff.1 hj).1
     have hb:=List.all_eq_true.1 hap j (List.mem_range.2 hlt)
     simp only[hj,Bool.or_eq_true,show(Array.replicate ops.size false).getD j true=false by simp[hlt],Bool.false_eq_true,or_false] at hb
     rcases hb with(hb|hb)|hb
     ·exact absurd (Nat.eq_of_beq_eq_true hb) hne
     ·exfalso
      rw[show(oj.after.all fun e=> !Region.binds .any e|| !Nat.beq e.on p)=true from Array.all_eq_true_iff_forall_mem.2 fun e he=>by
       cases hbb:Region.binds .any e with
       |false=>rfl
       |true=>simp[lQ (hnw e he hbb)]] at hb
      cases hb
     ·exact hb
    ·rw[hgn] at hg;cases hg
   have hpl: ∀p,p∈pre→listed.getD p true=true:=fun p hpm=>by
    cases hb:listed.getD p true with
    |true=>rfl
    |false=>exact absurd ⟨p,hpm,hb⟩ hp
   refine⟨fun h=>absurd h (KA i0 i0 (Nat.le_refl _) hi0 hu0),fun j hj=> ?_⟩
   obtain⟨xW,o,hoj,hall'⟩:=mem_ready.1 hj
   have hjs:j<ops.size:=(Array.getElem?_eq_some_iff.1 hoj).1
   have hjn:j<n:=by
    rcases Nat.lt_or_ge n ops.size with h|h
    ·rcases Nat.lt_or_ge j n with h'|h'
     ·exact h'
     ·exact absurd hj (agU (htl h).1 (htl h).2 h inv hpl _ i0 rfl hi0 hu0 j h')
    ·omega
   obtain⟨si,⟨nO,a5⟩,hnext,hFX,y8⟩:=step j hj o hoj hjn
   unfold wpOp
   simp only[hoj]
   rcases y8 with⟨hg,hy⟩|⟨jg,want,t,hg,hjt,hcase⟩
   ·rw[if_pos (by simp[Region.wanted,hg])]
    exact .inl (hy β a w _ _ nO (fun v w' hgr hrep=>hnext v w' hgr EK))
   ·have KD:t∈o.looksAt ops:=by
     unfold Oper.looksAt
     rw[hg]
     exact List.mem_append_right _ (by simp[hjt])
    have hl2:look (si.only (o.looksAt ops)).env t=look (dX j).env t:=by
     show look (nR si.env (o.looksAt ops)) t=_
     have: ∀(ts:List Nat),t∈ts→look (nR si.env ts) t=look si.env t:=by
      intro ts
      induction ts with
      |nil=>intro h;cases h
      |cons u r ihr=>
       intro h
       simp only[nR,look]
       cases hb:Nat.beq t u with
       |true=>have:=Nat.eq_of_beq_eq_true hb;subst this;rfl
       |false=>
        refine ihr ?_
        rcases List.mem_cons.1 h with h|h
        ·subst h;simp at hb
        ·exact h
     rw[this _ KD,a5]
    rcases hcase with⟨hc1,KF⟩|⟨hc1|hc1,DF⟩
    ·have hy:=zI (ops:=ops) nO hjt (hl2.trans hc1)
     rw[if_pos yE]
     exact .inl (KF β a w _ _ nO (fun v w' hgr hrep=>hnext v w' hgr EK))
    ·have hy:=zI (ops:=ops) nO hjt (hl2.trans hc1)
     rw[if_neg yE]
     exact hnext undef w (grownBy_refl w) Hz
    ·have hy:=EH (ops:=ops) nO hjt (hl2.trans hc1)
     rw[if_neg yE]
     exact hnext undef w (grownBy_refl w) Hz
end
theorem QI{P:Program}{w0:World}{F0 lent:Nat→Prop}{β0:Nat→Option Value}{ops:Array Oper}{K:St→Prop}{st:St}(n:Nat)(pre:List Nat)(hm:P.follows .mixedOrders=true)(hs:ops.toList.all (fun o=>Gj o.op)=true)(hB:Fq ops n pre=true)
 (h:ny ⟨P,w0,F0,lent,β0⟩ ops (ops.toList.take n) st fun st=>lH ⟨P,w0,F0,lent,β0⟩ ops (ops.toList.drop n) st K):jf ⟨P,w0,F0,lent,β0⟩ ops K st:=by
 let X:Ctx:=⟨P,w0,F0,lent,β0⟩
 refine jf.mk fun β a w id Q hr hQ=> ?_
 have hsel: ∀(j:Nat) (o:Oper) cs b,ops[j]? =some o→o.op≠ .select cs b:=by
  intro j o cs b hj e
  have hm:o∈ops.toList:=by
   have:=Array.mem_of_getElem? hj
   simpa using this
  have:=List.all_eq_true.1 hs o hm
  rw[e] at this
  cases this
 have hr1:Rel X st β a { w with drawn:=w.drawn+1 } :=hr.drew
 obtain⟨ds,dX,h0,hK,hstep⟩:=MO (ops.toList.take n) st _ h ⟨β,a,_,hr1⟩
 obtain⟨hn,_⟩:=QH hB
 have hlen:(ops.toList.take n).length=n:=by simp;omega
 rw[hlen] at hK
 have h1:=wp_region_any (id:=id) hm (aeS (X:=X) (K0:=K) hB hsel h0 (fun i o hi ho=>hstep i o (by rw[List.getElem?_take_of_lt hi,Array.getElem?_toList];exact ho)) (fun β a w hr=>Gl _ _ β a w hK hr (fun a w h=>h)) ops.size _ β a _ fB
  ⟨by simp,fun j oj _ hl=>Hy,fun t _ ht=>getD_in (by simpa using ht) (getD_replicate_false _ _)⟩
  ⟨hr1.toW,hr1.defers,hr1.size,fun i o t _ _ _ _ hl=>Hy,fun t _=>hr1.tmps t⟩)
 refine Code.wp_mono (fun e a' w' hq=> ?_) h1
 cases e<;>first|exact hQ a' w' hq|exact hq.elim
end Go.Eng
namespace Go.Eng
open Go Go.RowKit
def vU(ids:List Nat):D→D
 | .h o=>match pos ids o with
   |some k=> .h k
   |none=> .junk
 | .hp o f=>match pos ids o with
   |some k=> .hp k f
   |none=> .junk
 | .hr o s i f=>match pos ids o with
   |some k=> .hr k s i f
   |none=> .junk
 | .hs o s a b=>match pos ids o with
   |some k=> .hs k s a b
   |none=> .junk
 | .agg _=> .junk
 | .aN _=> .junk
 | .clo _ _=> .junk
 |d=>d
def DY(ids:List Nat):D→D
 | .agg cs=> .agg (cs.map (vU ids))
 | .clo g cs=> .clo g (cs.map (vU ids))
 | .aN _=> .junk
 |d=>vU ids d
def DZ(ids:List Nat):D→D
 | .aN ds=> .aN (ds.map (DY ids))
 |d=>DY ids d
section
variable {F F':Nat→Prop} {β β':Nat→Option Value} {w:World} {ids:List Nat} (hβ: ∀(o k:Nat) (x:Value),ids[k]? =some o→β o=some x→β' k=some x) (hro: ∀v d,RO F w v d→RO F' w v d)
include hβ hro
theorem Rep.Lp{v:Value}{d:D}(h:Rep F β w v d):Rep F' β' w v (vU ids d):=by
 cases h with
 |ro x d h=>cases d<;>simp only[Eng.vU]<;>first|exact .ro _ _ (.junk _)|exact .ro _ _ (hro _ _ h)|cases h
 |h o x h=>
  simp only[Eng.vU]
  cases hp:pos ids o with
  |none=>exact .ro _ _ (.junk _)
  |some k=>exact .h _ _ (hβ o k _ (Bf hp) h)
 |hp o f b x h hb=>
  simp only[Eng.vU]
  cases hp:pos ids o with
  |none=>exact .ro _ _ (.junk _)
  |some k=>exact .hp _ _ _ x (hβ o k _ (Bf hp) h) hb
 |hr o s i f b x h hb=>
  simp only[Eng.vU]
  cases hp:pos ids o with
  |none=>exact .ro _ _ (.junk _)
  |some k=>exact .hr _ _ _ _ _ x (hβ o k _ (Bf hp) h) hb
 |hs o s a b x v h hv=>
  simp only[Eng.vU]
  cases hp:pos ids o with
  |none=>exact .ro _ _ (.junk _)
  |some k=>exact .hs _ _ _ _ x _ (hβ o k _ (Bf hp) h) hv
 |agg=>exact .ro _ _ (.junk _)
 |aN=>exact .ro _ _ (.junk _)
 |clo=>exact .ro _ _ (.junk _)
theorem Rep.Lr{v:Value}{d:D}(h:Rep F β w v d):Rep F' β' w v (DY ids d):=by
 cases d with
 |agg ds=>
  obtain⟨cs,rfl,hl,h1,hr⟩:=h.jM
  refine .agg _ _ jY h1 (fun i hi=> ?_)
  rw[gy _ rfl]
  exact(hr i iI).Lp hβ hro
 |clo g ds=>
  obtain⟨cs,rfl,hl,hr⟩:=h.qR
  refine .clo _ _ _ jY (fun i hi=> ?_)
  rw[gy _ rfl]
  exact(hr i iI).Lp hβ hro
 |aN ds=>exact .ro _ _ (.junk _)
 |_=>exact h.Lp hβ hro
theorem Rep.Ls{v:Value}{d:D}(h:Rep F β w v d):Rep F' β' w v (DZ ids d):=by
 cases d with
 |aN ds=>
  obtain⟨cs,rfl,hl,hr⟩:=h.pz
  refine .aN _ _ jY (fun i hi=> ?_)
  rw[gy _ rfl]
  exact(hr i iI).Lr hβ hro
 |_=>exact h.Lr hβ hro
end
def Gh(ids:List Nat)(e:List (Nat×D)):List (Nat×D)→Prop
 |[]=>True
 |(k,d)::r=>d=DZ ids (look e k)∧Gh ids e r
theorem Lu{ids:List Nat}{e:List (Nat×D)} : ∀ {e':List (Nat×D)},Gh ids e e'→ ∀i,look e' i= .junk∨look e' i=DZ ids (look e i)
 |[],_,_=> .inl rfl
 |(k,d)::r,h,i=>by
  simp only[look]
  cases hb:Nat.beq i k with
  |true=>
   have:=Nat.eq_of_beq_eq_true hb
   subst this
   exact .inr h.1
  |false=>exact Lu h.2 i
def D5(ids:List Nat):Obj→Obj→Prop
 | .dead, .dead=>True
 | .row e s es, .row e' s' es'=>e=e'∧s=s'∧es=es'
 | .box cs, .box cs'=>cs=cs'.map (DY ids)
 | .frame vs e, .frame vs' e'=>vs=vs'∧Gh ids e' e
 | .blk e s cs c, .blk e' s' cs' c'=>e=e'∧s=s'∧cs=cs'∧c=c'
 | .raw e s es, .raw e' s' es'=>e=e'∧s=s'∧es=es'
 | .map P k e n f, .map P' k' e' n' f'=>P=P'∧k=k'∧e=e'∧n=n'∧f=f'
 |_,_=>False
def LC(ids:List Nat)(objs:List Obj):List Nat→List Obj→Prop
 |[],[]=>True
 |i::r,ob::l=>D5 ids ob (objs.getD i .dead)∧LC ids objs r l
 |_,_=>False
theorem Um{ids:List Nat}{objs:List Obj} : ∀ {is:List Nat} {l:List Obj},LC ids objs is l→l.length=is.length∧ ∀k o,is[k]? =some o→D5 ids (l.getD k .dead) (objs.getD o .dead)
 |[],[],_=>⟨rfl,fun k o h=>by simp at h⟩
 |i::r,ob::l,h=>by
  obtain⟨h1,h2⟩:=Um h.2
  refine⟨by simp[h1],fun k o hk=> ?_⟩
  cases k with
  |zero=>
   have:i=o:=by simpa using hk
   subst this
   exact h.1
  |succ k=>
   have:=h2 k o (by simpa using hk)
   simpa[List.getD_eq_getElem?_getD] using this
 |[],_::_,h=>h.elim
 |_::_,[],h=>h.elim
theorem aeX(ids:List Nat):DY ids .junk= .junk:=rfl
theorem ahQ{env env':List (Nat×D)}{nt:Nat}{objs jd:List Obj}{g:Nat→Option (List D)}{pin:Nat}(ids:List Nat)
 (hB:(nodupB ids&&ids.all (fun o=>Nat.blt o objs.length)&&Nat.ble pin ids.length&&(List.range pin).all (fun k=>ids[k]? ==some k))=true)
 (ho:LC ids objs ids jd)(he:Gh ids env env'):Weak ⟨env,nt,objs,g,pin⟩ ⟨env',nt,jd,g,pin⟩:=by
 intro X β a w h
 simp only[Bool.and_eq_true] at hB
 obtain⟨⟨⟨h1,h2⟩,h3⟩,h4⟩:=hB
 have h3:pin≤ids.length:=by simpa using h3
 obtain⟨hol,hog⟩:=Um ho
 let st:St:=⟨env,nt,objs,g,pin⟩
 let st':St:=⟨env',nt,jd,g,pin⟩
 let β':Nat→Option Value:=fun k=>match ids[k]? with
  |some o=>β o
  |none=>none
 have hn:st'.n=ids.length:=hol
 have iO: ∀(k:Nat) (x:Value),β' k=some x→ ∃o:Nat,ids[k]? =some o∧β o=some x:=by
  intro k x hx
  simp only[β'] at hx
  cases hk:ids[k]? with
  |none=>rw[hk] at hx;cases hx
  |some o=>rw[hk] at hx;exact⟨o,rfl,hx⟩
 have nP: ∀(o k:Nat) (x:Value),ids[k]? =some o→β o=some x→β' k=some x:=by
  intro o k x hk hx
  simp only[β',hk]
  exact hx
 have DJ: ∀k o:Nat,ids[k]? =some o→((st'.obj k).live↔(st.obj o).live):=by
  intro k o hk
  have:=hog k o hk
  have e1:st'.obj k=jd.getD k .dead:=rfl
  have e2:st.obj o=objs.getD o .dead:=rfl
  rw[e1,e2]
  revert this
  cases jd.getD k .dead<;>cases objs.getD o .dead<;>simp[D5,Obj.live]
 have hF: ∀b,FX X st β w b→FX X st' β' w b∧w.heap[b]? =w.heap[b]? :=by
  intro b hb
  refine⟨⟨hb.1,hb.2.1,fun k _ _ x hx=> ?_⟩,rfl⟩
  obtain⟨o,_,ho⟩:=iO k x hx
  exact hb.2.2 o (h.dom o x ho).1 (h.dom o x ho).2 x ho
 have hown: ∀ob' ob x,D5 ids ob' ob→Own (FX X st β w) β w ob x→Own (FX X st' β' w) β' w ob' x:=by
  intro ob' ob x nN hw
  cases ob'<;>cases ob<;>simp only[D5] at nN
  ·trivial
  ·obtain⟨rfl,rfl,rfl⟩:=nN
   exact Own.rE (o:= .row _ _ _) hF trivial (fun _ _=>rfl) hw
  ·subst nN
   obtain⟨b,c,T,rfl,hg,hs,h1,hr⟩:=hw
   refine⟨b,c,T,rfl,hg,by simp[hs],h1,fun j hj=> ?_⟩
   rw[gy _ (aeX ids)]
   exact(hr j qP).Lr nP (fun v d h=>h.mono hF)
  ·obtain⟨rfl,hoe⟩:=nN
   obtain⟨rfl,hr⟩:=hw
   refine⟨rfl,fun i=> ?_⟩
   rcases Lu hoe i with e|e
   ·rw[e];exact .ro _ _ (.junk _)
   ·rw[e];exact(hr i).Ls nP (fun v d h=>h.mono hF)
  ·obtain⟨rfl,rfl,rfl,rfl⟩:=nN
   obtain⟨g,cur,h1,hg,h2,h3,h4,h5,h6⟩:=hw
   exact⟨g,cur,h1,hg,h2,h3,h4,h5,fun i j hi hj=>⟨(h6 i j hi hj).1,(h6 i j hi hj).2.mono hF⟩⟩
  ·obtain⟨rfl,rfl,rfl⟩:=nN
   obtain⟨g,cap,cur,m,h1,hg,h2,h3,h4,h5,h6⟩:=hw
   exact⟨g,cap,cur,m,h1,hg,h2,h3,h4,h5,fun i j hi hj=>⟨(h6 i j hi hj).1,(h6 i j hi hj).2.mono hF⟩⟩
  ·obtain⟨rfl,rfl,rfl,rfl,rfl⟩:=nN
   exact hw
 refine⟨β',h.defers,h.size,fun i=> ?_,fun k x hx=> ?_,fun k hk hl=> ?_,fun k k' x x' b hx hx' hb hb'=> ?_,fun k x b hx hb=> ?_,h.kept,fun g cs hg=>(h.glob g cs hg).mono hF,fun k hk=> ?_,by rw[hn];exact h3⟩
 ·rcases Lu he i with e|e
  ·show Rep _ β' w _ (look env' i)
   rw[e];exact .ro _ _ (.junk _)
  ·show Rep _ β' w _ (look env' i)
   rw[e];exact(h.tmps i).Ls nP (fun v d h=>h.mono hF)
 ·obtain⟨o,hk,ho⟩:=iO k x hx
  refine⟨?_,(DJ k o hk).2 (h.dom o x ho).2⟩
  show k<st'.n
  rw[hn]
  exact(List.getElem?_eq_some_iff.1 hk).1
 ·have hk0:k<ids.length:=by rw[←hn];exact hk
  have hk':ids[k]? =some ids[k]:=List.getElem?_eq_getElem hk0
  have hl':=(DJ k _ hk').1 hl
  have hlt:ids[k]<st.n:=by
   have:=List.all_eq_true.1 h2 ids[k] (List.getElem_mem hk0)
   show ids[k]<objs.length
   simpa[Nat.blt_eq] using this
  obtain⟨x,hx,hw⟩:=h.own _ hlt hl'
  exact⟨x,nP _ k x hk' hx,hown _ _ x (hog k _ hk') hw⟩
 ·obtain⟨o,hk,ho⟩:=iO k x hx
  obtain⟨o',hk',ho'⟩:=iO k' x' hx'
  have:=h.sep o o' x x' b ho ho' hb hb'
  subst this
  exact D7 h1 k k' o hk hk'
 ·obtain⟨o,hk,ho⟩:=iO k x hx
  exact h.low o x b ho hb
 ·have hk':k<pin:=hk
  have:=List.all_eq_true.1 h4 k (List.mem_range.2 hk')
  have hkk:ids[k]? =some k:=by simpa using this
  simp only[β',hkk]
  exact h.stay k hk'
end Go.Eng
namespace Go.Eng
open Go Go.RowKit
structure Ib (X:Ctx) (ops:Array Oper) (l:List Oper) (K:St→Prop) (st:St):Prop where
 out:lH X ops l st K
theorem afK{X:Ctx}{ops:Array Oper}{l:List Oper}{K:St→Prop} :Ib X ops l K=fun st=>lH X ops l st K:=funext fun _=>propext ⟨fun h=>h.out,fun h=>⟨h⟩⟩
theorem UO{X:Ctx}{ops:Array Oper}{l:List Oper}{K:St→Prop}{st:St}(h:lH X ops l st K):Ib X ops l K st:=⟨h⟩
theorem UN{X:Ctx}{ops:Array Oper}{o:Oper}{l:List Oper}{K:St→Prop}{st:St}(h:iE X ops o st (Ib X ops l K)):lH X ops (o::l) st K:=by
 rw[afK] at h
 exact h
theorem UM{X:Ctx}{ops:Array Oper}{K:St→Prop}{st:St}(h:K st):lH X ops [] st K:=h
structure Ie (X:Ctx) (ops:Array Oper) (l:List Oper) (K:St→Prop) (st:St):Prop where
 out:ny X ops l st K
theorem af6{X:Ctx}{ops:Array Oper}{l:List Oper}{K:St→Prop} :Ie X ops l K=fun st=>ny X ops l st K:=funext fun _=>propext ⟨fun h=>h.out,fun h=>⟨h⟩⟩
theorem Vg{X:Ctx}{ops:Array Oper}{l:List Oper}{K:St→Prop}{st:St}(h:ny X ops l st K):Ie X ops l K st:=⟨h⟩
theorem Vf{X:Ctx}{ops:Array Oper}{o:Oper}{l:List Oper}{K:St→Prop}{st:St}(h:Gu X ops o st (Ie X ops l K)):ny X ops (o::l) st K:=by
 rw[af6] at h
 exact h
theorem Ve{X:Ctx}{ops:Array Oper}{K:St→Prop}{st:St}(h:K st):ny X ops [] st K:=h
theorem aep{X:Ctx}{ops:Array Oper}{l:List Oper}{K:St→Prop}{st:St}(h:lH X ops l st K):lH X ops l st K:=h
theorem aer{X:Ctx}{ops:Array Oper}{l:List Oper}{K:St→Prop}{st:St}(h:ny X ops l st K):ny X ops l st K:=h
end Go.Eng
namespace Go.Eng
open Go Go.RowKit
theorem Rel.Ro{X:Ctx}{st:St}{β:Nat→Option Value}{a:Act}{w:World}(h:Rel X st β a w){o s:Nat}{e:TypeId}{es:List (List D)}(ho:st.obj o= .row e s es)(hp:st.pin≤o):
 ∃β',Rel X (st.fM o s es) β' a w∧ ∀v d,Rep (FX X st β w) β w v d→Rep (FX X (st.fM o s es) β' w) β' w v (Eng.fM o s es d):=by
 have hlive:(st.obj o).live:=by rw[ho];trivial
 by_cases hon:o<st.n
 case neg=>
  exfalso
  have:st.obj o= .dead:=by
   simp only[St.obj,List.getD_eq_getElem?_getD,List.getElem?_eq_none (show st.objs.length≤o by have: ¬o<st.objs.length:=hon;omega)]
   rfl
  rw[this] at hlive
  exact hlive
 obtain⟨x,hx,hown⟩:=h.own o hon hlive
 rw[ho] at hown
 let st':=st.fM o s es
 let β':Nat→Option Value:=fun p=>if p=o then none else β p
 have hn:st'.n=st.n:=by simp[st',St.fM,St.n]
 have hso:st'.obj o= .dead:=by
  have:o<(st.objs.map (ql o s es)).length:=by rw[List.length_map];exact hon
  simp only[st',St.fM,St.obj,List.getD_eq_getElem?_getD]
  rw[List.getElem?_set_self this]
  rfl
 have hsn: ∀p,p≠o→st'.obj p=ql o s es (st.obj p):=by
  intro p hpo
  simp only[st',St.fM,St.obj,List.getD_eq_getElem?_getD]
  rw[List.getElem?_set_ne (Ne.symm hpo),List.getElem?_map]
  cases st.objs[p]? <;>simp[ql]
 have hsub: ∀p y,β' p=some y→p≠o∧β p=some y:=by
  intro p y hy
  by_cases e:p=o
  ·simp only[β',if_pos e] at hy;cases hy
  ·simp only[β',if_neg e] at hy;exact⟨e,hy⟩
 have hβ: ∀p y,p≠o→β p=some y→β' p=some y:=by
  intro p y e hy
  simp only[β',if_neg e]
  exact hy
 have hF: ∀b,FX X st β w b→FX X st' β' w b:=by
  intro b hb
  refine⟨hb.1,hb.2.1,fun p _ _ y hy=> ?_⟩
  have h2:=(hsub p y hy).2
  exact hb.2.2 p (h.dom p y h2).1 (h.dom p y h2).2 y h2
 have KE: ∀b,blk x=some b→FX X st' β' w b:=by
  intro b hb
  refine⟨h.lt' hx hb,?_,fun p _ _ y hy hyb=> ?_⟩
  ·rcases h.low o x b hx hb with h1|h1
   ·exact .inr (.inl h1)
   ·exact .inr (.inr h1)
  ·obtain⟨e,h2⟩:=hsub p y hy
   exact e (h.sep p o y x b h2 hx hyb hb)
 have hrow:=Na (F':=FX X st' β' w) hown hF KE
 refine⟨β',⟨h.defers,h.size,fun i=> ?_,fun p y hy=> ?_,fun p hpn hpl=> ?_,fun p p' y y' b hy hy' hb hb'=>h.sep p p' y y' b (hsub p y hy).2 (hsub p' y' hy').2 hb hb',fun p y b hy hb=>h.low p y b (hsub p y hy).2 hb,h.kept,
  fun g cs hg=>(h.glob g cs hg).mono (fun b hb=>⟨hF b hb,rfl⟩),fun p hpp=> ?_,by rw[hn];exact h.pinned⟩,fun v d hv=>hv.fM hx hF hβ hrow⟩
 ·show Rep _ β' w _ (look (xP o s es st.env) i)
  rw[Le]
  exact(h.tmps i).fM hx hF hβ hrow
 ·obtain⟨e,h2⟩:=hsub p y hy
  show p<st'.n∧(st'.obj p).live
  rw[hn,hsn p e,FT]
  exact h.dom p y h2
 ·by_cases e:p=o
  ·subst e
   have:(st'.obj p).live:=hpl
   rw[hso] at this
   exact this.elim
  ·have hpl':(st'.obj p).live:=hpl
   rw[hsn p e,FT] at hpl'
   obtain⟨y,hy,hw⟩:=h.own p (hn▸hpn) hpl'
   refine⟨y,hβ p y e hy,?_⟩
   show Own (FX X st' β' w) β' w (st'.obj p) y
   rw[hsn p e]
   exact hw.fM hx hF hβ hrow
 ·have Kz:p<st.pin:=hpp
  have e:p≠o:=by omega
  simp only[β',if_neg e]
  exact h.stay p Kz
theorem uh{X:Ctx}{G:Nat→Option (List D)}{pin:Nat}{st:St}{d:D}{post:D→List Obj→Prop}(o:Nat){e:TypeId}{s:Nat}{es:List (List D)}(ho:st.obj o= .row e s es)(hp:st.pin≤o)
 (h:gI X G pin (st.fM o s es) (Eng.fM o s es d) post):gI X G pin st d post:=
 gI.mk fun β a w v hr hv=>by
  obtain⟨β',hr',hv'⟩:=hr.Ro ho hp
  exact h.use β' a w v hr' (hv' _ _ hv)
theorem adn{o s:Nat}{es:List (List D)}(ds:List D)(i:Nat):(ds.map (Eng.fM o s es)).getD i .junk=Eng.fM o s es (ds.getD i .junk):=gy _ rfl _ _
theorem adl{st:St}{o:Nat}{K:St→Prop}{e:TypeId}{s:Nat}{es:List (List D)}(ho:st.obj o= .row e s es)(h:xQ st o K):st.pin≤o∧K (st.fM o s es):=by
 obtain⟨env,nt,objs,g,pin⟩:=st
 have ho':objs.getD o .dead= .row e s es:=ho
 unfold xQ at h
 simp only[ho'] at h
 cases hb:Nat.ble pin o with
 |false=>rw[hb] at h;exact h.elim
 |true=>
  rw[hb] at h
  exact⟨by simpa using hb,zD (JW (JU h))⟩
def JQ(X:Ctx)(f:FuncId)(ds:List D)(st:St)(K:D→St→Prop)(o:Nat):Prop:=
 match st.objs.getD o .dead with
 | .row _ s es=>xQ st o fun st'=>CallS X f (ds.map (Eng.fM o s es)) st' K
 |_=>False
theorem abY{X:Ctx}{f:FuncId}{ds:List D}{st:St}{K:D→St→Prop}(o:Nat)(hok:FnOK X.P f)(h:JQ X f ds st K o):CallS X f ds st K:=by
 unfold JQ at h
 split at h
 ·rename_i e s es ho
  obtain⟨hp,h⟩:=adl ho h
  refine CallS.mk hok fun β a w vs hr hl hrep=> ?_
  obtain⟨β',hr',hv'⟩:=hr.Ro ho hp
  have Sm: ∀i,i<(ds.map (Eng.fM o s es)).length→Rep (FX X (st.fM o s es) β' w) β' w (vs.getD i undef) ((ds.map (Eng.fM o s es)).getD i .junk):=fun i hi=>by
   rw[adn]
   exact hv' _ _ (hrep i iI)
  rcases h.out with⟨_,h1⟩|⟨d,_,h1⟩
  ·exact h1 β' a w vs hr' pI Sm
  ·obtain⟨v,h2,_⟩:=h1 β' a w vs hr' pI Sm
   rw[hok vs.toArray w] at h2
   cases h2
 ·exact h.elim
theorem ahh{X:Ctx}{f:FuncId}{ds:List D}{st:St}{K:D→St→Prop}(i:Nat){o:Nat}(hok:FnOK X.P f)(hd:ds.getD i .junk= .h o)(h:JQ X f ds st K o):CallS X f ds st K:=abY o hok h
end Go.Eng
namespace Go.Eng
open Go Go.RowKit
theorem aj{X:Ctx}{c:Code}{Q:DExit→St→Prop}{st:St}(h:awp X c Q st):awp X c Q st:=h
theorem sC{P P':Prop}(k:P')(h:P'→P:=by with_reducible first|exact UO|exact UN|exact Vg|exact Vf|exact UM|exact Ve):P:=h k
theorem sA{P P':Prop}(k:P')(h:P'→P:=by with_reducible first|exact XU|exact XO|exact XV|exact XQ|exact XZ|exact XP|exact XR|exact XW|exact XT):P:=h k
theorem sK{P P':Prop}(k:P')(h:P'→P:=by with_reducible first|exact UO|exact Vg):P:=h k
theorem sS{P P':Prop}(k:P')(h:P'→P:=by with_reducible first|exact XY|exact XM):P:=h k
theorem sH{P P':Prop}(k:P')(h:P'→P:=by with_reducible first|exact hn _|exact hr _|exact he _ _):P:=h k
theorem sO{P P':Prop}(k:P')(h:P'→P:=by intro k;first|((with_reducible refine aep ?_);first|exact UN k|exact UM k)|((with_reducible refine aer ?_);first|exact Vf k|exact Ve k)):P:=h k
theorem sB{P P':Prop}(k:P')(h:P'→P:=by with_reducible first|exact Ya|exact X9|exact X8):P:=h k
theorem sb0{P P':Prop}(k:P')(h:P'→P:=by with_reducible first|exact Br.tt|exact Br.ff|exact Br.nt|exact Br.nf|exact Br.acd|exact Br.ab9|exact Br.ae0|exact Br.aeZ):P:=h k
theorem aA{P P1 P2:Prop}(k1:P1)(k2:P2)(h:P1→P2→P:=by with_reducible first|exact Br.lt|exact Br.le|exact Br.eqn|exact Br.nlt|exact Br.nle|exact Br.ae5|exact Br.dec|exact Br.beq|exact Br.ae1|exact Br.aeY|exact Br.afc|exact Br.sym):P:=h k1 k2
theorem cls{P:Prop}(h:P:=by first|exact absurd rfl hb|exact absurd (hb.symm.trans hv) iU|exact absurd (hb.symm.trans hv2) iU|exact absurd (hb.symm.trans hv3) iU|exact absurd hb (List.cons_ne_nil _ _)|exact absurd hb iU|(exfalso;omega)):P:=h
theorem sP{P P':Prop}(k:P')(h:P'→P:=by first|exact vg.mk|exact fF.mk Ho|exact iw.zn Ho|exact iw.nn ah Ho|exact jo.mk|exact dD.nil|exact dD.one|exact bn.lD ah|exact nG.nat rfl ah|exact aW.fill ah|exact aJ.fill ah|exact aW.nat ah|exact aW.nat (by(try simp only[oQ]);omega)|exact aJ.the aO|exact iJ.the aO|exact bZ.app rfl (by(try simp only[gJ,uN,uK,uM,oQ,qp,qw,qx]);omega)):P:=h k
theorem sE{P P':Prop}(k:P')(h:P'→P:=by first|exact aJ.nat ah|exact iJ.nat ah):P:=h k
theorem sF{P P':Prop}(k:P')(h:P'→P:=by first|exact aJ.at ah|exact iJ.at ah):P:=h k
theorem sI{P P':Prop}(k:P')(h:P'→P:=by exact aW.at ah):P:=h k
theorem sL{P P':Prop}(k:P')(h:P'→P:=by first|exact dD.map|exact dD.int):P:=h k
theorem sQ{P P':Prop}(k:P')(h:P'→P:=by exact uY.mk):P:=h k
theorem sX{P P':Prop}(k:P')(h:P'→P:=by exact iw.at Ho):P:=h k
theorem sD{P P':Prop}(k:P')(h:P'→P:=by first|exact acB aB aB|exact acC aB aB):P:=h k
end Go.Eng
namespace Go.Eng
open Go Go.RowKit
theorem ak.mono{P:Program}{f:FuncId}{G:Nat→Option (List D)}{pin:Nat}{os:List Obj}{ds:List D}{post post':D→List Obj→Prop}(h:ak P f G pin os ds post)(hp: ∀d os',post d os'→post' d os'):ak P f G pin os ds post':=
 ⟨h.1,fun X β w vs h1 h2 h3 h4 h5 h6=>(h.2 X β w vs h1 h2 h3 h4 h5 h6).mono fun _ _ ⟨v,d,os',β',a,b,c,e,p⟩=>⟨v,d,os',β',a,b,c,e,hp _ _ p⟩⟩
theorem RO.agq{F:Nat→Prop}{w:World}{v:Value}{cs r:List D}(h:RO F w v (.rp (cs++r))):RO F w v (.rp cs):=by
 obtain⟨b,off,c,rfl,hF,hc,hr⟩:=h.Gx
 refine .rp _ b off c hF (fun j hj=>hc j (by rw[List.length_append];omega)) (fun j hj=> ?_)
 have h2:=hr j (by rw[List.length_append];omega)
 rwa [List.getD_eq_getElem?_getD,List.getElem?_append_left hj,←List.getD_eq_getElem?_getD] at h2
theorem ak.ahO{P:Program}{f:FuncId}{G:Nat→Option (List D)}{pin:Nat}{os:List Obj}{cs r:List D}{ds:List D}{post:D→List Obj→Prop}(h:ak P f G pin os (.rp cs::ds) post):ak P f G pin os (.rp (cs++r)::ds) post:=by
 refine⟨h.1,fun X β w vs h1 h2 h3 h4 h5 h6=>h.2 X β w vs h1 h2 h3 h4 (by simpa using h5) fun i hi=> ?_⟩
 have h7:=h6 i iI
 cases i with
 |zero=>exact .ro _ _ (RO.agq h7.Eu)
 |succ i=>exact h7
theorem o9{P:Program}{f:FuncId}{G:Nat→Option (List D)}{ds:List D}{s:Nat}{left:Int}(h:ak P f G 0 [] ds (fun d os=>d= .int .i64 (if(s:Int)≤left then left-s else-1)∧os=[])):
 ak P f G 0 [] ds (fun d os=>(∃n:Int,d= .int .i64 n∧((s:Int)≤left∧n=left-s∨left<s∧n= -1))∧os=[]):=by
 refine h.mono ?_
 rintro d os ⟨rfl,rfl⟩
 refine⟨⟨_,rfl,?_⟩,rfl⟩
 split<;>omega
end Go.Eng
