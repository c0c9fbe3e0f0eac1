/-
  The engine: a pointer to an own object is handed back.
  No conditions.
-/
import Derived.Test.YtocoppijdodffaaGreatDoorED
set_option linter.unusedVariables false
set_option linter.unusedSimpArgs false
namespace Go.Eng
open Go Go.RowKit
def Rq:D→Bool
 | .int _ _=>true
 | .str _=>true
 | .bool _=>true
 |_=>false
def ado:D→Bool
 | .agg cs=>cs.all Rq
 |d=>Rq d
def dead{α:Type}(s:Sem α):Prop:= ∀(P:Program) (v:α) (w w1:World),s.run P w≠ .ok v w1
def ag3:Op→Bool
 | .move _=>true
 | .assign _=>true
 | .indexAddr _ _ _=>true
 |_=>false
section
variable {X:Ctx} {ops:Array Oper}
theorem Mid.step{n:Nat}{s0:St}{ds:Nat→D}{listed:Array Bool}{β:Nat→Option Value}{a:Act}{w:World}(hm:Mid X ops n s0 ds listed β a w){j:Nat}{o:Oper}{v:Value}(hj:j<n)(hoj:ops[j]? =some o)
 (vJ: ∀(i:Nat) (oi:Oper) (t:Nat),i<n→ops[i]? =some oi→oi.dst=some t→j=i∨o.dst≠some t)(hrep:Rep (FX X s0 β w) β w v (ds j)):Mid X ops n s0 ds (listed.setIfInBounds j true) β (a.put o.dst v) w:=by
 have hsame: ∀t,(o.dst=some t→ ¬t<s0.nt)→(a.put o.dst v).tmps.getD t undef=a.tmps.getD t undef:=by
  intro t ht
  cases hd:o.dst with
  |none=>rfl
  |some u=>
   by_cases hut:u=t
   ·subst hut
    have hnt:=ht hd
    have: ¬u<a.tmps.size:=by rw[hm.size];exact hnt
    simp[Act.put,this]
   ·simp[Act.put,Array.getElem?_setIfInBounds_ne hut]
 refine⟨hm.heap,by cases o.dst<;>exact hm.defers,?_,fun i oi t hi hoi hd hnt hl=> ?_,fun t ht=> ?_⟩
 ·cases hd:o.dst<;>simp[Act.put,hm.size]
 ·by_cases hij:i=j
  ·subst hij
   have:oi=o:=Option.some.inj (hoi.symm.trans hoj)
   subst this
   have hts:t<a.tmps.size:=by rw[hm.size];exact hnt
   have:(a.put oi.dst v).tmps.getD t undef=v:=by simp[Act.put,hd,hts]
   rw[this]
   exact hrep
  ·rw[hsame t (fun hod=>by
    rcases vJ i oi t hi hoi hd with h|h
    ·exact absurd h.symm hij
    ·exact absurd hod h)]
   rw[getD_set_ne false (Ne.symm hij)] at hl
   exact hm.done i oi t hi hoi hd hnt hl
 ·rw[hsame t (fun hod hnt=>ht hnt j o hj hoj hod)]
  exact hm.base t ht
def JZ(ops:Array Oper)(n:Nat)(st:St):Bool:=
 (List.range n).all fun i=>match ops[i]? with
   |some o=>ag3 o.op||(match o.dst with
    |some t=>Nat.blt t st.nt&&ado (look st.env t)
    |none=>false)
   |none=>false
@[irreducible] def zO(ops:Array Oper)(n:Nat)(st:St)(R:Prop):Prop:=JZ ops n st=true∧R
theorem zO.mk{n:Nat}{st:St}{R:Prop}(h:JZ ops n st=true)(hr:R):zO ops n st R:=by unfold zO;exact⟨h,hr⟩
theorem zO.out{n:Nat}{st:St}{R:Prop}(h:zO ops n st R):JZ ops n st=true∧R:=by unfold zO at h;exact h
end
end Go.Eng
set_option linter.unusedVariables false
set_option linter.unusedSimpArgs false
namespace Go.Eng
open Go Go.RowKit
theorem ahN{X:Ctx}{G:Nat→Option (List D)}{pin:Nat}{st:St}{d:D}{post:D→List Obj→Prop}(ids:List Nat)(hg:st.g=G)(hpn:st.pin=pin)
 (hB:(nodupB ids&&ids.all (fun o=>Nat.blt o st.n&&U2 (st.obj o))&&Nat.ble st.pin ids.length&&(List.range st.pin).all (fun k=>ids[k]? ==some k))=true)
 (hp:post (DZ ids d) (ids.map st.obj)):gI X G pin st d post:=by
 subst hg hpn
 simp only[Bool.and_eq_true] at hB
 obtain⟨⟨⟨h1,h2⟩,h3⟩,h4⟩:=hB
 have h3:st.pin≤ids.length:=by simpa using h3
 have hid: ∀k o:Nat,ids[k]? =some o→o<st.n∧(st.obj o).plain:=by
  intro k o hk
  have:=List.all_eq_true.1 h2 o (List.mem_of_getElem? hk)
  simp only[Bool.and_eq_true,Nat.blt_eq] at this
  refine⟨this.1,?_⟩
  cases ho:st.obj o with
  |box cs=>rw[ho] at this;exact this.2
  |frame vs e=>rw[ho] at this;cases this.2
  |blk e s cs c=>rw[ho] at this;cases this.2
  |raw e s es=>rw[ho] at this;cases this.2
  |map P k e n f=>rw[ho] at this;cases this.2
  |_=>trivial
 refine gI.mk fun β a w v hr hv=> ?_
 let β':Nat→Option Value:=fun k=>match ids[k]? with
  |some o=>β o
  |none=>none
 have iO: ∀(k:Nat) (x:Value),β' k=some x→ ∃o:Nat,ids[k]? =some o∧β o=some x:=by
  intro k x h
  simp only[β'] at h
  cases hk:ids[k]? with
  |none=>rw[hk] at h;cases h
  |some o=>rw[hk] at h;exact⟨o,rfl,h⟩
 have nP: ∀(o k:Nat) (x:Value),ids[k]? =some o→β o=some x→β' k=some x:=by
  intro o k x hk h
  simp only[β',hk]
  exact h
 have hob: ∀k:Nat,(stOf (ids.map st.obj) st.g st.pin).obj k=match ids[k]? with|some o=>st.obj o|none=> .dead:=by
  intro k
  simp only[stOf,St.obj,List.getD_eq_getElem?_getD,List.getElem?_map]
  cases ids[k]? <;>rfl
 have hn:(stOf (ids.map st.obj) st.g st.pin).n=ids.length:=by simp[stOf,St.n]
 have hF: ∀b,FX X st β w b→FX X (stOf (ids.map st.obj) st.g st.pin) β' w b∧w.heap[b]? =w.heap[b]? :=by
  intro b hb
  refine⟨⟨hb.1,hb.2.1,fun k _ _ x hx=> ?_⟩,rfl⟩
  obtain⟨o,_,ho⟩:=iO k x hx
  exact hb.2.2 o (hr.dom o x ho).1 (hr.dom o x ho).2 x ho
 refine⟨DZ ids d,ids.map st.obj,β',⟨fun k x hx=> ?_,fun k hk hl=> ?_,fun k k' x x' b hx hx' hb hb'=> ?_,fun k x b hx hb=> ?_,hr.kept,fun g cs hg=>(hr.glob g cs hg).mono hF,fun k hk=> ?_,by rw[hn];exact h3⟩,hv.Ls nP (fun v d h=>h.mono hF),fun o ho=> ?_,hp⟩
 ·obtain⟨o,hk,ho⟩:=iO k x hx
  rw[hn,hob,hk]
  exact⟨(List.getElem?_eq_some_iff.1 hk).1,(hr.dom o x ho).2⟩
 ·rw[hn] at hk
  have hk':ids[k]? =some ids[k]:=List.getElem?_eq_getElem hk
  rw[hob,hk'] at hl⊢
  obtain⟨x,hx,hw⟩:=hr.own _ (hid k _ hk').1 hl
  exact⟨x,nP _ k x hk' hx,Own.rE hF (hid k _ hk').2 (fun _ _=>rfl) hw⟩
 ·obtain⟨o,hk,ho⟩:=iO k x hx
  obtain⟨o',hk',ho'⟩:=iO k' x' hx'
  have:=hr.sep o o' x x' b ho ho' hb hb'
  subst this
  exact D7 h1 k k' o hk hk'
 ·obtain⟨o,hk,ho⟩:=iO k x hx
  exact hr.low o x b ho hb
 ·have hk':k<st.pin:=hk
  have:=List.all_eq_true.1 h4 k (List.mem_range.2 hk')
  have hkk:ids[k]? =some k:=by simpa using this
  simp only[β',hkk]
  exact hr.stay k hk'
 ·obtain⟨i,hi,rfl⟩:=List.mem_map.1 ho
  obtain⟨k,hk⟩:=List.mem_iff_getElem?.1 hi
  exact(hid k i hk).2
theorem acA{P:Program}{w0:World}{F0 lent:Nat→Prop}{β0:Nat→Option Value}{ops:Array Oper}{K:St→Prop}{lU:List (Nat×D)}{nt:Nat}{lX:List Obj}{g:Nat→Option (List D)}{pin:Nat}{γ:Type}(env:γ→List (Nat×D))(objs:γ→List Obj)(I:γ→Prop)
 (h:jf ⟨P,w0,F0,lent,β0⟩ ops (fun st'=> ∃x,I x∧Weak st' ⟨env x,nt,objs x,g,pin⟩) ⟨lU,nt,lX,g,pin⟩)(hk: ∀x,I x→K ⟨env x,nt,objs x,g,pin⟩):jf ⟨P,w0,F0,lent,β0⟩ ops K ⟨lU,nt,lX,g,pin⟩:=by
 refine jf.mk fun β a w id Q hr hQ=>h.out β a w id Q hr fun a' w' hp=>hQ a' w' ?_
 obtain⟨st',β',⟨x,hi,hw⟩,hr'⟩:=hp
 obtain⟨β2,hr2⟩:=hw _ β' a' w' hr'
 exact⟨_,β2,hk x hi,hr2⟩
theorem ahr{P:Program}{f:FuncId}{fn:Func}{c:Code}(hf:P.funcs[f]? =some fn)(hb:fn.body=some c)(hname:(fn.name== "runtime.NumGoroutine")=false)
 {G:Nat→Option (List D)}{pin:Nat}{os:List Obj}{ds:List D}{post:D→List Obj→Prop}(hlen:Nat.ble ds.length fn.ntmps=true)
 (h: ∀w0 F0 lent β0,iP ⟨P,w0,F0,lent,β0⟩ c (Og ⟨P,w0,F0,lent,β0⟩ G pin fn.results.toList post) ⟨argEnv 0 ds,fn.ntmps,os,G,pin⟩):ak P f G pin os ds post:=by
 refine⟨callFunc_enter hf (by rw[hb];rfl) hname,fun X β w vs hP hw0 hβ0 hW hl hrep=> ?_⟩
 obtain⟨P',w0,F0,lent,β0⟩:=X
 have hP:P'=P:=hP
 subst hP
 let X:Ctx:=⟨P',w0,F0,lent,β0⟩
 have hW:WRel X (stOf os G pin) β w:=hW
 have hlen:ds.length≤fn.ntmps:=by simpa using hlen
 refine calls_of_wp hf hb ?_
 have hrel:Rel X ⟨argEnv 0 ds,fn.ntmps,os,G,pin⟩ β { tmps:=vs.toArray++Array.replicate (fn.ntmps-vs.toArray.size) undef,defers:=[] } w:=by
  refine(hW.same (st':=⟨argEnv 0 ds,fn.ntmps,os,G,pin⟩) rfl rfl rfl).toRel rfl (by simp[hl];omega) (fun i=> ?_)
  have hF:FX X ⟨argEnv 0 ds,fn.ntmps,os,G,pin⟩ β w=FX X (stOf os G pin) β w:=FX.same (X:=X) rfl β w
  rw[hF]
  show Rep _ β w _ (look (argEnv 0 ds) i)
  rw[look_argEnv,if_pos (Nat.zero_le _),Nat.sub_zero]
  by_cases hi:i<ds.length
  ·have hi':i<vs.length:=by omega
   have e:(vs.toArray++Array.replicate (fn.ntmps-vs.toArray.size) undef).getD i undef=vs.getD i undef:=by
    simp[List.getD_eq_getElem?_getD,Array.getElem?_append,hi']
   show Rep _ β w ((vs.toArray++Array.replicate (fn.ntmps-vs.toArray.size) undef).getD i undef) _
   rw[e]
   exact hrep i hi
  ·have:ds.getD i .junk= .junk:=by simp[List.getD_eq_getElem?_getD,List.getElem?_eq_none (by omega:ds.length≤i)]
   rw[this]
   exact .ro _ _ (.junk _)
 have fin: ∀(st:St) (a:Act) (w':World) (β':Nat→Option Value),resD X.P st fn.results.toList (fun d=>gI X G pin st d post)→Rel X st β' a w'→
  a.defers=[]∧ ∃v,(results fn a.tmps).run X.P w'= .ok v w'∧ ∃v' d os' β',Ending.returned v= .returned v'∧WRel X (stOf os' G pin) β' w'∧Rep (FX X (stOf os' G pin) β' w') β' w' v' d∧(∀o∈os',o.plain)∧post d os':=by
  intro st a w' β' hk hr
  obtain⟨d,hd,hres⟩:=resD_out hk
  obtain⟨v,hv,hrep⟩:=hres β' a w' hr
  obtain⟨d',os',β2,g1,g2,g3,g4⟩:=gI.use hd β' a w' v hr hrep
  exact⟨hr.defers,v,hv,v,d',os',β2,rfl,g1,g2,g3,g4⟩
 refine Code.wp_mono ?_ (iP.out (h w0 F0 lent β0) β _ w hrel)
 intro e a' w' hq
 cases e with
 |normal=>obtain⟨st,β',hk,hr⟩:=hq;exact fin st a' w' β' hk hr
 |ret=>obtain⟨st,β',hk,hr⟩:=hq;exact fin st a' w' β' hk hr
 |exit i=>obtain⟨st,β',hk,hr⟩:=hq;exact hk.elim
 |goto l=>exact hq.elim
 |panic c=>exact hq.elim
 |outgrown=>exact hq.elim
def aeR{γ:Type}(Q:DExit→St→Prop)(S:γ→St)(I:γ→Prop):DExit→St→Prop
 | .normal,st'=> ∃x,I x∧Weak st' (S x)
 |e,st'=>Q e st'
theorem ahP{P:Program}{w0:World}{F0 lent:Nat→Prop}{β0:Nat→Option Value}{x y:Code}{Q:DExit→St→Prop}{lU:List (Nat×D)}{nt:Nat}{lX:List Obj}{g:Nat→Option (List D)}{pin:Nat}{γ:Type}(env:γ→List (Nat×D))(objs:γ→List Obj)(I:γ→Prop)
 (h1:iP ⟨P,w0,F0,lent,β0⟩ x (aeR Q (fun z=>⟨env z,nt,objs z,g,pin⟩) I) ⟨lU,nt,lX,g,pin⟩)(h2: ∀z,I z→iP ⟨P,w0,F0,lent,β0⟩ y Q ⟨env z,nt,objs z,g,pin⟩):iP ⟨P,w0,F0,lent,β0⟩ (x.seq y) Q ⟨lU,nt,lX,g,pin⟩:=by
 refine iP.mk fun β a w hr=>wp_seq (Code.wp_mono ?_ (iP.out h1 β a w hr))
 intro e a' w' hq
 cases e with
 |normal=>
  obtain⟨st',β',⟨z,hi,hw⟩,hr'⟩:=hq
  obtain⟨β2,hr2⟩:=hw _ β' a' w' hr'
  exact iP.out (h2 z hi) β2 a' w' hr2
 |ret=>exact hq
 |exit i=>exact hq
 |goto l=>exact hq
 |panic c=>exact hq
 |outgrown=>exact hq
end Go.Eng
