/-
  The engine, bundle EB: values as data, objects, states, the walk's rules, and that the model follows them.
  No conditions.
-/
import Derived.Test.YtocoppijdodffaaGreatDoorEA
import Derived.Lib.SliceRun
set_option linter.unusedVariables false
set_option linter.unusedSimpArgs false
namespace Go.Eng
open Go Go.RowKit
structure WRel (X:Ctx) (st:St) (β:Nat→Option Value) (w:World):Prop where
 dom: ∀o x,β o=some x→o<st.n∧(st.obj o).live
 own: ∀o,o<st.n→(st.obj o).live→ ∃x,β o=some x∧Own (FX X st β w) β w (st.obj o) x
 sep: ∀o o' x x' b,β o=some x→β o'=some x'→blk x=some b→blk x'=some b→o=o'
 low: ∀o x b,β o=some x→blk x=some b→X.w0.heap.size≤b∨X.lent b
 kept:KeptL X.w0.heap.size X.lent X.w0 w
 glob: ∀g cs,st.g g=some cs→nY (FX X st β w) w g cs
 stay: ∀o,o<st.pin→β o=X.β0 o
 pinned:st.pin≤st.n
theorem Rel.toW{X:Ctx}{st:St}{β:Nat→Option Value}{a:Act}{w:World}(h:Rel X st β a w):WRel X st β w:=
 ⟨h.dom,h.own,h.sep,h.low,h.kept,h.glob,h.stay,h.pinned⟩
theorem FX.same{X:Ctx}{st st':St}(ho:st'.objs=st.objs)(β:Nat→Option Value)(w:World):FX X st' β w=FX X st β w:=FX.of_eq ho
theorem WRel.same{X:Ctx}{st st':St}{β:Nat→Option Value}{w:World}(h:WRel X st β w)(ho:st'.objs=st.objs)(hg:st'.g=st.g)(hp:st'.pin=st.pin):WRel X st' β w:=by
 have hn:st'.n=st.n:=by simp[St.n,ho]
 have hob:st'.obj=st.obj:=by funext o;simp[St.obj,ho]
 have hF:=FX.same (X:=X) ho β w
 exact⟨by rw[hn,hob];exact h.dom,by rw[hn,hob,hF];exact h.own,h.sep,h.low,h.kept,by rw[hg,hF];exact h.glob,by rw[hp];exact h.stay,by rw[hp,hn];exact h.pinned⟩
theorem WRel.toRel{X:Ctx}{st:St}{β:Nat→Option Value}{a:Act}{w:World}(h:WRel X st β w)(hd:a.defers=[])(hs:a.tmps.size=st.nt)
 (ht: ∀i,Rep (FX X st β w) β w (a.tmps.getD i undef) (look st.env i)):Rel X st β a w:=
 ⟨hd,hs,ht,h.dom,h.own,h.sep,h.low,h.kept,h.glob,h.stay,h.pinned⟩
def FnOK(P:Program)(f:FuncId):Prop:= ∀(args:Array Value) (w:World),(callFunc f args).run P w= .ok (.enter f args) w
def cZ:D→Bool
 | .h _| .hp _ _| .hr _ _ _ _| .hs _ _ _ _| .agg _| .aN _| .clo _ _=>false
 |_=>true
theorem Rep.cZ{F:Nat→Prop}{β:Nat→Option Value}{w:World}{v:Value}{d:D}(hd:Eng.cZ d=true)(h:Rep F β w v d):RO F w v d:=by
 cases h<;>first|assumption|cases hd
def Obj.plain:Obj→Prop
 | .box cs=>cs.all cZ=true
 | .frame _ _=>False
 | .blk _ _ _ _=>False
 | .raw _ _ _=>False
 | .map _ _ _ _ _=>False
 |_=>True
def stOf(os:List Obj)(G:Nat→Option (List D))(pin:Nat):St:=⟨[],0,os,G,pin⟩
def ak(P:Program)(f:FuncId)(G:Nat→Option (List D))(pin:Nat)(os:List Obj)(ds:List D)(post:D→List Obj→Prop):Prop:=
 FnOK P f∧ ∀(X:Ctx) (β:Nat→Option Value) (w:World) (vs:List Value),X.P=P→X.w0=w→X.β0=β→WRel X (stOf os G pin) β w→vs.length=ds.length→
  (∀i,i<ds.length→Rep (FX X (stOf os G pin) β w) β w (vs.getD i undef) (ds.getD i .junk))→
  Calls P f vs.toArray w fun e w'=> ∃v d os' β',e= .returned v∧WRel X (stOf os' G pin) β' w'∧Rep (FX X (stOf os' G pin) β' w') β' w' v d∧(∀o∈os',o.plain)∧post d os'
def kJ:D→Bool
 | .junk| .int _ _| .bool _| .str _| .v _=>true
 | .sl _ []=>true
 |_=>false
def FI:D→Bool
 | .agg cs=>cs.all kJ
 | .h _=>true
 |d=>kJ d
def flat:D→Bool
 | .aN ds=>ds.all FI
 |d=>FI d
def iV:Obj→Prop
 | .row _ _ es=> ∀e∈es, ∀c∈e,kJ c=true
 | .dead=>True
 | .box _=>False
 | .frame _ _=>False
 | .blk _ _ _ _=>False
 | .raw _ _ _=>False
 | .map _ _ _ _ _=>False
theorem getD_mem{α:Type}{l:List α}{j:Nat}{z:α}(h:j<l.length):l.getD j z∈l:=by
 rw[List.getD_eq_getElem?_getD,List.getElem?_eq_getElem h]
 exact List.getElem_mem _
theorem RO.kJ{F F':Nat→Prop}{w w':World}{v:Value}{d:D}(h:RO F w v d)(hd:kJ d=true):RO F' w' v d:=by
 cases h<;>first|(cases hd;done)|skip
 rotate_right 1
 ·rename_i s es b off len cap c hlen hF hcap hm hs hc hr
  cases es with
  |nil=>
   subst hlen
   exact .slnil _ _ _
  |cons e r=>cases hd
 rotate_right 1
 ·exact .slnil _ _ _
 ·exact .junk _
 ·exact .int _ _
 ·exact .bool _
 ·exact .str _ ‹_›
 ·exact .v _
theorem Own.rE{F F':Nat→Prop}{β β':Nat→Option Value}{w w':World}(hF: ∀b,F b→F' b∧w'.heap[b]? =w.heap[b]?)
 {o:Obj}(hp:o.plain){x:Value}(hb: ∀b,blk x=some b→w'.heap[b]? =w.heap[b]?)(h:Own F β w o x):Own F' β' w' o x:=by
 cases o with
 |dead=>trivial
 |row e s es=>
  obtain⟨h1,h2,xs,h3,h4,h5⟩:=h
  exact⟨h1,h2,xs,MB hb h3,h4,fun i j hi hj=>(h5 i j hi hj).mono hF⟩
 |box cs=>
  obtain⟨b,c,T,rfl,hg,hs,h1,hr⟩:=h
  exact⟨b,c,T,rfl,by rw[hb b rfl];exact hg,hs,h1,fun j hj=> .ro _ _ (((hr j hj).cZ (List.all_eq_true.1 hp _ (getD_mem hj))).mono hF)⟩
 |frame vs e=>exact hp.elim
 |blk e s cs c=>exact hp.elim
 |raw e s es=>exact hp.elim
 |map P k e n f=>exact hp.elim
theorem Own.Q8{F F':Nat→Prop}{β β':Nat→Option Value}{w:World}{o:Obj}(hp:iV o){x:Value}(h:Own F β w o x):Own F' β' w o x:=by
 cases o with
 |dead=>trivial
 |row e s es=>
  obtain⟨h1,h2,xs,h3,h4,h5⟩:=h
  refine⟨h1,h2,xs,h3,h4,fun i j hi hj=>(h5 i j hi hj).kJ ?_⟩
  have hi':es.getD i []∈es:=by simp[List.getD_eq_getElem?_getD,hi]
  have hl:=h2 i hi
  exact hp _ hi' _ (getD_mem ah)
 |box cs=>exact hp.elim
 |frame vs e=>exact hp.elim
 |blk e s cs c=>exact hp.elim
 |raw e s es=>exact hp.elim
 |map P k e n f=>exact hp.elim
def uS(f:Nat→Nat):D→D
 | .h o=> .h (f o)
 | .hp o k=> .hp (f o) k
 | .hr o s i k=> .hr (f o) s i k
 | .hs o s a b=> .hs (f o) s a b
 | .agg _=> .junk
 | .aN _=> .junk
 | .clo _ _=> .junk
 |d=>d
def Bl(f:Nat→Nat):D→D
 | .agg cs=> .agg (cs.map (uS f))
 | .clo g cs=> .clo g (cs.map (uS f))
 | .aN _=> .junk
 |d=>uS f d
def ren(f:Nat→Nat):D→D
 | .aN ds=> .aN (ds.map (Bl f))
 |d=>Bl f d
section
variable {F F':Nat→Prop} {β β':Nat→Option Value} {w w':World} {f:Nat→Nat} (hβ: ∀o x,β o=some x→β' (f o)=some x)
include hβ
theorem Rep.Bj{v:Value}{d:D}(hro:RO F w v d→RO F' w' v d)(h:Rep F β w v d):Rep F' β' w' v (uS f d):=by
 cases h with
 |ro x d h=>
  cases d<;>simp only[Eng.uS]<;>first|exact .ro _ _ (.junk _)|exact .ro _ _ (hro h)|cases h
 |h o x h=>exact .h _ _ (hβ _ _ h)
 |hp o off b x h hb=>exact .hp _ _ _ _ (hβ _ _ h) hb
 |hr o s i off b x h hb=>exact .hr _ _ _ _ _ _ (hβ _ _ h) hb
 |hs o s a b x v h hv=>exact .hs _ _ _ _ _ _ (hβ _ _ h) hv
 |agg=>exact .ro _ _ (.junk _)
 |aN=>exact .ro _ _ (.junk _)
 |clo=>exact .ro _ _ (.junk _)
theorem Rep.Vr{v:Value}{d:D}(hro: ∀v d,RO F w v d→RO F' w' v d)(h:Rep F β w v d):Rep F' β' w' v (Bl f d):=by
 cases d with
 |agg ds=>
  obtain⟨cs,rfl,hl,h1,hr⟩:=h.jM
  refine .agg _ _ jY h1 (fun i hi=> ?_)
  rw[gy _ rfl]
  exact(hr i iI).Bj hβ (hro _ _)
 |clo g ds=>
  obtain⟨cs,rfl,hl,hr⟩:=h.qR
  refine .clo _ _ _ jY (fun i hi=> ?_)
  rw[gy _ rfl]
  exact(hr i iI).Bj hβ (hro _ _)
 |aN ds=>exact .ro _ _ (.junk _)
 |_=>exact h.Bj hβ (hro _ _)
theorem Rep.ren'{v:Value}{d:D}(hro: ∀v d,RO F w v d→RO F' w' v d)(h:Rep F β w v d):Rep F' β' w' v (ren f d):=by
 cases d with
 |aN ds=>
  obtain⟨cs,rfl,hl,hr⟩:=h.pz
  refine .aN _ _ jY (fun i hi=> ?_)
  rw[gy _ rfl]
  exact(hr i iI).Vr hβ hro
 |_=>exact h.Vr hβ hro
theorem Rep.Vt{v:Value}{d:D}(hd:Eng.kJ d=true)(h:Rep F β w v d):Rep F' β' w' v (uS f d):=by
 refine h.Bj hβ (fun h=>h.kJ hd)
theorem Rep.oW{v:Value}{d:D}(hd:Eng.FI d=true)(h:Rep F β w v d):Rep F' β' w' v (Bl f d):=by
 cases d with
 |agg ds=>
  obtain⟨cs,rfl,hl,h1,hr⟩:=h.jM
  refine .agg _ _ jY h1 (fun i hi=> ?_)
  rw[gy _ rfl]
  have hi':i<ds.length:=by simpa using hi
  refine(hr i hi').Vt hβ (List.all_eq_true.1 hd _ ?_)
  rw[List.getD_eq_getElem?_getD,List.getElem?_eq_getElem hi']
  exact List.getElem_mem _
 |h o=>exact h.Bj hβ (fun h=>by cases h)
 |clo g ds=>cases hd
 |aN ds=>cases hd
 |sl s es=>exact h.Vt hβ hd
 |rp cs=>cases hd
 |hp o k=>cases hd
 |hr o s i k=>cases hd
 |hs o s a b=>cases hd
 |_=>exact h.Bj hβ (fun h=>RO.kJ h rfl)
theorem Rep.Vs{v:Value}{d:D}(hd:Eng.flat d=true)(h:Rep F β w v d):Rep F' β' w' v (ren f d):=by
 cases d with
 |aN ds=>
  obtain⟨cs,rfl,hl,hr⟩:=h.pz
  refine .aN _ _ jY (fun i hi=> ?_)
  rw[gy _ rfl]
  have hi':i<ds.length:=by simpa using hi
  refine(hr i hi').oW hβ (List.all_eq_true.1 hd _ ?_)
  rw[List.getD_eq_getElem?_getD,List.getElem?_eq_getElem hi']
  exact List.getElem_mem _
 |junk=>exact h.oW hβ qN
 |int=>exact h.oW hβ qN
 |bool=>exact h.oW hβ qN
 |str=>exact h.oW hβ qN
 |v=>exact h.oW hβ qN
 |agg=>exact h.oW hβ qN
 |sl=>exact h.oW hβ qN
 |rp=>exact h.oW hβ qN
 |h=>exact h.oW hβ qN
 |hp=>exact h.oW hβ qN
 |hr=>exact h.oW hβ qN
 |hs=>exact h.oW hβ qN
 |clo=>exact h.oW hβ qN
end
def wF(X:Ctx)(f:FuncId)(ds:List D)(st:St)(K:D→Prop):Prop:=
 ∃d,K d∧ ∀β a w (vs:List Value),Rel X st β a w→vs.length=ds.length→(∀i,i<ds.length→Rep (FX X st β w) β w (vs.getD i undef) (ds.getD i .junk))→
  ∃v,(callFunc f vs.toArray).run X.P w= .ok (.value v) w∧Rep (FX X st β w) β w v d
@[irreducible] def CallS(X:Ctx)(f:FuncId)(ds:List D)(st:St)(K:D→St→Prop):Prop:=
 (FnOK X.P f∧ ∀β a w (vs:List Value),Rel X st β a w→vs.length=ds.length→(∀i,i<ds.length→Rep (FX X st β w) β w (vs.getD i undef) (ds.getD i .junk))→
   Calls X.P f vs.toArray w fun e w'=> ∃v d st' β',e= .returned v∧Rel X st' β' a w'∧Rep (FX X st' β' w') β' w' v d∧K d st')∨wF X f ds st (fun d=>K d st)
theorem CallS.mk{X:Ctx}{f:FuncId}{ds:List D}{st:St}{K:D→St→Prop}(h0:FnOK X.P f)
 (h: ∀β a w (vs:List Value),Rel X st β a w→vs.length=ds.length→(∀i,i<ds.length→Rep (FX X st β w) β w (vs.getD i undef) (ds.getD i .junk))→
 Calls X.P f vs.toArray w fun e w'=> ∃v d st' β',e= .returned v∧Rel X st' β' a w'∧Rep (FX X st' β' w') β' w' v d∧K d st'):CallS X f ds st K:=by
 unfold CallS;exact .inl ⟨h0,h⟩
theorem CallS.ext{X:Ctx}{f:FuncId}{ds:List D}{st:St}{K:D→St→Prop}(h:wF X f ds st (fun d=>K d st)):CallS X f ds st K:=by
 unfold CallS;exact .inr h
theorem CallS.out{X:Ctx}{f:FuncId}{ds:List D}{st:St}{K:D→St→Prop}(h:CallS X f ds st K):(FnOK X.P f∧
 ∀β a w (vs:List Value),Rel X st β a w→vs.length=ds.length→(∀i,i<ds.length→Rep (FX X st β w) β w (vs.getD i undef) (ds.getD i .junk))→
 Calls X.P f vs.toArray w fun e w'=> ∃v d st' β',e= .returned v∧Rel X st' β' a w'∧Rep (FX X st' β' w') β' w' v d∧K d st')∨wF X f ds st (fun d=>K d st):=by
 unfold CallS at h;exact h
end Go.Eng
namespace Go.Eng
open Go Go.RowKit
def noH:D→Bool
 | .agg cs=>cs.all cZ
 | .clo _ cs=>cs.all cZ
 |d=>cZ d
theorem Rep.noH{F:Nat→Prop}{β:Nat→Option Value}{w:World}{v:Value}{d:D}(hd:Eng.noH d=true)(h:Rep F β w v d):RO F w v d:=by
 cases d with
 |agg ds=>
  obtain⟨cs,rfl,hl,h1,hr⟩:=h.jM
  exact .agg _ _ hl h1 (fun i hi=>(hr i hi).cZ (List.all_eq_true.1 hd _ (getD_mem hi)))
 |clo g ds=>
  obtain⟨cs,rfl,hl,hr⟩:=h.qR
  exact .clo _ _ _ hl (fun i hi=>(hr i hi).cZ (List.all_eq_true.1 hd _ (getD_mem hi)))
 |aN=>cases hd
 |h=>cases hd
 |hp=>cases hd
 |hr=>cases hd
 |hs=>cases hd
 |junk=>exact .junk _
 |int=>exact h.cZ rfl
 |bool=>exact h.cZ rfl
 |str=>exact h.cZ rfl
 |v=>exact h.cZ rfl
 |sl=>exact h.cZ rfl
 |rp=>exact h.cZ rfl
def St.join(st:St)(os:List Obj):St:= { st with objs:=st.objs++os }
theorem DR(st:St)(os:List Obj):(st.join os).n=st.n+os.length:=by simp[St.join,St.n]
theorem F6(st:St)(os:List Obj){o:Nat}(h:o<st.n):(st.join os).obj o=st.obj o:=by
 have h':o<st.objs.length:=h
 simp[St.join,St.obj,List.getD_eq_getElem?_getD,List.getElem?_append_left h']
theorem KU(st:St)(os:List Obj){o:Nat}(h:st.n≤o):(st.join os).obj o=os.getD (o-st.n) .dead:=by
 have h':st.objs.length≤o:=h
 simp[St.join,St.obj,St.n,List.getD_eq_getElem?_getD,List.getElem?_append_right h']
def jA(n:Nat)(β β':Nat→Option Value):Nat→Option Value:=fun o=>if o<n then β o else β' (o-n)
theorem Rel.lt{X:Ctx}{st:St}{β:Nat→Option Value}{a:Act}{w:World}(h:Rel X st β a w){o:Nat}{x:Value}(hx:β o=some x){b:Nat}(hb:blk x=some b):b<w.heap.size:=by
 obtain⟨h1,h2⟩:=h.dom o x hx
 obtain⟨y,hy,hw⟩:=h.own o h1 h2
 rw[hx] at hy
 cases hy
 exact Own.lt h2 hw b hb
theorem Rel.Tt{X Xc:Ctx}{st:St}{β:Nat→Option Value}{a:Act}{w w':World}(h:Rel X st β a w){G:Nat→Option (List D)}{os:List Obj}{β':Nat→Option Value}
 (hw0:Xc.w0=w)(RY: ∀b, ¬Xc.lent b)(hc:WRel Xc (stOf os G 0) β' w')(hp: ∀o∈os,o.plain)
 (hF:(∀b,FX Xc (stOf os G 0) β' w' b→FX X (st.join os) (jA st.n β β') w' b)∨ ∀o∈os,iV o):
 Rel X (st.join os) (jA st.n β β') a w'∧ ∀b,FX X st β w b→FX X (st.join os) (jA st.n β β') w' b∧w'.heap[b]? =w.heap[b]? :=by
 subst hw0
 have hk:=hc.kept
 have hsame: ∀b,b<Xc.w0.heap.size→w'.heap[b]? =Xc.w0.heap[b]? :=fun b hb=>hk.block b hb (RY b)
 have hnew: ∀o x b,β' o=some x→blk x=some b→Xc.w0.heap.size≤b:=fun o x b hx hb=>(hc.low o x b hx hb).resolve_right (RY b)
 have hFX: ∀b,FX X st β Xc.w0 b→FX X (st.join os) (jA st.n β β') w' b∧w'.heap[b]? =Xc.w0.heap[b]? :=by
  intro b hb
  refine⟨⟨Nat.lt_of_lt_of_le hb.1 hk.size,hb.2.1,fun o ho hl y hy=> ?_⟩,hsame b hb.1⟩
  unfold jA at hy
  split at hy
  ·rename_i hlt
   exact hb.2.2 o hlt (h.dom o y hy).2 y hy
  ·intro hbb
   have:=hnew _ _ _ hy hbb
   have:=hb.1
   omega
 have hold: ∀o y,β o=some y→jA st.n β β' o=some y:=by
  intro o y hy
  unfold jA
  rw[if_pos (h.dom o y hy).1]
  exact hy
 refine⟨⟨h.defers,h.size,fun i=>(h.tmps i).mono hFX hold,?_,?_,?_,?_,h.kept.trans ⟨hk.os,hk.tape,hk.output,hk.size,fun k hkk _=>hsame k (Nat.lt_of_lt_of_le hkk h.kept.size)⟩,fun g cs hg=>(h.glob g cs hg).mono hFX,?_,?_⟩,hFX⟩
 ·intro o x hx
  unfold jA at hx
  split at hx
  ·rename_i hlt
   rw[F6 _ _ hlt]
   exact⟨by rw[DR];omega,(h.dom o x hx).2⟩
  ·rename_i hge
   have:=hc.dom _ _ hx
   rw[KU _ _ ah]
   exact⟨by have:o-st.n<os.length:=this.1;rw[DR];omega,this.2⟩
 ·intro o ho hl
  by_cases hlt:o<st.n
  ·rw[F6 _ _ hlt] at hl⊢
   obtain⟨x,hx,hw⟩:=h.own o hlt hl
   exact⟨x,hold o x hx,hw.mono hFX hold (fun b hb=>hsame b (Own.lt hl hw b hb))⟩
  ·rw[KU _ _ ah] at hl⊢
   have hin:o-st.n<os.length:=by rw[DR] at ho;omega
   obtain⟨x,hx,hw⟩:=hc.own (o-st.n) hin hl
   refine⟨x,by unfold jA;rw[if_neg hlt];exact hx,?_⟩
   have hmem:os.getD (o-st.n) .dead∈os:=getD_mem hin
   rcases hF with hF|hF
   ·exact Own.rE (fun b hb=>⟨hF b hb,rfl⟩) (hp _ hmem) (fun _ _=>rfl) hw
   ·exact Own.Q8 (hF _ hmem) hw
 ·intro o o' x x' b hx hx' hb hb'
  unfold jA at hx hx'
  split at hx<;>split at hx'
  ·exact h.sep o o' x x' b hx hx' hb hb'
  ·have:=h.lt hx hb
   have:=hnew _ _ _ hx' hb'
   omega
  ·have:=h.lt hx' hb'
   have:=hnew _ _ _ hx hb
   omega
  ·have:=hc.sep _ _ x x' b hx hx' hb hb'
   omega
 ·intro o x b hx hb
  unfold jA at hx
  split at hx
  ·exact h.low o x b hx hb
  ·exact .inl (Nat.le_trans h.kept.size (hnew _ _ _ hx hb))
 ·intro o ho
  have hp:st.pin≤st.n:=h.pinned
  have ho':o<st.pin:=ho
  unfold jA
  rw[if_pos ah]
  exact h.stay o ho'
 ·rw[DR]
  have hp:st.pin≤st.n:=h.pinned
  show st.pin≤_
  omega
theorem Vu{X:Ctx}{st:St}{β β':Nat→Option Value} : ∀o x,β' o=some x→jA st.n β β' (st.n+o)=some x:=by
 intro o x hx
 unfold jA
 rw[if_neg ah]
 simpa using hx
theorem Fb{X:Ctx}{f:FuncId}{ds:List D}{st:St}{K:D→St→Prop}{post:D→List Obj→Prop}(hc:ak X.P f st.g 0 [] ds post)(hn:ds.all noH=true)
 (hk: ∀d os,post d os→K (ren (st.n+ ·) d) (st.join os)):CallS X f ds st K:=by
 refine CallS.mk hc.1 fun β a w vs hr hl hrep=> ?_
 let Xc:Ctx:=⟨X.P,w,FX X st β w,fun _=>False,fun _=>none⟩
 have hF0: ∀b,FX X st β w b→FX Xc (stOf [] st.g 0) (fun _=>none) w b∧w.heap[b]? =w.heap[b]? :=fun b hb=>⟨⟨hb.1, .inl hb,fun o ho=>absurd ho lM⟩,rfl⟩
 have hW:WRel Xc (stOf [] st.g 0) (fun _=>none) w:=by
  refine⟨fun o x hx=>jX,fun o ho=>absurd ho lM,fun o o' x x' b hx=>jX,fun o x b hx=>jX,KeptL.refl _ _ _,fun g cs hg=>(hr.glob g cs hg).mono hF0,fun o ho=>absurd ho wE,Nat.zero_le _⟩
 refine(hc.2 Xc (fun _=>none) w vs rfl rfl rfl hW hl (fun i hi=> ?_)).mono ?_
 ·exact .ro _ _ (((hrep i hi).noH (List.all_eq_true.1 hn _ (getD_mem hi))).mono hF0)
 ·rintro e w' ⟨v,d,os,β',rfl,hw',hrd,hp,hpost⟩
  have hFn: ∀b,FX Xc (stOf os st.g 0) β' w' b→FX X (st.join os) (jA st.n β β') w' b:=by
   intro b hb
   have hk0:=hr.kept.size
   refine⟨hb.1,?_,fun o ho hl y hy=> ?_⟩
   ·rcases hb.2.1 with h1|h1|h1
    ·exact h1.2.1
    ·exact .inr (.inl (Nat.le_trans hk0 h1))
    ·exact h1.elim
   ·unfold jA at hy
    split at hy
    ·rename_i hlt
     rcases hb.2.1 with h1|h1|h1
     ·exact h1.2.2 o hlt (hr.dom o y hy).2 y hy
     ·intro hbb
      have:=hr.lt hy hbb
      have h1:w.heap.size≤b:=h1
      omega
     ·exact h1.elim
    ·exact hb.2.2 _ (hw'.dom _ _ hy).1 (hw'.dom _ _ hy).2 y hy
  obtain⟨hj,_⟩:=hr.Tt (Xc:=Xc) rfl (fun _ hf=>hf) hw' hp (.inl hFn)
  refine⟨v,_,_,_,rfl,hj,?_,hk d os hpost⟩
  exact hrd.ren' (f:=(st.n+ ·)) (Vu (X:=X)) (fun v d h=>h.mono (fun b hb=>⟨hFn b hb,rfl⟩))
def uw(st:St):D→D
 | .h o=>match st.obj o with
   | .row _ s es=> .sl s es
   |_=> .junk
 | .hp _ _=> .junk
 | .hr _ _ _ _=> .junk
 | .hs o s' a b=>match st.obj o with
   | .row _ s es=>bif Nat.beq s s'&&Nat.ble b es.length then .sl s ((es.drop a).take (b-a)) else .junk
   |_=> .junk
 | .agg _=> .junk
 | .aN _=> .junk
 | .clo _ _=> .junk
 |d=>d
def mD(st:St):D→D
 | .hp o k=>match st.obj o with
   | .box cs=> .rp ((cs.drop k).map (uw st))
   |_=> .junk
 | .hr o s i k=>match st.obj o with
   | .row _ s' es=>bif Nat.beq s s'&&Nat.blt i es.length then .rp ((es.getD i []).drop k) else .junk
   |_=> .junk
 |d=>uw st d
def wC(st:St):D→D
 | .agg cs=> .agg (cs.map (mD st))
 | .clo f cs=> .clo f (cs.map (mD st))
 |d=>mD st d
def view(st:St):D→D
 | .aN ds=> .aN (ds.map (wC st))
 |d=>wC st d
def FAll(X:Ctx)(w:World)(b:Nat):Prop:=b<w.heap.size∧(X.F0 b∨X.w0.heap.size≤b∨X.lent b)
theorem yG{X:Ctx}{st:St}{β:Nat→Option Value}{w:World}{b:Nat}(h:FX X st β w b):FAll X w b:=⟨h.1,h.2.1⟩
section
variable {X:Ctx} {st:St} {β:Nat→Option Value} {a:Act} {w:World} (hr:Rel X st β a w)
include hr
theorem Ee{o:Nat}{x:Value}(hx:β o=some x){b:Nat}(hb:blk x=some b):FAll X w b:=
 ⟨hr.lt hx hb, .inr (hr.low o x b hx hb)⟩
theorem WZ{v:Value}{d:D}(h:Rep (FX X st β w) β w v d):RO (FAll X w) w v (uw st d):=by
 have hF: ∀b,FX X st β w b→FAll X w b∧w.heap[b]? =w.heap[b]? :=fun b hb=>⟨yG hb,rfl⟩
 cases h with
 |ro x d h=>cases d<;>simp only[Eng.uw]<;>first|exact .junk _|exact h.mono hF|cases h
 |h o x hx=>
  simp only[Eng.uw]
  split
  ·rename_i e s es ho
   have hrow:=hr.row ho hx
   obtain⟨hm,hs,xs,how,h1,hro⟩:=hrow
   rcases how.2 with⟨rfl,hn⟩|⟨g,cap,cur,rfl,_,hg,hnc,hcm,hcs,htk⟩
   ·rw[List.eq_nil_of_length_eq_zero hn]
    exact .slnil _ _ _
   ·refine .sl s es g 0 _ cap (fun i j=>xs.getD (i*s+j) undef) rfl (Ee hr hx rfl) hnc hcm hs (fun i j hi hj=> ?_) (fun i j hi hj=>(hro i j hi hj).mono hF)
    have hxl:xs.length=es.length*s:=how.1
    have hle:(i+1)*s≤es.length*s:=Nat.mul_le_mul_right s hi
    rw[Nat.add_mul] at hle
    have hlt:i*s+j<xs.length:=by omega
    have hx:xs.getD (i*s+j) undef=xs[i*s+j]:=by simp[List.getD_eq_getElem?_getD,hlt]
    have:=how.cells (g:=g) rfl (i*s+j) xs[i*s+j] (by simp[hlt])
    rw[add_lit,Nat.zero_add] at this
    rw[hx,Nat.zero_add]
    exact⟨this,h1 _ (List.getElem_mem _)⟩
  ·exact .junk _
 |hp=>exact .junk _
 |hr=>exact .junk _
 |hs o s' a b x v hx hsub=>
  simp only[Eng.uw]
  split
  ·rename_i e s es ho
   cases hbb:(Nat.beq s s'&&Nat.ble b es.length) with
   |false=>exact .junk _
   |true=>
    obtain⟨k1,k2⟩:=jZ hbb
    have:=Nat.eq_of_beq_eq_true k1
    subst this
    exact agS (hr.row ho hx) (fun b hb=>yG hb) (fun b hb=>Ee hr hx hb) hsub (by simpa using k2)
  ·exact .junk _
 |agg=>exact .junk _
 |aN=>exact .junk _
 |clo=>exact .junk _
theorem G6{v:Value}{d:D}(h:Rep (FX X st β w) β w v d):RO (FAll X w) w v (mD st d):=by
 have hF: ∀b,FX X st β w b→FAll X w b∧w.heap[b]? =w.heap[b]? :=fun b hb=>⟨yG hb,rfl⟩
 cases d with
 |hp o k=>
  obtain⟨b,x,hx,hb,rfl⟩:=h.xX
  simp only[mD]
  split
  ·rename_i cs ho
   obtain⟨b',rfl,hc⟩:=P8 (hr.box ho hx)
   simp[blk] at hb
   subst hb
   obtain⟨c,hc⟩:=hc.drop k
   rw[Nat.zero_add] at hc
   refine .rp _ _ k c (Ee hr hx rfl) (fun j hj=>(hc j qP).1) (fun j hj=> ?_)
   rw[gy _ rfl]
   exact WZ hr (hc j qP).2
  ·exact .junk _
 |hr o s i k=>
  obtain⟨b,x,hx,hb,rfl⟩:=h.xY
  simp only[mD]
  split
  ·rename_i e s' es ho
   cases hbb:(Nat.beq s s'&&Nat.blt i es.length) with
   |false=>exact .junk _
   |true=>
    obtain⟨h1,h2⟩:=jZ hbb
    have h1:=Nat.eq_of_beq_eq_true h1
    subst h1
    have h2:i<es.length:=by simpa[Nat.blt_eq] using h2
    obtain⟨b',l,cp,rfl,hc⟩:=Di (β:=β) (hr.row ho hx) h2
    simp[blk] at hb
    subst hb
    obtain⟨c,hc⟩:=hc.drop k
    refine .rp _ _ _ c (Ee hr hx rfl) (fun j hj=>(hc j hj).1) (fun j hj=> ?_)
    have hrow:=hr.row ho hx
    obtain⟨_,hs,xs,how,_,hro⟩:=hrow
    have hl:=hs i h2
    have hj':k+j<s:=by
     have:j<((es.getD i []).drop k).length:=hj
     rw[List.length_drop,hl] at this
     omega
    have e1:((es.getD i []).drop k).getD j .junk=(es.getD i []).getD (k+j) .junk:=by simp[List.getD_eq_getElem?_getD]
    have hcell:=(hc j hj).1.1
    have hxl:xs.length=es.length*s:=how.1
    have hle:(i+1)*s≤es.length*s:=Nat.mul_le_mul_right s h2
    rw[Nat.add_mul] at hle
    have hlt:i*s+(k+j)<xs.length:=by omega
    have hcell2:=how.cells (g:=b') rfl (i*s+(k+j)) xs[i*s+(k+j)] (by simp[hlt])
    rw[add_lit,Nat.zero_add] at hcell2
    have e2:i*s+k+j=i*s+(k+j):=by omega
    rw[e2,hcell2] at hcell
    have e3:c j=xs.getD (i*s+(k+j)) undef:=by
     have:=Option.some.inj hcell
     rw[←this]
     simp[List.getD_eq_getElem?_getD,hlt]
    rw[e1,e3]
    exact(hro i (k+j) h2 hj').mono hF
  ·exact .junk _
 |_=>exact WZ hr h
theorem WY{v:Value}{d:D}(h:Rep (FX X st β w) β w v d):RO (FAll X w) w v (wC st d):=by
 cases d with
 |agg ds=>
  obtain⟨cs,rfl,hl,h1,hrr⟩:=h.jM
  refine .agg _ _ jY h1 (fun i hi=> ?_)
  rw[gy _ rfl]
  exact G6 hr (hrr i iI)
 |clo f ds=>
  obtain⟨cs,rfl,hl,hrr⟩:=h.qR
  refine .clo _ _ _ jY (fun i hi=> ?_)
  rw[gy _ rfl]
  exact G6 hr (hrr i iI)
 |_=>exact G6 hr h
theorem G7{v:Value}{d:D}(h:Rep (FX X st β w) β w v d):RO (FAll X w) w v (view st d):=by
 cases d with
 |aN ds=>
  obtain⟨cs,rfl,hl,hrr⟩:=h.pz
  refine .aN _ _ jY (fun i hi=> ?_)
  rw[gy _ rfl]
  exact WY hr (hrr i iI)
 |_=>exact WY hr h
end
theorem P5{X:Ctx}{f:FuncId}{ds:List D}{st:St}{K:D→St→Prop}{post:D→List Obj→Prop}(hc:ak X.P f st.g 0 [] (ds.map (view st)) post)
 (hk: ∀d os,post d os→flat d=true∧(∀o∈os,iV o)∧K (ren (st.n+ ·) d) (st.join os)):CallS X f ds st K:=by
 refine CallS.mk hc.1 fun β a w vs hr hl hrep=> ?_
 let Xc:Ctx:=⟨X.P,w,FAll X w,fun _=>False,fun _=>none⟩
 have hF0: ∀b,FAll X w b→FX Xc (stOf [] st.g 0) (fun _=>none) w b∧w.heap[b]? =w.heap[b]? :=fun b hb=>⟨⟨hb.1, .inl hb,fun o ho=>absurd ho lM⟩,rfl⟩
 have hW:WRel Xc (stOf [] st.g 0) (fun _=>none) w:=by
  refine⟨fun o x hx=>jX,fun o ho=>absurd ho lM,fun o o' x x' b hx=>jX,fun o x b hx=>jX,KeptL.refl _ _ _,fun g cs hg=>(hr.glob g cs hg).mono (fun b hb=>hF0 b (yG hb)),fun o ho=>absurd ho wE,Nat.zero_le _⟩
 refine(hc.2 Xc (fun _=>none) w vs rfl rfl rfl hW pI (fun i hi=> ?_)).mono ?_
 ·have hi':i<ds.length:=by simpa using hi
  have e:(ds.map (view st)).getD i .junk=view st (ds.getD i .junk):=gy _ rfl _ _
  rw[e]
  exact .ro _ _ ((G7 hr (hrep i hi')).mono hF0)
 ·rintro e w' ⟨v,d,os,β',rfl,hw',hrd,hp,hpost⟩
  obtain⟨hf,hfo,hkk⟩:=hk d os hpost
  obtain⟨hj,_⟩:=hr.Tt (Xc:=Xc) rfl (fun _ hf=>hf) hw' hp (.inr hfo)
  exact⟨v,_,_,_,rfl,hj,hrd.Vs (f:=(st.n+ ·)) (Vu (X:=X)) hf,hkk⟩
end Go.Eng
namespace Go.Eng
open Go Go.RowKit
def force:D→(D→Prop)→Prop
 | .junk,K=>K .junk
 | .int k n,K=>K (.int k n)
 | .bool b,K=>K (.bool b)
 | .str l,K=>K (.str l)
 | .v x,K=>K (.v x)
 | .agg cs,K=>K (.agg cs)
 | .sl s es,K=>K (.sl s es)
 | .rp cs,K=>K (.rp cs)
 | .h o,K=>K (.h o)
 | .hp o k,K=>K (.hp o k)
 | .hr o s i k,K=>K (.hr o s i k)
 | .hs o s a b,K=>K (.hs o s a b)
 | .aN ds,K=>K (.aN ds)
 | .clo f ds,K=>K (.clo f ds)
theorem oN{d:D}{K:D→Prop}(h:force d K):K d:=by cases d<;>exact h
def gK(st:St)(dst:Option Nat)(d:D)(K:St→Prop):Prop:=
 match st,dst with
 |⟨env,nt,objs,g,pin⟩,none=>K ⟨env,nt,objs,g,pin⟩
 |⟨env,nt,objs,g,pin⟩,some t=>bif Nat.blt t nt then K ⟨(t,d)::env,nt,objs,g,pin⟩ else K ⟨env,nt,objs,g,pin⟩
theorem eX{st:St}{dst:Option Nat}{d:D}{K:St→Prop}(h:gK st dst d K):K (st.put dst d):=by
 obtain⟨env,nt,objs,g,pin⟩:=st
 cases dst with
 |none=>exact h
 |some t=>
  unfold gK at h
  unfold St.put
  simp only at h⊢
  cases hb:Nat.blt t nt<;>rw[hb] at h<;>exact h
def Jk:List Obj→Nat→(Nat→Prop)→Prop
 |[],n,K=>K n
 |_::r,n,K=>Jk r (n+1) K
theorem Qj: ∀ {l:List Obj} {n:Nat} {K:Nat→Prop},Jk l n K→K (n+l.length)
 |[],_,_,h=>h
 |_::r,n,K,h=>by
  have:=Qj (l:=r) (n:=n+1) h
  rw[List.length_cons]
  rwa [show n+(r.length+1)=n+1+r.length by omega]
def Ik:List Obj→Obj→(List Obj→Prop)→Prop
 |[],ob,K=>K [ob]
 |x::r,ob,K=>Ik r ob fun l=>K (x::l)
theorem Oj: ∀ {l:List Obj} {ob:Obj} {K:List Obj→Prop},Ik l ob K→K (l++[ob])
 |[],_,_,h=>h
 |x::r,ob,K,h=>Oj (l:=r) (K:=fun l=>K (x::l)) h
def uQ(st:St)(ob:Obj)(K:Nat→St→Prop):Prop:=
 match st with
 |⟨env,nt,objs,g,pin⟩=>Jk objs 0 fun n=>Ik objs ob fun l=>K n ⟨env,nt,l,g,pin⟩
theorem yh{st:St}{ob:Obj}{K:Nat→St→Prop}(h:uQ st ob K):K st.n (st.push ob):=by
 obtain⟨env,nt,objs,g,pin⟩:=st
 have:=Oj (Qj h)
 rw[Nat.zero_add] at this
 exact this
def zC:List Obj→Nat→Obj→(List Obj→Prop)→Prop
 |[],_,_,K=>K []
 |_::r,0,ob,K=>K (ob::r)
 |x::r,n+1,ob,K=>zC r n ob fun l=>K (x::l)
theorem zD: ∀ {l:List Obj} {n:Nat} {ob:Obj} {K:List Obj→Prop},zC l n ob K→K (l.set n ob)
 |[],_,_,_,h=>h
 |_::_,0,_,_,h=>h
 |x::r,n+1,ob,K,h=>zD (l:=r) (n:=n) (K:=fun l=>K (x::l)) h
def vZ(st:St)(o:Nat)(ob:Obj)(K:St→Prop):Prop:=
 match st with
 |⟨env,nt,objs,g,pin⟩=>zC objs o ob fun l=>K ⟨env,nt,l,g,pin⟩
theorem yj{st:St}{o:Nat}{ob:Obj}{K:St→Prop}(h:vZ st o ob K):K (st.setObj o ob):=by
 obtain⟨env,nt,objs,g,pin⟩:=st
 exact zD h
def KW(p:Nat→Bool):List (Nat×D)→(List (Nat×D)→Prop)→Prop
 |[],K=>K []
 |(k,d)::r,K=>force (kill p d) fun d'=>KW p r fun l=>K ((k,d')::l)
theorem TB{p:Nat→Bool} : ∀ {e:List (Nat×D)} {K:List (Nat×D)→Prop},KW p e K→K (killE p e)
 |[],_,h=>h
 |(k,d)::r,K,h=>TB (e:=r) (K:=fun l=>K ((k,kill p d)::l)) (oN h)
def JK:List (Nat×D)→(List (Nat×D)→Prop)→Prop
 |[],K=>K []
 |(k,d)::r,K=>force d fun d'=>JK r fun l=>K ((k,d')::l)
theorem Rh: ∀ {e:List (Nat×D)} {K:List (Nat×D)→Prop},JK e K→K e
 |[],_,h=>h
 |(k,d)::r,K,h=>Rh (e:=r) (K:=fun l=>K ((k,d)::l)) (oN h)
def FP:Obj→(Obj→Prop)→Prop
 | .dead,K=>K .dead
 | .row e s es,K=>K (.row e s es)
 | .box cs,K=>K (.box cs)
 | .frame vs e,K=>JK e fun e=>K (.frame vs e)
 | .blk e s cs c,K=>K (.blk e s cs c)
 | .raw e s es,K=>K (.raw e s es)
 | .map P k e n f,K=>K (.map P k e n f)
theorem JM{o:Obj}{K:Obj→Prop}(h:FP o K):K o:=by
 cases o with
 |frame vs e=>exact Rh (K:=fun e=>K (.frame vs e)) h
 |_=>exact h
def KX(p:Nat→Bool):List Obj→(List Obj→Prop)→Prop
 |[],K=>K []
 |o::r,K=>FP (lF p o) fun o'=>KX p r fun l=>K (o'::l)
theorem TD{p:Nat→Bool} : ∀ {e:List Obj} {K:List Obj→Prop},KX p e K→K (e.map (lF p))
 |[],_,h=>h
 |o::r,K,h=>TD (e:=r) (K:=fun l=>K (lF p o::l)) (JM h)
def St.grow(st:St)(o:Nat)(ob:Obj):St:=St.mk (killE (Nat.beq o) st.env) st.nt ((st.objs.map (lF (Nat.beq o))).set o ob) st.g st.pin
def FU(st:St)(o:Nat)(ob:Obj)(K:St→Prop):Prop:=
 match st with
 |⟨env,nt,objs,g,pin⟩=>KW (Nat.beq o) env fun e=>KX (Nat.beq o) objs fun l=>zC l o ob fun l=>K ⟨e,nt,l,g,pin⟩
theorem RH{st:St}{o:Nat}{ob:Obj}{K:St→Prop}(h:FU st o ob K):K (st.grow o ob):=by
 obtain⟨env,nt,objs,g,pin⟩:=st
 exact zD (TD (TB h))
@[irreducible] def jo(l:List (List D))(K:List (List D)→Prop):Prop:= ∀l',l'=l→K l'
theorem jo.mk{l:List (List D)}{K:List (List D)→Prop}(h:K l):jo l K:=by unfold jo;rintro _ rfl;exact h
theorem jo.to{l:List (List D)}{K:List (List D)→Prop}(l':List (List D))(e:l=l')(h:K l'):jo l K:=by subst e;exact jo.mk h
theorem jo.any{l:List (List D)}{K:List (List D)→Prop}(h: ∀l',l'=l→l'.length=l.length→K l'):jo l K:=by unfold jo;intro l' e;exact h l' e (by rw[e])
theorem jo.out{l:List (List D)}{K:List (List D)→Prop}(h:jo l K):K l:=by unfold jo at h;exact h l rfl
def Ih(P:Program)(st:St)(dst:Option Nat)(t:TypeId)(K:St→Prop):Prop:=
 uX P t fun z=>uQ st (.box z) fun n st=>gK st dst (.hp n 0) K
def Iy(st:St)(dst:Option Nat)(x:D)(K:St→Prop):Prop:=
 bif tN x then uQ st (.box x.cells) fun n st=>gK st dst (.hp n 0) K else False
def BD:List D→Nat→List D→(List D→Prop)→Prop
 |_::r,0,d::ds,K=>BD r 0 ds fun l=>K (d::l)
 |l,0,[],K=>K l
 |c::r,n+1,ds,K=>BD r n ds fun l=>K (c::l)
 |[],_,_,K=>K []
theorem GH: ∀ {l:List D} {n:Nat} {ds:List D} {K:List D→Prop},BD l n ds K→K (gQ l n ds)
 |_::r,0,d::ds,K,h=>GH (l:=r) (n:=0) (ds:=ds) (K:=fun l=>K (d::l)) h
 |l,0,[],K,h=>by
  have e:gQ l 0 ([]:List D)=l:=by cases l<;>rfl
  rw[e]
  cases l<;>exact h
 |c::r,n+1,ds,K,h=>by
  have e:gQ (c::r) (n+1) ds=c::gQ r n ds:=by cases ds<;>rfl
  rw[e]
  have h':BD r n ds fun l=>K (c::l):=by cases ds<;>exact h
  exact GH (l:=r) (n:=n) (ds:=ds) (K:=fun l=>K (c::l)) h'
 |[],0,_::_,K,h=>h
 |[],n+1,ds,K,h=>by
  have e:gQ ([]:List D) (n+1) ds=[]:=by cases ds<;>rfl
  rw[e]
  cases ds<;>exact h
def BH(P:Program)(st:St)(t:TypeId)(a x:D)(K:St→Prop):Prop:=
 match Nat.beq x.cells.length (P.cellsOf t)&&Nat.blt 0 (P.cellsOf t)&&tN x with
 |true=>match a with
  | .hp o k=>match st.obj o with
    | .box cs=>bif Nat.ble (k+x.cells.length) cs.length then BD cs k x.cells fun l=>vZ st o (.box l) K else False
    |_=>False
  | .hr o s i k=>match st.obj o with
    | .row e s' es=>bif Nat.beq s s'&&Nat.ble (k+x.cells.length) s&&x.cells.all cZ then aJ es i fun c=>BD c k x.cells fun l=>vZ st o (.row e s' (es.set i l)) K else False
    | .raw e s' es=>match x.cells with
      |[d]=>bif Nat.beq s 1&&(Nat.beq s' 1&&(Nat.beq k 0&&cZ d)) then aJ es i fun _=>vZ st o (.raw e s' (es.set i [d])) K else False
      |_=>False
    |_=>False
  |_=>False
 |false=>False
@[irreducible] def nG(l c:Int)(bytes:Nat)(K:Nat→Prop):Prop:=0≤l∧l≤c∧(bytes:Int)*c≤281474976710656∧c≤9223372036854775807∧K l.toNat
theorem nG.mk{l c:Int}{bytes:Nat}{K:Nat→Prop}(h:0≤l∧l≤c∧(bytes:Int)*c≤281474976710656∧c≤9223372036854775807∧K l.toNat):nG l c bytes K:=by unfold nG;exact h
theorem nG.out{l c:Int}{bytes:Nat}{K:Nat→Prop}(h:nG l c bytes K):0≤l∧l≤c∧(bytes:Int)*c≤281474976710656∧c≤9223372036854775807∧K l.toNat:=by unfold nG at h;exact h
def Lh(P:Program)(st:St)(dst:Option Nat)(t:TypeId)(l c:D)(K:St→Prop):Prop:=
 match P.underlying t with
 |some (.slice e)=>uX P e fun z=>bif Nat.beq z.length (P.cellsOf e)&&z.all cZ&&Nat.blt 0 (P.cellsOf e) then
  (match l,c with
  | .int _ l, .int _ c=>nG l c (P.bytesOf e) fun n=>uQ st (.row e (P.cellsOf e) (List.replicate n z)) fun m st=>gK st dst (.h m) K
  |_,_=>False) else False
 |_=>False
def JL:List D→(List D→Prop)→Prop
 |[],K=>K []
 |d::r,K=>force d fun d=>JL r fun l=>K (d::l)
theorem Ri: ∀ {l:List D} {K:List D→Prop},JL l K→K l
 |[],_,h=>h
 |d::r,K,h=>Ri (l:=r) (K:=fun l=>K (d::l)) (oN h)
def Et(s:Nat):Nat→List (Nat×D)→(List (List D)→Prop)→Prop
 |_,[],K=>K []
 |i,(j,d)::r,K=>bif Nat.beq i j&&Nat.beq d.cells.length s&&tN d&&d.cells.all cZ then JL d.cells fun c=>Et s (i+1) r fun l=>K (c::l) else False
def IB(P:Program)(st:St)(dst:Option Nat)(t:TypeId)(len:Nat)(parts:List (Nat×D))(K:St→Prop):Prop:=
 match P.underlying t with
 |some (.slice e)=>uX P e fun z=>bif Nat.beq z.length (P.cellsOf e)&&Nat.blt 0 (P.cellsOf e)&&Nat.beq parts.length len&&Nat.ble (len*P.cellsOf e) 16777216 then
  Et (P.cellsOf e) 0 parts fun es=>uQ st (.row e (P.cellsOf e) es) fun m st=>gK st dst (.h m) K else False
 |_=>False
def wS(st:St)(s:Nat)(x:D)(K:List (List D)→Prop):Prop:=
 match x with
 | .sl s' es=>bif Nat.beq s' s then K es else False
 | .h o=>match st.obj o with
   | .row _ s' es=>bif Nat.beq s' s then K es else False
   |_=>False
 | .hs o s2 a b=>match st.obj o with
   | .row _ s' es=>bif Nat.beq s' s&&Nat.beq s2 s then fF (b≤es.length) (K ((es.drop a).take (b-a))) else False
   | .blk _ s' es _=>bif Nat.beq s' s&&Nat.beq s2 s then fF (b≤es.length) (K ((es.drop a).take (b-a))) else False
   |_=>False
 | .v (.slice none 0 0)=>K []
 |_=>False
def Ip(P:Program)(st:St)(dst:Option Nat)(t:TypeId)(b x:D)(K:St→Prop):Prop:=
 match P.underlying t with
 |some (.slice e)=>uX P e fun z=>bif Nat.beq z.length (P.cellsOf e)&&Nat.blt 0 (P.cellsOf e)&&Nat.blt 0 (P.bytesOf e) then
  wS st (P.cellsOf e) x fun xs=>
   (match b with
   | .h o=>match st.obj o with
     | .row e' s es=>bif Nat.beq e e'&&Nat.beq s (P.cellsOf e)&&Nat.ble st.pin o then
        bZ ((es.length+xs.length)*P.bytesOf e≤140737488355328) (FU st o (.row e' s (es++xs)) fun st=>gK st dst (.h o) K) else False
     |_=>False
   | .v (.slice none 0 0)=>bZ (xs.length*P.bytesOf e≤140737488355328) (uQ st (.row e (P.cellsOf e) xs) fun m st=>gK st dst (.h m) K)
   |_=>False) else False
 |_=>False
end Go.Eng
namespace Go.Eng
open Go Go.RowKit
def PostR(X:Ctx)(K:St→Prop)(a:Act)(w:World):Prop:= ∃st β,K st∧Rel X st β a w
theorem kP{P:Program}{o:Oper}{a:Act}{w w':World}{K:Act→World→Prop}{Q:Exit→Act→World→Prop}{v:Value}
 (h:(execOp a.eval o).run P w= .ok (.value v) w')(hk:K (a.put o.dst v) w'):o.wp P a w K Q:=by
 unfold Oper.wp;rw[h];exact hk
theorem N8{P:Program}{o:Oper}{a:Act}{w w':World}{K:Act→World→Prop}{Q:Exit→Act→World→Prop}
 (h:(execOp a.eval o).run P w= .ok .skip w')(hk:K (a.put o.dst undef) w'):o.wp P a w K Q:=by
 unfold Oper.wp;rw[h];exact hk
theorem jK.mono{F F':Nat→Prop}{β β':Nat→Option Value}{w w':World}{vs:List Value}{ds:List D}(hF: ∀b,F b→F' b∧w'.heap[b]? =w.heap[b]?)
 (hβ: ∀o x,β o=some x→β' o=some x)(h:jK F β w vs ds):jK F' β' w' vs ds:=
 ⟨h.1,h.2.1,fun j hj=>(h.2.2 j hj).mono hF hβ⟩
theorem FV(w:World)(o:Go.Obj):(w.alloc o).heap[w.heap.size]? =some o:=heap_alloc_new w o
section
variable {X:Ctx} {st:St} {β:Nat→Option Value} {a:Act} {w:World} {K:St→Prop} {Q:Exit→Act→World→Prop}
theorem Rel.Uw(h:Rel X st β a w){cs:List D}{vs:Array Value}(T:TypeId)(hc:jK (FX X st β w) β w vs.toList cs):
 Rel X (st.push (.box cs)) (dY β st.n (.pointer (some ⟨w.heap.size,0,none⟩))) a (w.alloc (.cells vs T)):=by
 refine h.newObj (World.grownBy_alloc w _ none) (.box cs) trivial _ (fun b hb=>by simp[blk] at hb;omega) (fun F' β' hF hβ=> ?_)
 have hc':=hc.mono hF hβ
 exact⟨w.heap.size,vs,T,rfl,FV _ _,by simpa using hc'.1,hc'.2.1,hc'.2.2⟩
theorem zx(h:Rel X st β a w)(ob:Obj)(x:Value)(F:Nat→Prop)(w':World):Rep F (dY β st.n x) w' x (.h st.n):= .h _ _ (by simp[dY])
theorem Vy(β:Nat→Option Value)(n b k:Nat)(F:Nat→Prop)(w':World):Rep F (dY β n (.pointer (some ⟨b,0,none⟩))) w' (.pointer (some ⟨b,k,none⟩)) (.hp n k):=
 .hp n k b (.pointer (some ⟨b,0,none⟩)) (by simp[dY]) rfl
theorem Xy{o:Oper}{t:TypeId}(ho:o.op= .alloc t)(h:Ih X.P st o.dst t K)(hr:Rel X st β a w):o.wp X.P a w (PostR X K) Q:=by
 unfold Ih at h
 obtain⟨z,i,hi,hz,hf,hk,lW⟩:=yC h
 have hk:=eX (yh hk)
 have hn:=hr.Uw t (xM (F:=FX X st β w) (β:=β) (w:=w) hf)
 refine kP (v:= .pointer (some ⟨w.heap.size,0,none⟩)) (w':=w.alloc (.cells z.cells t)) ?_ ⟨_,_,hk,hn.put _ (Vy _ _ _ _ _ _)⟩
 simp[execOp,ho,Instr.alloc,lW,newVar,newRow]
theorem X7{o:Oper}{t:TypeId}{x:Operand}(ho:o.op= .box t x)(h:Iy st o.dst (st.ev x) K)(hr:Rel X st β a w):o.wp X.P a w (PostR X K) Q:=by
 unfold Iy at h
 cases hb:tN (st.ev x) with
 |false=>rw[hb] at h;exact h.elim
 |true=>
  rw[hb] at h
  simp only[cond_true] at h
  have hk:=eX (yh h)
  have hn:=hr.Uw t (hr.Dj hb (hr.ev x))
  refine kP (v:= .pointer (some ⟨w.heap.size,0,none⟩)) (w':=w.alloc (.cells (a.eval x).cells t)) ?_ ⟨_,_,hk,hn.put _ (Vy _ _ _ _ _ _)⟩
  simp[execOp,ho,Instr.box,newVar,newRow]
theorem agD{α:Type}(l:List α)(k:Nat)(ds:List α)(h:k+ds.length≤l.length):gQ l k ds=l.take k++ds++l.drop (k+ds.length):=by
 apply List.ext_getElem?
 intro i
 rw[(rM l k ds h).2 i]
 rw[List.append_assoc,List.getElem?_append]
 simp only[List.length_take,Nat.min_eq_left (show k≤l.length by omega)]
 by_cases h1:i<k
 ·rw[if_neg ah,if_pos h1,List.getElem?_take_of_lt h1]
 ·rw[if_neg h1,List.getElem?_append]
  by_cases h2:i-k<ds.length
  ·rw[if_pos ah,if_pos h2]
  ·rw[if_neg ah,if_neg h2,List.getElem?_drop]
   congr 1
   omega
theorem agy{P:Program}{t:TypeId}{g off:Nat}{cur:Array Value}{T:TypeId}{w:World}{v:Value}(hg:w.heap[g]? =some (.cells cur T (0,0)))(hs:v.cells.size=P.cellsOf t)(h0:Nat.beq (P.cellsOf t) 0=false)
 (hl:off+v.cells.size≤cur.size)(h1: ∀u∈v.cells.toList,u.oneCell'=true):
 (storeVar t ⟨g,off,none⟩ v).run P w= .ok () (w.setRow g (gQ cur.toList off v.cells.toList).toArray):=by
 have:=run_storeCells_at P g off T v.cells.toList 0 cur w hg pI h1
 simp only[storeVar,Sem.run_bind,o7 h0,Result.andThen_ok]
 rw[if_neg (by simpa using hs),this,agD _ _ _ pI]
 simp
theorem yX(w:World)(g:Nat)(cs:Array Value):w.grownBy (w.setRow g cs) (some g):=
 ⟨rfl,rfl,rfl,by simp,fun k _ hk=>setRow_other w g k _ (fun e=>hk (by rw[e]))⟩
theorem agz{P:Program}{t:TypeId}{g off m:Nat}{cur:Array Value}{T:TypeId}{w:World}{v u:Value}(hg:w.heap[g]? =some (.cells cur T (m,m+1)))(hm:cur.size≤m)(h1:P.cellsOf t=1)
 (hl:off<cur.size)(hu:v.cells.toList=[u])(ho:u.oneCell'=true):(storeVar t ⟨g,off,none⟩ v).run P w= .ok () (w.setRow g (cur.setIfInBounds off u)):=by
 have hcell:w.cell? ⟨g,off,none⟩=some cur[off]:=by simp[World.cell?,hg,hl]
 have hfro:w.frozen? ⟨g,off,none⟩=false:=by
  simp only[World.frozen?,hg,Bool.and_eq_false_iff,decide_eq_false_iff_not]
  left
  omega
 have hst:(store ((⟨g,off,none⟩:Addr).add 0) u).run P w= .ok () (w.setRow g (cur.setIfInBounds off u)):=by
  rw[add_lit,Nat.add_zero,run_store P w _ u _ ho,hcell]
  simp[hfro,setCell_eq_setRow w g off cur T (m,m+1) u hg]
 have hs:v.cells.size=P.cellsOf t:=by
  have:v.cells.toList.length=1:=by rw[hu];rfl
  rw[h1];simpa using this
 simp only[storeVar,Sem.run_bind,o7 (lQ (by omega:P.cellsOf t≠0)),Result.andThen_ok]
 rw[if_neg (by simpa using hs),hu]
 simp only[storeCells,Sem.run_bind,hst,Result.andThen_ok]
 rfl
theorem Wx{o:Oper}{t:TypeId}{p x:Operand}(ho:o.op= .store t p x)(hd:o.dst=none)(h:BH X.P st t (st.ev p) (st.ev x) K)(hr:Rel X st β a w):o.wp X.P a w (PostR X K) Q:=by
 unfold BH at h
 split at h
 ·rename_i hb
  simp only[Bool.and_eq_true] at hb
  obtain⟨⟨h1,h2⟩,h3⟩:=hb
  have h1:=Nat.eq_of_beq_eq_true h1
  have h2:0<X.P.cellsOf t:=by simpa[Nat.blt_eq] using h2
  have h0:Nat.beq (X.P.cellsOf t) 0=false:=lQ ah
  have hx:=hr.Dj h3 (hr.ev x)
  have hxs:(a.eval x).cells.size=(st.ev x).cells.length:=by have:=hx.1;simpa using this
  have DC:=hr.ev p
  have main: ∀(g off:Nat) (cur:Array Value) (T:TypeId),a.eval p= .pointer (some ⟨g,off,none⟩)→w.heap[g]? =some (.cells cur T (0,0))→off+(st.ev x).cells.length≤cur.size→
   PostR X K a (w.setRow g (gQ cur.toList off (a.eval x).cells.toList).toArray)→o.wp X.P a w (PostR X K) Q:=by
   intro g off cur T hv hg hl hk
   refine N8 (w':=w.setRow g (gQ cur.toList off (a.eval x).cells.toList).toArray) ?_ (by rw[hd];exact hk)
   have:=agy (P:=X.P) (t:=t) (off:=off) (v:=a.eval x) hg ah h0 ah hx.2.1
   simp[execOp,ho,hv,Instr.storeAt,Instr.sureAddr,this]
  split at h
  ·rename_i oo k hp
   rw[hp] at DC
   split at h
   ·rename_i cs hob
    cases hb2:Nat.ble (k+(st.ev x).cells.length) cs.length with
    |false=>rw[hb2] at h;exact h.elim
    |true=>
     rw[hb2] at h
     have hkl:k+(st.ev x).cells.length≤cs.length:=by simpa using hb2
     have hk:=yj (GH h)
     obtain⟨b,y,hy,hyb,hv⟩:=DC.xX
     obtain⟨b',c,T,rfl,hg,hs,hone,hrep⟩:=hr.box hob hy
     simp[blk] at hyb
     subst hyb
     refine main b' k c T hv hg ah ⟨_,β,hk,hr.store hy (yX w b' _) _ trivial (fun F' hF=> ?_)⟩
     have hc0:jK (FX X st β w) β w c.toList cs:=⟨by simpa using hs,hone,hrep⟩
     have hc:=(hc0.gQ hx hkl).mono hF (fun _ _ h=>h)
     exact⟨b',_,T,rfl,setRow_heap w b' c _ T _ hg,by simpa using hc.1,by simpa using hc.2.1,by simpa using hc.2.2⟩
   ·exact h.elim
  ·rename_i oo s i k hp
   rw[hp] at DC
   split at h
   ·rename_i e s' es hob
    cases hb2:(Nat.beq s s'&&Nat.ble (k+(st.ev x).cells.length) s&&(st.ev x).cells.all cZ) with
    |false=>rw[hb2] at h;exact h.elim
    |true=>
     rw[hb2] at h
     simp only[Bool.and_eq_true] at hb2
     obtain⟨⟨g1,g2⟩,g3⟩:=hb2
     have g1:=Nat.eq_of_beq_eq_true g1
     subst g1
     have g2:k+(st.ev x).cells.length≤s:=by simpa using g2
     obtain⟨i',hi',hlt,hk⟩:=aJ.out h
     have hii:i=i':=by omega
     subst hii
     have hk:=yj (GH hk)
     obtain⟨b,y,hy,hyb,hv⟩:=DC.xY
     obtain⟨hm,hls,xs,how,hone,hro⟩:=hr.row hob hy
     rcases how.2 with⟨rfl,hn⟩|⟨g,cap,cur,rfl,hbase,hg,hnc,hcm,hcs,htk⟩
     ·omega
     ·simp[blk] at hyb
      subst hyb
      have hxl:xs.length=es.length*s:=how.1
      have hle:(i+1)*s≤es.length*s:=Nat.mul_le_mul_right s hlt
      rw[Nat.add_mul,Nat.one_mul] at hle
      have hcl:es.length*s≤cap*s:=Nat.mul_le_mul_right s hnc
      have hfit:i*s+k+(st.ev x).cells.length≤cur.size:=by omega
      have hvl:(a.eval x).cells.toList.length=(st.ev x).cells.length:=hx.1
      refine main g (i*s+k) cur e hv hg hfit ⟨_,β,hk,hr.store hy (yX w g _) _ trivial (fun F' hF=> ?_)⟩
      have adL:i*s+k+(a.eval x).cells.toList.length≤cur.toList.length:=by rw[hvl];simpa using hfit
      have adM:i*s+k+(a.eval x).cells.toList.length≤xs.length:=by omega
      have hspec:=rM cur.toList (i*s+k) (a.eval x).cells.toList adL
      have FZ:=rM xs (i*s+k) (a.eval x).cells.toList adM
      have jc:(es.getD i []).length=s:=hls i hlt
      have adN:k+(st.ev x).cells.length≤(es.getD i []).length:=by omega
      have Sz:=rM (es.getD i []) k (st.ev x).cells adN
      have htake:(gQ cur.toList (i*s+k) (a.eval x).cells.toList).take (es.length*s)=gQ xs (i*s+k) (a.eval x).cells.toList:=by
       apply List.ext_getElem?
       intro j
       rw[List.getElem?_take,hspec.2 j,FZ.2 j,←htk,List.getElem?_take]
       by_cases hj:j<es.length*s
       ·simp[hj]
       ·simp only[hj,if_false]
        rw[if_neg ah]
      have RX: ∀j,(es.set i (gQ (es.getD i []) k (st.ev x).cells)).getD j []=if j=i then gQ (es.getD i []) k (st.ev x).cells else es.getD j []:=by
       intro j
       simp only[List.getD_eq_getElem?_getD]
       by_cases hj:j=i
       ·subst hj;rw[if_pos rfl,List.getElem?_set_self hlt];rfl
       ·rw[if_neg hj,List.getElem?_set_ne (Ne.symm hj)]
      refine⟨by simpa using hm,fun j hj=> ?_,gQ xs (i*s+k) (a.eval x).cells.toList,⟨by rw[FZ.1,List.length_set];exact hxl, .inr ⟨g,cap,_,by rw[List.length_set],hbase,setRow_heap w g cur _ e _ hg,by rw[List.length_set];exact hnc,hcm,by simp[hspec.1,hcs],by rw[List.length_set];simpa using htake⟩⟩,fun u hu=> ?_,fun j m hj hmm=> ?_⟩
      ·rw[RX]
       split
       ·rw[Sz.1];exact jc
       ·exact hls j qP
      ·obtain⟨q,hq⟩:=List.mem_iff_getElem?.1 hu
       rw[FZ.2 q] at hq
       split at hq
       ·exact hx.2.1 u (List.mem_iff_getElem?.2 ⟨_,hq⟩)
       ·exact hone u (List.mem_iff_getElem?.2 ⟨_,hq⟩)
      ·have hj':j<es.length:=by simpa using hj
       rw[RX,List.getD_eq_getElem?_getD,FZ.2]
       by_cases hji:j=i
       ·subst hji
        rw[if_pos rfl,List.getD_eq_getElem?_getD,Sz.2]
        by_cases hin:k≤m∧m<k+(st.ev x).cells.length
        ·rw[if_pos hin,if_pos ah]
         have e1:j*s+m-(j*s+k)=m-k:=by omega
         rw[e1,←List.getD_eq_getElem?_getD,←List.getD_eq_getElem?_getD]
         have hmk:m-k<(st.ev x).cells.length:=by omega
         exact((hx.2.2 (m-k) hmk).cZ (List.all_eq_true.1 g3 _ (getD_mem hmk))).mono hF
        ·rw[if_neg hin,if_neg ah,←List.getD_eq_getElem?_getD,←List.getD_eq_getElem?_getD]
         exact(hro j m hj' hmm).mono hF
       ·rw[if_neg hji,if_neg,←List.getD_eq_getElem?_getD]
        ·exact(hro j m hj' hmm).mono hF
        ·intro hc
         rcases Nat.lt_or_ge j i with hlt'|hge
         ·have:(j+1)*s≤i*s:=Nat.mul_le_mul_right s hlt'
          rw[Nat.add_mul,Nat.one_mul] at this
          omega
         ·have:(i+1)*s≤j*s:=Nat.mul_le_mul_right s ah
          rw[Nat.add_mul,Nat.one_mul] at this
          omega
   ·rename_i e s' es hob
    split at h
    ·rename_i d hxd
     cases hb2:(Nat.beq s 1&&(Nat.beq s' 1&&(Nat.beq k 0&&cZ d))) with
     |false=>rw[hb2] at h;exact h.elim
     |true=>
      rw[hb2] at h
      simp only[Bool.and_eq_true] at hb2
      obtain⟨g1,g1',g2,g3⟩:=hb2
      have g1:=Nat.eq_of_beq_eq_true g1
      subst g1
      have g1':=Nat.eq_of_beq_eq_true g1'
      subst g1'
      have g2:=Nat.eq_of_beq_eq_true g2
      subst g2
      obtain⟨i',hi',hlt,hk⟩:=aJ.out h
      have hii:i=i':=by omega
      subst hii
      have hk:=yj hk
      obtain⟨b,y,hy,hyb,hv⟩:=DC.xY
      obtain⟨g,cap,cur,m,rfl,hg,hcm,hcc,hcs,hls,hro⟩:=hr.Ba hob hy
      simp[blk] at hyb
      subst hyb
      rw[hxd] at hx h1
      obtain⟨u,hu⟩: ∃u,(a.eval x).cells.toList=[u]:=List.length_eq_one_iff.1 hx.1
      have hou:u.oneCell'=true:=hx.2.1 u (by rw[hu];simp)
      have hru:Rep (FX X st β w) β w u d:=by
       have:=hx.2.2 0 fB
       rw[hu] at this
       simpa using this
      have hlt2:i<cur.size:=by omega
      have hv2:a.eval p= .pointer (some ⟨g,i,none⟩):=by rw[hv];simp
      have hstep:PostR X K a (w.setRow g (cur.setIfInBounds i u))→o.wp X.P a w (PostR X K) Q:=fun hkk=>by
       refine N8 (w':=w.setRow g (cur.setIfInBounds i u)) ?_ (by rw[hd];exact hkk)
       have:=agz (P:=X.P) (t:=t) (v:=a.eval x) hg hcm h1.symm hlt2 hu hou
       simp[execOp,ho,hv2,Instr.storeAt,Instr.sureAddr,this]
      refine hstep ⟨_,β,hk,hr.store hy (yX w g _) _ trivial (fun F' hF=> ?_)⟩
      ·refine⟨g,cap,_,m,by rw[List.length_set],setRow_heap w g cur _ e _ hg,by simpa using hcm,by rw[List.length_set];exact hcc,by simpa using hcs,fun j hj=> ?_,fun j q hj hq=> ?_⟩
       ·have hj':j<es.length:=by simpa using hj
        by_cases hji:j=i
        ·subst hji;simp[List.getD_eq_getElem?_getD,hlt]
        ·have:=hls j hj'
         rw[List.getD_eq_getElem?_getD] at this⊢
         rw[List.getElem?_set_ne (Ne.symm hji)]
         exact this
       ·have hj':j<es.length:=by simpa using hj
        have hq0:q=0:=by omega
        subst hq0
        by_cases hji:j=i
        ·subst hji
         have e1:(cur.setIfInBounds j u).toList.getD (j*1+0) undef=u:=by simp[List.getD_eq_getElem?_getD,hlt2]
         have e2:((es.set j [d]).getD j []).getD 0 .junk=d:=by simp[List.getD_eq_getElem?_getD,hlt]
         rw[e1,e2]
         exact⟨hou,(hru.cZ g3).mono hF⟩
        ·have:=hro j 0 hj' ah
         have e1:(cur.setIfInBounds i u).toList.getD (j*1+0) undef=cur.toList.getD (j*1+0) undef:=by
          simp only[List.getD_eq_getElem?_getD,Array.toList_setIfInBounds]
          rw[List.getElem?_set_ne ah]
         have e2:(es.set i [d]).getD j []=es.getD j []:=by
          simp only[List.getD_eq_getElem?_getD]
          rw[List.getElem?_set_ne (Ne.symm hji)]
         rw[e1,e2]
         exact⟨this.1,this.2.mono hF⟩
    ·exact h.elim
   ·exact h.elim
  ·exact h.elim
 ·exact h.elim
end
end Go.Eng
namespace Go.Eng
open Go Go.RowKit
section
variable {X:Ctx} {st:St} {β:Nat→Option Value} {a:Act} {w:World} {K:St→Prop} {Q:Exit→Act→World→Prop}
theorem Rel.zu(h:Rel X st β a w){w':World}{e:TypeId}{s:Nat}{es:List (List D)}{x:Value}(hg:w.grownBy w' none)(hx: ∀b,blk x=some b→w.heap.size≤b)
 (hown: ∀F',(∀b,FX X st β w b→F' b∧w'.heap[b]? =w.heap[b]?)→gu F' w' e s es x):Rel X (st.push (.row e s es)) (dY β st.n x) a w':=
 h.newObj hg (.row e s es) trivial x hx (fun F' _ hF _=>hown F' hF)
theorem aeQ{o:Oper}{t:TypeId}{l c:Operand}(ho:o.op= .makeSlice t l c)(h:Lh X.P st o.dst t (st.ev l) (st.ev c) K)(hr:Rel X st β a w):o.wp X.P a w (PostR X K) Q:=by
 unfold Lh at h
 split at h
 ·rename_i e ht
  obtain⟨z,i,hi,hz,hf,hk,lW⟩:=yC h
  clear h
  cases hb:(Nat.beq (fQ z).cells.length (X.P.cellsOf e)&&(fQ z).cells.all cZ&&Nat.blt 0 (X.P.cellsOf e)) with
  |false=>rw[hb] at hk;exact hk.elim
  |true=>
   rw[hb] at hk
   simp only[Bool.and_eq_true] at hb
   obtain⟨⟨h1,h2⟩,h3⟩:=hb
   have h1:=Nat.eq_of_beq_eq_true h1
   have h3:0<X.P.cellsOf e:=by simpa[Nat.blt_eq] using h3
   simp only[cond_true] at hk
   split at hk
   ·rename_i kl li kc ci hl hc
    obtain⟨g0,g1,g2,g3,hk⟩:=nG.out hk
    have hk:=eX (yh hk)
    have hel:=hr.ev l
    rw[hl] at hel
    have xU:=hr.ev c
    rw[hc] at xU
    have hsz:i.size=X.P.cellsOf e:=by simp[Program.cellsOf,hi]
    have hby:i.bytes=X.P.bytesOf e:=by simp[Program.bytesOf,hi]
    have hrun:=run_make (P:=X.P) w t e i z ht hi hz kl kc li ci g0 g1 (by rw[hby];exact g2) g3
    have hzc:jK (fun _=>False) (fun _=>none) w z.cells.toList (fQ z).cells:=xM hf
    have hzs:z.cells.size=X.P.cellsOf e:=by have:=hzc.1;simp at this;omega
    have hcells: ∀j,j<ci.toNat*i.size→(madeCells z.cells (ci.toNat*i.size))[j]? =some (z.cells.toList.getD (j % X.P.cellsOf e) undef):=by
     intro j hj
     have hm:j % X.P.cellsOf e<z.cells.size:=by rw[hzs];exact Nat.mod_lt _ h3
     simp[madeCells,hj,hzs]
     rw[hzs] at hm
     have hm':j % X.P.cellsOf e<z.cells.size:=by omega
     simp[hm']
    have hn:=hr.zu (e:=e) (s:=X.P.cellsOf e) (es:=List.replicate li.toNat (fQ z).cells) (x:= .slice (some ⟨w.heap.size,0,none⟩) li.toNat ci.toNat) (World.grownBy_alloc w (.cells (madeCells z.cells (ci.toNat*i.size)) e) none)
     (fun b hb=>by simp[blk] at hb;omega) (fun F' hF=> ?_)
    ·refine kP ?_ ⟨_,_,hk,hn.put _ (zx hr (.row e (X.P.cellsOf e) (List.replicate li.toNat (fQ z).cells)) _ _ _)⟩
     simp[execOp,ho,hel.eU,xU.eU,hrun]
    ·have hgd: ∀j,j<li.toNat→(List.replicate li.toNat (fQ z).cells).getD j []=(fQ z).cells:=by
      intro j hj;simp[List.getD_eq_getElem?_getD,hj]
     have hle:li.toNat≤ci.toNat:=by omega
     have hmul:li.toNat*X.P.cellsOf e≤ci.toNat*i.size:=by rw[hsz];exact Nat.mul_le_mul_right _ hle
     refine⟨by simp[maxLen];omega,fun j hj=>by rw[hgd j qP];exact h1,((madeCells z.cells (ci.toNat*i.size)).toList.take (li.toNat*X.P.cellsOf e)),⟨?_, .inr ⟨w.heap.size,ci.toNat,_,by simp,Nat.zero_le _,FV w _,by simpa using hle,by simp[maxLen];omega,by rw[size_madeCells,hsz],by simp⟩⟩,fun u hu=> ?_,fun j m hj hm=> ?_⟩
     ·simp[size_madeCells];omega
     ·have hu':=List.mem_of_mem_take hu
      obtain⟨q,hq⟩:=List.mem_iff_getElem?.1 hu'
      have y7:q<ci.toNat*i.size:=by
       have:=(List.getElem?_eq_some_iff.1 hq).1
       simpa[size_madeCells] using this
      rw[Array.getElem?_toList,hcells q y7] at hq
      cases hq
      exact hzc.2.1 _ (getD_mem (by simp;rw[hzs];exact Nat.mod_lt _ h3))
     ·have hj':j<li.toNat:=by simpa using hj
      rw[hgd j hj']
      have hjm:j*X.P.cellsOf e+m<li.toNat*X.P.cellsOf e:=by
       have:(j+1)*X.P.cellsOf e≤li.toNat*X.P.cellsOf e:=Nat.mul_le_mul_right _ hj'
       rw[Nat.add_mul,Nat.one_mul] at this
       omega
      rw[List.getD_eq_getElem?_getD,List.getElem?_take_of_lt hjm,Array.getElem?_toList,hcells _ ah]
      have hmod:(j*X.P.cellsOf e+m) % X.P.cellsOf e=m:=by rw[Nat.mul_comm,Nat.mul_add_mod,Nat.mod_eq_of_lt hm]
      rw[hmod]
      have hm2:m<(fQ z).cells.length:=by omega
      have:=(xM (F:=F') (β:=fun _=>none) (w:=w.alloc (.cells (madeCells z.cells (ci.toNat*i.size)) e)) hf).2.2 m hm2
      exact this.cZ (List.all_eq_true.1 h2 _ (getD_mem hm2))
   ·exact hk.elim
 ·exact h.elim
theorem Nb(s:Nat)(β:Nat→Option Value): ∀ {ps:List (Nat×Operand)} {i:Nat} {K:List (List D)→Prop},Et s i (ps.map fun p=>(p.1,st.ev p.2)) K→
 ∃es,K es∧es.length=ps.length∧(∀j,j<es.length→(es.getD j []).length=s)∧(∀j,(h:j<ps.length)→(ps[j]).1=i+j∧es.getD j []=(st.ev (ps[j]).2).cells∧tN (st.ev (ps[j]).2)=true∧(st.ev (ps[j]).2).cells.all cZ=true)
 |[],i,K,h=>⟨[],h,rfl,fun j hj=>by simp at hj,fun j hj=>by simp at hj⟩
 |(j0,x)::ps,i,K,h=>by
  simp only[List.map_cons,Et] at h
  cases hb:(Nat.beq i j0&&Nat.beq (st.ev x).cells.length s&&tN (st.ev x)&&(st.ev x).cells.all cZ) with
  |false=>rw[hb] at h;exact h.elim
  |true=>
   rw[hb] at h
   simp only[Bool.and_eq_true] at hb
   obtain⟨⟨⟨h1,h2⟩,h3⟩,h4⟩:=hb
   have h1:=Nat.eq_of_beq_eq_true h1
   have h2:=Nat.eq_of_beq_eq_true h2
   simp only[cond_true] at h
   obtain⟨es,hk,hl,hs,hp⟩:=Nb s β (Ri h)
   refine⟨_,hk,by simp[hl],fun j hj=> ?_,fun j hj=> ?_⟩
   ·cases j with
    |zero=>exact h2
    |succ j=>exact hs j qP
   ·cases j with
    |zero=>exact⟨by simp[h1],rfl,h3,h4⟩
    |succ j=>
     have:=hp j qP
     refine⟨by simp only[List.getElem_cons_succ];omega,this.2.1,this.2.2.1,this.2.2.2⟩
theorem JE{P:Program}{s:Nat}{ρ:Operand→Value} : ∀(ps:List (Nat×Operand)) (i:Nat) (vc:Array Value),(∀j,(h:j<ps.length)→(ps[j]).1=i+j∧(ρ (ps[j]).2).cells.size=s)→i*s+ps.length*s=vc.size→
 ∃uo,Instr.fill (fun i=>some (i*s,s)) vc (ps.map fun p=>(p.1,ρ p.2))=some uo∧uo.size=vc.size∧(∀q,q<i*s→uo[q]? =vc[q]?)∧
  ∀j,(h:j<ps.length)→ ∀m,m<s→uo[(i+j)*s+m]? =(ρ (ps[j]).2).cells[m]?
 |[],i,vc,_,_=>⟨vc,rfl,rfl,fun _ _=>rfl,fun j hj=>by simp at hj⟩
 |(j0,x)::ps,i,vc,hp,hl=>by
  obtain⟨h1,h2⟩:=hp 0 fB
  simp only[List.getElem_cons_zero,Nat.add_zero] at h1 h2
  subst h1
  have hl':j0*s+(ps.length*s+s)=vc.size:=by
   rw[←hl,List.length_cons,Nat.add_mul,Nat.one_mul]
  have hset:=foldl_set (j0*s) (ρ x).cells.toList 0 vc nX
  rw[Nat.add_zero] at hset
  have hfit:j0*s+(ρ x).cells.toList.length≤vc.toList.length:=by simp;omega
  have hspec:=rM vc.toList (j0*s) (ρ x).cells.toList hfit
  let EI:=(ρ x).cells.zipIdx.foldl (fun cs p=>cs.setIfInBounds (j0*s+p.2) p.1) vc
  have SB:EI.toList=gQ vc.toList (j0*s) (ρ x).cells.toList:=by
   rw[←hset]
   congr 1
   simp only[EI]
   rw[←Array.foldl_toList]
   simp
  have hsz1:EI.size=vc.size:=by
   have:=congrArg List.length SB
   rw[hspec.1] at this
   simpa using this
  have RV: ∀q,EI[q]? =if j0*s≤q∧q<j0*s+s then(ρ x).cells[q-j0*s]? else vc[q]? :=by
   intro q
   rw[←Array.getElem?_toList,SB,hspec.2 q]
   simp[h2]
  obtain⟨uo,hf,hs',hlow,hnew⟩:=JE (P:=P) (s:=s) (ρ:=ρ) ps (j0+1) EI (fun j hj=>by
   have:=hp (j+1) qP
   simp only[List.getElem_cons_succ] at this
   exact⟨by omega,this.2⟩) (by rw[hsz1,Nat.add_mul,Nat.one_mul];omega)
  refine⟨uo,?_,by rw[hs',hsz1],fun q hq=> ?_,fun j hj m hm=> ?_⟩
  ·simp only[List.map_cons,Instr.fill]
   rw[if_neg nX]
   exact hf
  ·rw[hlow q (by rw[Nat.add_mul,Nat.one_mul];omega),RV,if_neg ah]
  ·cases j with
   |zero=>
    rw[hlow _ (by rw[Nat.add_zero,Nat.add_mul,Nat.one_mul];omega),RV,if_pos (by rw[Nat.add_zero];omega)]
    simp only[Nat.add_zero,List.getElem_cons_zero]
    congr 1
    omega
   |succ j=>
    have:=hnew j qP m hm
    simp only[List.getElem_cons_succ]
    rw[←this]
    congr 3
    omega
theorem Yd{o:Oper}{t:TypeId}{len:Nat}{parts:Array (Nat×Operand)}(ho:o.op= .buildSlice t len parts)(h:IB X.P st o.dst t len (parts.toList.map fun p=>(p.1,st.ev p.2)) K)(hr:Rel X st β a w):
 o.wp X.P a w (PostR X K) Q:=by
 unfold IB at h
 split at h
 ·rename_i e ht
  obtain⟨z,i,hi,hz,hf,hk,lW⟩:=yC h
  clear h
  cases hb:(Nat.beq (fQ z).cells.length (X.P.cellsOf e)&&Nat.blt 0 (X.P.cellsOf e)&&Nat.beq (parts.toList.map fun p=>(p.1,st.ev p.2)).length len&&Nat.ble (len*X.P.cellsOf e) 16777216) with
  |false=>rw[hb] at hk;exact hk.elim
  |true=>
   rw[hb] at hk
   simp only[Bool.and_eq_true] at hb
   obtain⟨⟨⟨h1,h2⟩,h3⟩,h4⟩:=hb
   have h1:=Nat.eq_of_beq_eq_true h1
   have h2:0<X.P.cellsOf e:=by simpa[Nat.blt_eq] using h2
   have h3:=Nat.eq_of_beq_eq_true h3
   have h4:len*X.P.cellsOf e≤16777216:=by simpa using h4
   have h3:parts.toList.length=len:=by simpa using h3
   simp only[cond_true] at hk
   obtain⟨es,hk,hl,hs,hp⟩:=Nb _ β hk
   have hk:=eX (yh hk)
   have hsz:(sizeOf e).run X.P w= .ok (X.P.cellsOf e) w:=o7 (lQ ah) w
   let zc:Array Value:=if len*X.P.cellsOf e=0 then #[] else z.cells
   let uq:Array Value:=(Array.range (len*X.P.cellsOf e)).map (zc[· % zc.size]!)
   have hcr: ∀j,(hj:j<parts.toList.length)→jK (FX X st β w) β w (a.eval (parts.toList[j]).2).cells.toList (st.ev (parts.toList[j]).2).cells:=fun j hj=>hr.Dj (hp j hj).2.2.1 (hr.ev _)
   have hcs: ∀j,(hj:j<parts.toList.length)→(a.eval (parts.toList[j]).2).cells.size=X.P.cellsOf e:=by
    intro j hj
    have g1:=(hcr j hj).1
    have g2:=hs j ah
    rw[(hp j hj).2.1] at g2
    simp only[Array.length_toList] at g1
    omega
   obtain⟨vc,vK,hvs,_,hvn⟩:=JE (P:=X.P) (s:=X.P.cellsOf e) (ρ:=a.eval) parts.toList 0 uq (fun j hj=>⟨by have:=(hp j hj).1;omega,hcs j hj⟩) (by simp[uq,←h3])
   have vM:vc.size=len*X.P.cellsOf e:=by rw[hvs];simp[uq]
   have hrun:(Instr.buildSlice t len (parts.map fun(i,x)=>(i,a.eval x))).run X.P w= .ok (.slice (some ⟨w.heap.size,0,none⟩) len len) (w.alloc (.cells vc e)):=by
    have hmap:(parts.map fun(i,x)=>(i,a.eval x)).toList=parts.toList.map fun p=>(p.1,a.eval p.2):=by simp
    have hn: ¬(len*X.P.cellsOf e>2^24):=by omega
    by_cases h0:len*X.P.cellsOf e=0
    ·have e0:zc= #[]:=by simp[zc,h0]
     simp only[Instr.buildSlice,Sem.run_bind,run_underlying ht,Result.andThen_ok,hsz,if_neg hn,if_pos h0,Sem.run_pure,hmap]
     have:Instr.fill (fun i=>some (i*X.P.cellsOf e,X.P.cellsOf e)) (Array.map (fun x=>(#[]:Array Value)[x % (#[]:Array Value).size]!) (Array.range (len*X.P.cellsOf e))) (parts.toList.map fun p=>(p.1,a.eval p.2))=some vc:=by
      rw[←vK];simp only[uq,e0]
     rw[this]
     simp[newRow]
    ·have e0:zc=z.cells:=by simp[zc,h0]
     simp only[Instr.buildSlice,Sem.run_bind,run_underlying ht,Result.andThen_ok,hsz,if_neg hn,if_neg h0,Sem.run_pure,lW,hmap]
     have:Instr.fill (fun i=>some (i*X.P.cellsOf e,X.P.cellsOf e)) (Array.map (fun x=>z.cells[x % z.cells.size]!) (Array.range (len*X.P.cellsOf e))) (parts.toList.map fun p=>(p.1,a.eval p.2))=some vc:=by
      rw[←vK];simp only[uq,e0]
     rw[this]
     simp[newRow]
   have yY:es.length=len:=by omega
   have hn:=hr.zu (e:=e) (s:=X.P.cellsOf e) (es:=es) (x:= .slice (some ⟨w.heap.size,0,none⟩) len len) (World.grownBy_alloc w (.cells vc e) none) (fun b hb=>by simp[blk] at hb;omega) (fun F' hF=> ?_)
   ·refine kP ?_ ⟨_,_,hk,hn.put _ (zx hr (.row e (X.P.cellsOf e) es) _ _ _)⟩
    simp[execOp,ho]
    rw[hrun]
    simp
   ·have hlm:len≤maxLen:=by
     have:len*1≤len*X.P.cellsOf e:=Nat.mul_le_mul_left _ h2
     simp only[maxLen];omega
    refine⟨by omega,hs,vc.toList,⟨by rw[yY];simpa using vM, .inr ⟨w.heap.size,len,vc,by rw[yY],Nat.zero_le _,FV w _,by omega,hlm,vM,by rw[yY];exact List.take_of_length_le (by simp[vM])⟩⟩,fun u hu=> ?_,fun j m hj hm=> ?_⟩
    ·obtain⟨q,hq⟩:=List.mem_iff_getElem?.1 hu
     have y7:q<len*X.P.cellsOf e:=by have:=(List.getElem?_eq_some_iff.1 hq).1;simpa[vM] using this
     have hj:q/X.P.cellsOf e<parts.toList.length:=by rw[h3];exact Nat.div_lt_of_lt_mul zK
     have hm:=Nat.mod_lt q h2
     have:=hvn (q/X.P.cellsOf e) hj (q % X.P.cellsOf e) hm
     rw[Nat.zero_add,Nat.mul_comm,Nat.div_add_mod] at this
     rw[Array.getElem?_toList,this] at hq
     exact(hcr _ hj).2.1 u (List.mem_iff_getElem?.2 ⟨_,by rw[Array.getElem?_toList];exact hq⟩)
    ·have hj':j<parts.toList.length:=by omega
     have:=hvn j hj' m hm
     rw[Nat.zero_add] at this
     rw[List.getD_eq_getElem?_getD,Array.getElem?_toList,this,←Array.getElem?_toList,←List.getD_eq_getElem?_getD,(hp j hj').2.1]
     have hm2:m<(st.ev (parts.toList[j]).2).cells.length:=by have:=hs j hj;rw[(hp j hj').2.1] at this;omega
     exact(((hcr j hj').2.2 m hm2).cZ (List.all_eq_true.1 (hp j hj').2.2.2 _ (getD_mem hm2))).mono hF
 ·exact h.elim
end
end Go.Eng
namespace Go.Eng
open Go Go.RowKit
section
variable {X:Ctx} {st:St} {β:Nat→Option Value} {a:Act} {w:World} {K:St→Prop} {Q:Exit→Act→World→Prop}
def qQ(F:Nat→Prop)(w:World)(s:Nat)(v:Value)(xs:List (List D)):Prop:=
 (∃c,v= .slice none 0 c∧xs=[])∨
 ∃ad c, ∃news:List Value,v= .slice (some ad) xs.length c∧news.length=xs.length*s∧(∀j u,news[j]? =some u→w.cell? (ad.add j)=some u)∧(∀u∈news,u.oneCell'=true)∧
  (∀i,i<xs.length→(xs.getD i []).length=s)∧ ∀i j,i<xs.length→j<s→RO F w (news.getD (i*s+j) undef) ((xs.getD i []).getD j .junk)
theorem sW{i j n s:Nat}(hi:i<n)(hj:j<s):i*s+j<n*s:=by
 have:(i+1)*s≤n*s:=Nat.mul_le_mul_right s hi
 rw[Nat.add_mul,Nat.one_mul] at this
 omega
theorem Uz{F:Nat→Prop}{s:Nat}(hs0:0<s){v:Value}{xs:List (List D)}(h:RO F w v (.sl s xs)):qQ F w s v xs:=by
 rcases h.zF with⟨rfl,ad,c,rfl⟩|⟨b,off,cap,c,rfl,hF,hcap,hm,hs,hc,hr⟩
 ·cases ad with
  |none=>exact .inl ⟨c,rfl,rfl⟩
  |some ad=>exact .inr ⟨ad,c,[],rfl,by simp,fun j u hu=>by simp at hu,fun u hu=>by simp at hu,fun i hi=>by simp at hi,fun i j hi=>by simp at hi⟩
 ·refine .inr ⟨⟨b,off,none⟩,cap,(List.range (xs.length*s)).map fun q=>c (q/s) (q % s),rfl,by simp,fun j u hu=> ?_,fun u hu=> ?_,hs,fun i j hi hj=> ?_⟩
  ·rw[List.getElem?_map] at hu
   have hj:j<xs.length*s:=by
    rcases Nat.lt_or_ge j (xs.length*s) with h|h
    ·exact h
    ·rw[List.getElem?_eq_none (by simpa using h)] at hu;cases hu
   rw[List.getElem?_range hj] at hu
   cases hu
   have h1:=(hc (j/s) (j % s) (Nat.div_lt_of_lt_mul zK) (Nat.mod_lt _ hs0)).1
   rw[add_lit]
   rw[Nat.add_assoc] at h1
   have:j/s*s+j % s=j:=by rw[Nat.mul_comm];exact Nat.div_add_mod j s
   rw[this] at h1
   exact h1
  ·rw[List.mem_map] at hu
   obtain⟨q,hq,rfl⟩:=hu
   have hq:=List.mem_range.1 hq
   exact(hc (q/s) (q % s) (Nat.div_lt_of_lt_mul zK) (Nat.mod_lt _ hs0)).2
  ·have hlt:=sW hi hj
   have h1:(i*s+j)/s=i:=by rw[Nat.mul_comm,Nat.mul_add_div hs0,Nat.div_eq_of_lt hj,Nat.add_zero]
   have h2:(i*s+j) % s=j:=by rw[Nat.mul_comm,Nat.mul_add_mod,Nat.mod_eq_of_lt hj]
   rw[List.getD_eq_getElem?_getD,List.getElem?_map,List.getElem?_range hlt,Option.map_some,Option.getD_some,h1,h2]
   exact hr i j hi hj
theorem Uy{F:Nat→Prop}{e:TypeId}{s:Nat}{v:Value}{xs:List (List D)}(h:gu F w e s xs v):qQ F w s v xs:=by
 obtain⟨hm,hs,vs,how,h1,hro⟩:=h
 rcases how.2 with⟨rfl,hn⟩|⟨g,cap,cur,rfl,_⟩
 ·exact .inl ⟨0,rfl,List.eq_nil_of_length_eq_zero hn⟩
 ·exact .inr ⟨⟨g,0,none⟩,cap,vs,rfl,how.1,fun j u hu=>how.cells (g:=g) rfl j u hu,h1,hs,hro⟩
theorem UA{F:Nat→Prop}{e:TypeId}{s a b:Nat}(hs0:0<s){x v:Value}{xs:List (List D)}(h:gu F w e s xs x)(hsub:Sub s a b x v)(hbl:b≤xs.length):qQ F w s v ((xs.drop a).take (b-a)):=by
 obtain⟨p,len,cap,q,hxv,hab,hbc,hlc,rfl,hq⟩:=hsub
 rcases Nat.lt_or_ge a b with hlt|hge
 ·obtain⟨hm,hs,vs,how,h1,hro⟩:=h
  rcases how.2 with⟨hv,hn⟩|⟨g,cap',cur,hv,_⟩
  ·omega
  ·rw[hxv] at hv
   cases hv
   have hlen:((xs.drop a).take (b-a)).length=b-a:=by simp;omega
   have hvl:vs.length=xs.length*s:=how.1
   have hm2:b*s≤xs.length*s:=Nat.mul_le_mul_right _ hbl
   have hm3:b*s=a*s+(b-a)*s:=by rw[←Nat.add_mul];congr 1;omega
   refine .inr ⟨⟨g,a*s,none⟩,cap-a,(vs.drop (a*s)).take ((b-a)*s),?_,?_,fun j u hu=> ?_,fun u hu=>h1 u (List.mem_of_mem_drop (List.mem_of_mem_take hu)),fun i hi=> ?_,fun i j hi hj=> ?_⟩
   ·rw[hlen,hq ah,Option.map_some,add_lit,Nat.zero_add]
   ·rw[hlen,List.length_take,List.length_drop]
    omega
   ·have hjl:j<(b-a)*s:=by
     have:=(List.getElem?_eq_some_iff.1 hu).1
     simp only[List.length_take] at this
     omega
    rw[List.getElem?_take_of_lt hjl,List.getElem?_drop] at hu
    have:=how.cells (g:=g) (by rw[hxv];rfl) (a*s+j) u hu
    rw[add_lit,Nat.zero_add] at this
    rw[add_lit]
    exact this
   ·rw[hlen] at hi
    have e1:((xs.drop a).take (b-a)).getD i []=xs.getD (a+i) []:=by simp[List.getD_eq_getElem?_getD,List.getElem?_take_of_lt hi]
    rw[e1]
    exact hs _ ah
   ·rw[hlen] at hi
    have e1:((xs.drop a).take (b-a)).getD i []=xs.getD (a+i) []:=by simp[List.getD_eq_getElem?_getD,List.getElem?_take_of_lt hi]
    have hle:(i+1)*s≤(b-a)*s:=Nat.mul_le_mul_right s hi
    rw[Nat.add_mul] at hle
    have hij:i*s+j<(b-a)*s:=by omega
    have e2:((vs.drop (a*s)).take ((b-a)*s)).getD (i*s+j) undef=vs.getD ((a+i)*s+j) undef:=by
     simp only[List.getD_eq_getElem?_getD,List.getElem?_take_of_lt hij,List.getElem?_drop]
     rw[Nat.add_mul,Nat.add_assoc]
    rw[e1,e2]
    exact hro _ _ ah hj
 ·have hb0:b-a=0:=by omega
  rw[hb0]
  cases q with
  |none=>exact .inl ⟨_,rfl,by simp⟩
  |some ad=>exact .inr ⟨ad,cap-a,[],by simp,by simp,fun j u hu=>by simp at hu,fun u hu=>by simp at hu,fun i hi=>by simp at hi,fun i j hi=>by simp at hi⟩
theorem Ux{F:Nat→Prop}{e:TypeId}{s a b c:Nat}(hs0:0<s){x v:Value}{xs:List (List D)}(h:wH F w e s xs c x)(hsub:Sub s a b x v)(hbl:b≤xs.length):qQ F w s v ((xs.drop a).take (b-a)):=by
 obtain⟨p,len,cap,q,hxv,hab,hbc,hlc,rfl,hq⟩:=hsub
 have hlen:((xs.drop a).take (b-a)).length=b-a:=by simp;omega
 rcases Nat.lt_or_ge a b with hlt|hge
 ·obtain⟨g,cur,hv,hg,hxc,hcm,hcs,hs,hro⟩:=h
  rw[hxv] at hv
  cases hv
  have hm2:b*s≤c*s:=Nat.mul_le_mul_right _ ah
  have hm3:b*s=a*s+(b-a)*s:=by rw[←Nat.add_mul];congr 1;omega
  have e2: ∀i j,i<b-a→j<s→((cur.toList.drop (a*s)).take ((b-a)*s)).getD (i*s+j) undef=cur.toList.getD ((a+i)*s+j) undef:=by
   intro i j hi hj
   have hij:=sW hi hj
   simp only[List.getD_eq_getElem?_getD,List.getElem?_take_of_lt hij,List.getElem?_drop]
   rw[Nat.add_mul,Nat.add_assoc]
  have hnl:((cur.toList.drop (a*s)).take ((b-a)*s)).length=(b-a)*s:=by
   rw[List.length_take,List.length_drop,Array.length_toList]
   omega
  refine .inr ⟨⟨g,a*s,none⟩,c-a,(cur.toList.drop (a*s)).take ((b-a)*s),?_,by rw[hlen];exact hnl,fun j u hu=> ?_,fun u hu=> ?_,fun i hi=> ?_,fun i j hi hj=> ?_⟩
  ·rw[hlen,hq ah,Option.map_some,add_lit,Nat.zero_add]
  ·have hjl:j<(b-a)*s:=by
    have:=(List.getElem?_eq_some_iff.1 hu).1
    omega
   rw[List.getElem?_take_of_lt hjl,List.getElem?_drop] at hu
   rw[add_lit]
   simp only[World.cell?,hg]
   simpa using hu
  ·obtain⟨k,hk,rfl⟩:=List.mem_iff_getElem.1 hu
   have hk':k<(b-a)*s:=by omega
   have h1:k/s<b-a:=Nat.div_lt_of_lt_mul zK
   have h2:k % s<s:=Nat.mod_lt _ hs0
   have h3:k/s*s+k % s=k:=by rw[Nat.mul_comm];exact Nat.div_add_mod k s
   have:=e2 _ _ h1 h2
   rw[h3] at this
   have e4: ∀(l:List Value) (h:k<l.length),l[k]=l.getD k undef:=fun l h=>by rw[List.getD_eq_getElem?_getD,List.getElem?_eq_getElem h];rfl
   rw[e4 _ hk,this]
   exact(hro _ _ ah h2).1
  ·rw[hlen] at hi
   have e1:((xs.drop a).take (b-a)).getD i []=xs.getD (a+i) []:=by simp[List.getD_eq_getElem?_getD,List.getElem?_take_of_lt hi]
   rw[e1]
   exact hs _ ah
  ·rw[hlen] at hi
   have e1:((xs.drop a).take (b-a)).getD i []=xs.getD (a+i) []:=by simp[List.getD_eq_getElem?_getD,List.getElem?_take_of_lt hi]
   rw[e1,e2 _ _ hi hj]
   exact(hro _ _ ah hj).2
 ·have hb0:b-a=0:=by omega
  rw[hb0]
  cases q with
  |none=>exact .inl ⟨_,rfl,by simp⟩
  |some ad=>exact .inr ⟨ad,cap-a,[],by simp,by simp,fun j u hu=>by simp at hu,fun u hu=>by simp at hu,fun i hi=>by simp at hi,fun i j hi=>by simp at hi⟩
theorem acF{s:Nat}{x:Operand}{K:List (List D)→Prop}(h:wS st s (st.ev x) K)(hs0:0<s):
 ∃xs,K xs∧ ∀β a w,Rel X st β a w→qQ (FX X st β w) w s (a.eval x) xs:=by
 unfold wS at h
 split at h
 ·rename_i s' es hx
  cases hb:Nat.beq s' s with
  |false=>rw[hb] at h;exact h.elim
  |true=>
   rw[hb] at h
   have:=Nat.eq_of_beq_eq_true hb
   subst this
   refine⟨_,h,fun β a w hr=> ?_⟩
   have he:=hr.ev x
   rw[hx] at he
   exact Uz hs0 he.uU
 ·rename_i o hx
  split at h
  ·rename_i e' s' es ho
   cases hb:Nat.beq s' s with
   |false=>rw[hb] at h;exact h.elim
   |true=>
    rw[hb] at h
    have:=Nat.eq_of_beq_eq_true hb
    subst this
    refine⟨_,h,fun β a w hr=> ?_⟩
    have he:=hr.ev x
    rw[hx] at he
    exact Uy (hr.row ho he.iM)
  ·exact h.elim
 ·rename_i o s2 lo hi hx
  split at h
  ·rename_i e' s' es ho
   cases hb:(Nat.beq s' s&&Nat.beq s2 s) with
   |false=>rw[hb] at h;exact h.elim
   |true=>
    rw[hb] at h
    obtain⟨hb3,h⟩:=fF.out h
    obtain⟨hb1,hb2⟩:=jZ hb
    have:=Nat.eq_of_beq_eq_true hb1
    subst this
    have:=Nat.eq_of_beq_eq_true hb2
    subst this
    refine⟨_,h,fun β a w hr=> ?_⟩
    have he:=hr.ev x
    rw[hx] at he
    obtain⟨y,hy,hsub⟩:=he.mO
    exact UA hs0 (hr.row ho hy) hsub hb3
  ·rename_i e' s' es c ho
   cases hb:(Nat.beq s' s&&Nat.beq s2 s) with
   |false=>rw[hb] at h;exact h.elim
   |true=>
    rw[hb] at h
    obtain⟨hb3,h⟩:=fF.out h
    obtain⟨hb1,hb2⟩:=jZ hb
    have:=Nat.eq_of_beq_eq_true hb1
    subst this
    have:=Nat.eq_of_beq_eq_true hb2
    subst this
    refine⟨_,h,fun β a w hr=> ?_⟩
    have he:=hr.ev x
    rw[hx] at he
    obtain⟨y,hy,hsub⟩:=he.mO
    exact Ux hs0 (hr.A8 ho hy) hsub hb3
  ·exact h.elim
 ·rename_i hx
  refine⟨_,h,fun β a w hr=> ?_⟩
  have he:=hr.ev x
  rw[hx] at he
  exact .inl ⟨0,he.kZ,rfl⟩
 ·exact h.elim
theorem run_append_nothing{P:Program}(w:World)(base:Nat)(t ty e:TypeId)(i:TypeInfo)(size:Nat)(ht:P.underlying t=some (.slice e))(hi:P.info? e=some i)
 (v:Value)(n:Nat)(xs:List Value)(hown:w.ownsRow base e size v n xs)(c:Nat):
 (Builtin.append_ #[t,t] ty #[v, .slice none 0 c]).run P w= .ok v w:=by
 rcases hown.2 with⟨rfl,rfl⟩|⟨g,cap,cur,rfl,_,_,hnc,_⟩
 ·simp[Builtin.append_,run_underlying ht,sizeOf,typeInfo,hi,Builtin.lenOf,Builtin.firstCells]
 ·simp[Builtin.append_,run_underlying ht,sizeOf,typeInfo,hi,Builtin.lenOf,Builtin.firstCells,hnc,storeCells]
theorem XG{P:Program}{w:World}{t ty e:TypeId}{s n m c:Nat}{vs news:List Value}{v v':Value}{w':World}{ad:Addr}{i:TypeInfo}{z:Value}(ht:P.underlying t=some (.slice e))(hi:P.info? e=some i)(hz:i.zero=some z)
 (hsz:i.size=s)(how:w.ownsRow 0 e s v n vs)(hnl:news.length=m*s)(hcell: ∀j u,news[j]? =some u→w.cell? (ad.add j)=some u)(hone: ∀u∈news,u.oneCell'=true)
 (hlen:n+m≤140737488355328)(hb:(n+m)*i.bytes≤140737488355328)(hrun:(Builtin.append_ #[t,t] ty #[v, .slice (some ad) m c]).run P w= .ok v' w'): ∀b,blk v'=some b→b<w.heap.size→blk v=some b:=by
 subst hsz
 intro b hbb hlt
 rcases how.2 with⟨rfl,rfl⟩|⟨g,cap,cur,rfl,_,hg,hnc,hcm,hcs,htk⟩
 ·by_cases hm:m=0
  ·subst hm
   have hn:news=[]:=List.eq_nil_of_length_eq_zero (by simpa using hnl)
   have h2:(Builtin.append_ #[t,t] ty #[.slice none 0 0, .slice (some ad) 0 c]).run P w= .ok (.slice none 0 0) w:=by
    simp[Builtin.append_,run_underlying ht,sizeOf,typeInfo,hi,Builtin.lenOf,Builtin.firstCells,loadCells,loadCellsFrom]
   rw[h2] at hrun
   cases hrun
   exact hbb
  ·have hr:=run_append_nil (P:=P) w t ty e i z ht hi hz ad m c news hnl hcell ah ah (by have h:=hb;simp only[Nat.zero_add] at h;omega)
   rw[hr] at hrun
   cases hrun
   simp[blk] at hbb
   omega
 ·by_cases hroom:n+m≤cap
  ·have hfit:n*i.size+news.length≤cur.size:=by rw[hnl,hcs,←Nat.add_mul];exact Nat.mul_le_mul_right _ hroom
   have hr:=run_append_room (P:=P) w t ty e i ht hi g n cap cur hg ad m c news hnl hcell hone hroom hfit
   rw[hr] at hrun
   cases hrun
   exact hbb
  ·have holds: ∀j u,vs[j]? =some u→w.cell? ((⟨g,0,none⟩:Addr).add j)=some u:=how.cells (g:=g) rfl
   have hr:=run_append_grow (P:=P) w t ty e i z ht hi hz ⟨g,0,none⟩ n cap vs how.1 holds ad m c news hnl hcell ah ah (growslice_fits ah hb)
   rw[hr] at hrun
   cases hrun
   simp[blk] at hbb
   omega
theorem Ol{F:Nat→Prop}{P:Program}{w:World}{t ty e:TypeId}{s:Nat}{es xs:List (List D)}{v vx:Value}{i:TypeInfo}{z:Value}(ht:P.underlying t=some (.slice e))(hi:P.info? e=some i)(hz:i.zero=some z)
 (hsz:i.size=s)(hzs:z.cells.size=s)(hs0:0<s)(hrow:gu F w e s es v)(hn:qQ F w s vx xs)(hb:(es.length+xs.length)*i.bytes≤140737488355328)(hby:0<i.bytes):
 ∃v' w',(Builtin.append_ #[t,t] ty #[v,vx]).run P w= .ok v' w'∧w.grownBy w' (blk v)∧(∀b,blk v'=some b→blk v=some b∨w.heap.size≤b)∧
  ∀F',(∀b,F b→F' b∧w'.heap[b]? =w.heap[b]?)→gu F' w' e s (es++xs) v':=by
 obtain⟨hm,hs,vs,how,h1,hro⟩:=hrow
 have hlen:es.length+xs.length≤140737488355328:=by
  have:(es.length+xs.length)*1≤(es.length+xs.length)*i.bytes:=Nat.mul_le_mul_left _ hby
  omega
 rcases hn with⟨c,rfl,rfl⟩|⟨ad,c,news,rfl,hnl,hcell,hone,hxs,ad9⟩
 ·refine⟨v,w,run_append_nothing w 0 t ty e i s ht hi v _ vs how c,⟨rfl,rfl,rfl,Nat.le_refl _,fun _ _ _=>rfl⟩,fun b hb=> .inl hb,fun F' hF=> ?_⟩
  rw[List.append_nil]
  exact⟨hm,hs,vs,how,h1,fun i j hi hj=>(hro i j hi hj).mono hF⟩
 ·obtain⟨v',w',hrun,how',hg,hnil⟩:=run_append_own (P:=P) w 0 t ty e i z s i.bytes ht hi hz hsz rfl hzs hs0 v es.length vs how ad xs.length c news hnl hcell hone (by simp only[maxLen];omega) hb (Nat.zero_le _)
  have hbe: ∀v:Value, ∀n vs,w.ownsRow 0 e s v n vs→v.ownBlock=blk v:=by
   intro v n vs h
   rcases h.2 with⟨rfl,_⟩|⟨g,cap,cur,rfl,_⟩<;>rfl
  rw[hbe v _ _ how] at hg
  have ad7: ∀b,blk v'=some b→b<w.heap.size→blk v=some b:=XG (w:=w) ht hi hz hsz how hnl hcell hone ah hb hrun
  refine⟨v',w',hrun,hg,fun b hb=> ?_,fun F' hF=>⟨by simp only[List.length_append,maxLen];omega,fun i hi=> ?_,vs++news,by rw[List.length_append];exact how',fun u hu=> ?_,fun i j hi hj=> ?_⟩⟩
  ·rcases how'.2 with⟨rfl,_⟩|⟨g,cap,cur,rfl,_,hgg,_⟩
   ·simp[blk] at hb
   ·simp[blk] at hb
    subst hb
    rcases Nat.lt_or_ge g w.heap.size with hlt|hge
    ·left
     by_cases hbv:blk v=some g
     ·exact hbv
     ·exfalso
      exact hbv (ad7 g rfl hlt)
    ·exact .inr hge
  ·rw[List.length_append] at hi
   rw[List.getD_eq_getElem?_getD,List.getElem?_append]
   by_cases h:i<es.length
   ·rw[if_pos h,←List.getD_eq_getElem?_getD];exact hs i h
   ·rw[if_neg h,←List.getD_eq_getElem?_getD];exact hxs _ ah
  ·rcases List.mem_append.1 hu with h|h
   ·exact h1 u h
   ·exact hone u h
  ·rw[List.length_append] at hi
   have hvl:vs.length=es.length*s:=how.1
   rw[List.getD_eq_getElem?_getD (l:=vs++news),List.getElem?_append,List.getD_eq_getElem?_getD (l:=es++xs),List.getElem?_append]
   by_cases h:i<es.length
   ·have:=sW h hj
    rw[if_pos ah,if_pos h,←List.getD_eq_getElem?_getD,←List.getD_eq_getElem?_getD]
    exact(hro i j h hj).mono hF
   ·have h2:es.length*s≤i*s:=Nat.mul_le_mul_right s ah
    have h3:i*s=(i-es.length)*s+es.length*s:=by rw[←Nat.add_mul];congr 1;omega
    rw[if_neg ah,if_neg h,←List.getD_eq_getElem?_getD,←List.getD_eq_getElem?_getD]
    have h4:i*s+j-vs.length=(i-es.length)*s+j:=by omega
    rw[h4]
    exact(ad9 _ j ah hj).mono hF
end
end Go.Eng
namespace Go.Eng
open Go Go.RowKit
def qj(o s:Nat)(es:List (List D)):D→D
 | .h p=>bif Nat.beq p o then .sl s es else .h p
 | .hp p k=>bif Nat.beq p o then .junk else .hp p k
 | .hr p s' i k=>bif Nat.beq p o then .junk else .hr p s' i k
 | .hs p s' a b=>bif Nat.beq p o then .junk else .hs p s' a b
 | .agg _=> .junk
 | .aN _=> .junk
 | .clo _ _=> .junk
 |d=>d
def xO(o s:Nat)(es:List (List D)):D→D
 | .agg cs=> .agg (cs.map (qj o s es))
 | .clo f cs=> .clo f (cs.map (qj o s es))
 | .aN _=> .junk
 |d=>qj o s es d
def fM(o s:Nat)(es:List (List D)):D→D
 | .aN ds=> .aN (ds.map (xO o s es))
 |d=>xO o s es d
def xP(o s:Nat)(es:List (List D)):List (Nat×D)→List (Nat×D)
 |[]=>[]
 |(k,d)::r=>(k,fM o s es d)::xP o s es r
def ql(o s:Nat)(es:List (List D)):Obj→Obj
 | .box cs=> .box (cs.map (xO o s es))
 | .frame vs e=> .frame vs (xP o s es e)
 |ob=>ob
theorem Le(o s:Nat)(es:List (List D))(e:List (Nat×D))(i:Nat):look (xP o s es e) i=fM o s es (look e i):=by
 induction e with
 |nil=>rfl
 |cons x r ih=>
  obtain⟨k,d⟩:=x
  simp only[xP,look]
  cases Nat.beq i k<;>simp[ih]
theorem FT{o s:Nat}{es:List (List D)}{ob:Obj} :(ql o s es ob).live↔ob.live:=by cases ob<;>simp[ql,Obj.live]
section
variable {F F':Nat→Prop} {β β':Nat→Option Value} {w:World} {o s:Nat} {es:List (List D)} {x:Value}
 (hx:β o=some x) (hF: ∀b,F b→F' b) (hβ: ∀p y,p≠o→β p=some y→β' p=some y) (hrow:RO F' w x (.sl s es))
include hx hF hβ hrow
theorem Rep.qj{v:Value}{d:D}(h:Rep F β w v d):Rep F' β' w v (qj o s es d):=by
 cases h with
 |ro y d h=>
  cases d<;>simp only[Eng.qj]<;>first|exact .ro _ _ (.junk _)|exact .ro _ _ (h.mono (fun b hb=>⟨hF b hb,rfl⟩))|cases h
 |h p y h=>
  simp only[Eng.qj]
  cases hp:Nat.beq p o with
  |true=>
   have:=Nat.eq_of_beq_eq_true hp
   subst this
   rw[hx] at h
   cases h
   exact .ro _ _ hrow
  |false=>exact .h _ _ (hβ _ _ (fun e=>by subst e;simp at hp) h)
 |hp p off b y h hb=>
  simp only[Eng.qj]
  cases hp:Nat.beq p o with
  |true=>exact .ro _ _ (.junk _)
  |false=>exact .hp _ _ _ _ (hβ _ _ (fun e=>by subst e;simp at hp) h) hb
 |hr p s i off b y h hb=>
  simp only[Eng.qj]
  cases hp:Nat.beq p o with
  |true=>exact .ro _ _ (.junk _)
  |false=>exact .hr _ _ _ _ _ _ (hβ _ _ (fun e=>by subst e;simp at hp) h) hb
 |hs p s' a b y v h hv=>
  simp only[Eng.qj]
  cases hp:Nat.beq p o with
  |true=>exact .ro _ _ (.junk _)
  |false=>exact .hs _ _ _ _ _ _ (hβ _ _ (fun e=>by subst e;simp at hp) h) hv
 |agg=>exact .ro _ _ (.junk _)
 |aN=>exact .ro _ _ (.junk _)
 |clo=>exact .ro _ _ (.junk _)
theorem Rep.xO{v:Value}{d:D}(h:Rep F β w v d):Rep F' β' w v (xO o s es d):=by
 cases d with
 |agg ds=>
  obtain⟨cs,rfl,hl,h1,hr⟩:=h.jM
  refine .agg _ _ jY h1 (fun i hi=> ?_)
  rw[gy _ rfl]
  exact(hr i iI).qj hx hF hβ hrow
 |clo f ds=>
  obtain⟨cs,rfl,hl,hr⟩:=h.qR
  refine .clo _ _ _ jY (fun i hi=> ?_)
  rw[gy _ rfl]
  exact(hr i iI).qj hx hF hβ hrow
 |aN ds=>exact .ro _ _ (.junk _)
 |_=>exact h.qj hx hF hβ hrow
theorem Rep.fM{v:Value}{d:D}(h:Rep F β w v d):Rep F' β' w v (fM o s es d):=by
 cases d with
 |aN ds=>
  obtain⟨cs,rfl,hl,hr⟩:=h.pz
  refine .aN _ _ jY (fun i hi=> ?_)
  rw[gy _ rfl]
  exact(hr i iI).xO hx hF hβ hrow
 |_=>exact h.xO hx hF hβ hrow
theorem Own.fM{ob:Obj}{y:Value}(h:Own F β w ob y):Own F' β' w (ql o s es ob) y:=by
 cases ob with
 |dead=>trivial
 |row e s es=>
  obtain⟨h1,h2,xs,h3,h4,h5⟩:=h
  exact⟨h1,h2,xs,h3,h4,fun i j hi hj=>(h5 i j hi hj).mono (fun b hb=>⟨hF b hb,rfl⟩)⟩
 |box cs=>
  obtain⟨b,c,T,rfl,hg,hs,h1,hr⟩:=h
  refine⟨b,c,T,rfl,hg,by simp[hs],h1,fun j hj=> ?_⟩
  rw[gy _ rfl]
  exact(hr j qP).xO hx hF hβ hrow
 |frame vs e=>
  obtain⟨rfl,hr⟩:=h
  refine⟨rfl,fun i=> ?_⟩
  rw[Le]
  exact(hr i).fM hx hF hβ hrow
 |blk e s cs c=>
  obtain⟨g,cur,rfl,hg,h2,h3,h4,h5,h6⟩:=h
  exact⟨g,cur,rfl,hg,h2,h3,h4,h5,fun i j hi hj=>⟨(h6 i j hi hj).1,(h6 i j hi hj).2.mono (fun b hb=>⟨hF b hb,rfl⟩)⟩⟩
 |raw e s es=>
  obtain⟨g,cap,cur,m,rfl,hg,h2,h3,h4,h5,h6⟩:=h
  exact⟨g,cap,cur,m,rfl,hg,h2,h3,h4,h5,fun i j hi hj=>⟨(h6 i j hi hj).1,(h6 i j hi hj).2.mono (fun b hb=>⟨hF b hb,rfl⟩)⟩⟩
 |map P k e n f=>exact h
end
def St.fM(st:St)(o s:Nat)(es:List (List D)):St:=⟨xP o s es st.env,st.nt,(st.objs.map (ql o s es)).set o .dead,st.g,st.pin⟩
theorem Rel.fM{X:Ctx}{st:St}{β:Nat→Option Value}{a:Act}{w:World}(h:Rel X st β a w){o s:Nat}{e:TypeId}{es:List (List D)}(ho:st.obj o= .row e s es)(hp:st.pin≤o):
 ∃β',Rel X (st.fM o s es) β' a w:=by
 have hlive:(st.obj o).live:=by rw[ho];trivial
 by_cases hon:o<st.n
 case neg=>
  exfalso
  have:st.obj o= .dead:=by
   simp only[St.obj,List.getD_eq_getElem?_getD,List.getElem?_eq_none (show st.objs.length≤o by have: ¬o<st.objs.length:=hon;omega)]
   rfl
  rw[this] at hlive
  exact hlive
 obtain⟨x,hx,hown⟩:=h.own o hon hlive
 rw[ho] at hown
 let st':=st.fM o s es
 let β':Nat→Option Value:=fun p=>if p=o then none else β p
 have hn:st'.n=st.n:=by simp[st',St.fM,St.n]
 have hso:st'.obj o= .dead:=by
  have:o<(st.objs.map (ql o s es)).length:=by rw[List.length_map];exact hon
  simp only[st',St.fM,St.obj,List.getD_eq_getElem?_getD]
  rw[List.getElem?_set_self this]
  rfl
 have hsn: ∀p,p≠o→st'.obj p=ql o s es (st.obj p):=by
  intro p hpo
  simp only[st',St.fM,St.obj,List.getD_eq_getElem?_getD]
  rw[List.getElem?_set_ne (Ne.symm hpo),List.getElem?_map]
  cases st.objs[p]? <;>simp[ql]
 have hsub: ∀p y,β' p=some y→p≠o∧β p=some y:=by
  intro p y hy
  by_cases e:p=o
  ·simp only[β',if_pos e] at hy;cases hy
  ·simp only[β',if_neg e] at hy;exact⟨e,hy⟩
 have hβ: ∀p y,p≠o→β p=some y→β' p=some y:=by
  intro p y e hy
  simp only[β',if_neg e]
  exact hy
 have hF: ∀b,FX X st β w b→FX X st' β' w b:=by
  intro b hb
  refine⟨hb.1,hb.2.1,fun p _ _ y hy=> ?_⟩
  have h2:=(hsub p y hy).2
  exact hb.2.2 p (h.dom p y h2).1 (h.dom p y h2).2 y h2
 have KE: ∀b,blk x=some b→FX X st' β' w b:=by
  intro b hb
  refine⟨h.lt' hx hb,?_,fun p _ _ y hy hyb=> ?_⟩
  ·rcases h.low o x b hx hb with h1|h1
   ·exact .inr (.inl h1)
   ·exact .inr (.inr h1)
  ·obtain⟨e,h2⟩:=hsub p y hy
   exact e (h.sep p o y x b h2 hx hyb hb)
 have hrow:=Na (F':=FX X st' β' w) hown hF KE
 refine⟨β',h.defers,h.size,fun i=> ?_,fun p y hy=> ?_,fun p hpn hpl=> ?_,fun p p' y y' b hy hy' hb hb'=>h.sep p p' y y' b (hsub p y hy).2 (hsub p' y' hy').2 hb hb',fun p y b hy hb=>h.low p y b (hsub p y hy).2 hb,h.kept,
  fun g cs hg=>(h.glob g cs hg).mono (fun b hb=>⟨hF b hb,rfl⟩),fun p hpp=> ?_,by rw[hn];exact h.pinned⟩
 ·show Rep _ β' w _ (look (xP o s es st.env) i)
  rw[Le]
  exact(h.tmps i).fM hx hF hβ hrow
 ·obtain⟨e,h2⟩:=hsub p y hy
  show p<st'.n∧(st'.obj p).live
  rw[hn,hsn p e,FT]
  exact h.dom p y h2
 ·by_cases e:p=o
  ·subst e
   have:(st'.obj p).live:=hpl
   rw[hso] at this
   exact this.elim
  ·have hpl':(st'.obj p).live:=hpl
   rw[hsn p e,FT] at hpl'
   obtain⟨y,hy,hw⟩:=h.own p (hn▸hpn) hpl'
   refine⟨y,hβ p y e hy,?_⟩
   show Own (FX X st' β' w) β' w (st'.obj p) y
   rw[hsn p e]
   exact hw.fM hx hF hβ hrow
 ·have Kz:p<st.pin:=hpp
  have e:p≠o:=by omega
  simp only[β',if_neg e]
  exact h.stay p Kz
def JR(o s:Nat)(es:List (List D)):List (Nat×D)→(List (Nat×D)→Prop)→Prop
 |[],K=>K []
 |(k,d)::r,K=>force (Eng.fM o s es d) fun d'=>JR o s es r fun l=>K ((k,d')::l)
theorem JU{o s:Nat}{es:List (List D)} : ∀ {e:List (Nat×D)} {K:List (Nat×D)→Prop},JR o s es e K→K (xP o s es e)
 |[],_,h=>h
 |(k,d)::r,K,h=>JU (e:=r) (K:=fun l=>K ((k,Eng.fM o s es d)::l)) (oN h)
def JV(o s:Nat)(es:List (List D)):List Obj→(List Obj→Prop)→Prop
 |[],K=>K []
 |ob::r,K=>FP (ql o s es ob) fun ob'=>JV o s es r fun l=>K (ob'::l)
theorem JW{o s:Nat}{es:List (List D)} : ∀ {e:List Obj} {K:List Obj→Prop},JV o s es e K→K (e.map (ql o s es))
 |[],_,h=>h
 |ob::r,K,h=>JW (e:=r) (K:=fun l=>K (ql o s es ob::l)) (JM h)
def xQ(st:St)(o:Nat)(K:St→Prop):Prop:=
 match st with
 |⟨env,nt,objs,g,pin⟩=>match objs.getD o .dead with
  | .row _ s es=>bif Nat.ble pin o then JR o s es env fun e=>JV o s es objs fun l=>zC l o .dead fun l=>K ⟨e,nt,l,g,pin⟩ else False
  |_=>K ⟨env,nt,objs,g,pin⟩
theorem Rk{X:Ctx}{st:St}{β:Nat→Option Value}{a:Act}{w:World}{o:Nat}{K:St→Prop}(h:xQ st o K)(hr:Rel X st β a w): ∃st' β',K st'∧Rel X st' β' a w:=by
 obtain⟨env,nt,objs,g,pin⟩:=st
 unfold xQ at h
 simp only at h
 split at h
 ·rename_i e s es ho
  cases hb:Nat.ble pin o with
  |false=>rw[hb] at h;exact h.elim
  |true=>
   rw[hb] at h
   have:=zD (JW (JU h))
   obtain⟨β',hr'⟩:=hr.fM (o:=o) ho (by simpa using hb)
   exact⟨_,β',this,hr'⟩
 ·exact⟨_,β,h,hr⟩
def Dx:List D→St→(St→Prop)→Prop
 |[],st,K=>K st
 | .h p::r,st,K=>xQ st p fun st=>Dx r st K
 |_::r,st,K=>Dx r st K
theorem adk{X:Ctx}{a:Act}{w:World}{K:St→Prop}{l:List D} : ∀ {st:St} {β:Nat→Option Value},Dx l st K→Rel X st β a w→ ∃st' β',K st'∧Rel X st' β' a w:=by
 induction l with
 |nil=>exact fun {st β} h hr=>⟨st,β,h,hr⟩
 |cons d r ih=>
  intro st β h hr
  have step: ∀p,xQ st p (fun st=>Dx r st K)→ ∃st' β',K st'∧Rel X st' β' a w:=by
   intro p hp
   obtain⟨st1,β1,h1,hr1⟩:=Rk hp hr
   exact ih h1 hr1
  cases d<;>first|exact step _ h|exact ih h hr
def JX:D→St→(St→Prop)→Prop
 | .agg cs,st,K=>Dx cs st K
 | .h p,st,K=>xQ st p K
 |_,st,K=>K st
theorem Rl{X:Ctx}{a:Act}{w:World}{K:St→Prop}{d:D}{st:St}{β:Nat→Option Value}(h:JX d st K)(hr:Rel X st β a w): ∃st' β',K st'∧Rel X st' β' a w:=by
 cases d<;>first|exact adk h hr|exact Rk h hr|exact⟨st,β,h,hr⟩
def JY:List D→St→(St→Prop)→Prop
 |[],st,K=>K st
 |d::r,st,K=>JX d st fun st=>JY r st K
theorem Rn{X:Ctx}{a:Act}{w:World}{K:St→Prop} : ∀ {l:List D} {st:St} {β:Nat→Option Value},JY l st K→Rel X st β a w→ ∃st' β',K st'∧Rel X st' β' a w
 |[],st,β,h,hr=>⟨st,β,h,hr⟩
 |d::r,st,β,h,hr=>by
  obtain⟨st1,β1,h1,hr1⟩:=Rl h hr
  exact Rn h1 hr1
end Go.Eng
namespace Go.Eng
open Go Go.RowKit
def MN(P:Program)(t:TypeId)(len:Nat)(parts:List (Nat×D))(K:D→Prop):Prop:=
 match P.underlying t with
 |some (.slice e)=>uX P e fun z=>bif Nat.beq z.length (P.cellsOf e)&&Nat.blt 0 (P.cellsOf e)&&Nat.beq parts.length len&&Nat.ble (len*P.cellsOf e) 16777216 then
  Et (P.cellsOf e) 0 parts fun es=>K (.sl (P.cellsOf e) es) else False
 |_=>False
section
variable {X:Ctx} {st:St} {K:D→Prop}
theorem af4{o:Oper}{t:TypeId}{len:Nat}{parts:Array (Nat×Operand)}(ho:o.op= .buildSlice t len parts)(h:MN X.P t len (parts.toList.map fun p=>(p.1,st.ev p.2)) K):
 ∃d,K d∧ ∀β a w,Rel X st β a w→ ∃v w',(execOp a.eval o).run X.P w= .ok (.value v) w'∧w.grownBy w' none∧Rep (FX X st β w') β w' v d:=by
 unfold MN at h
 split at h
 ·rename_i e ht
  obtain⟨z,i,hi,hz,hf,hk,lW⟩:=yC h
  clear h
  cases hb:(Nat.beq (fQ z).cells.length (X.P.cellsOf e)&&Nat.blt 0 (X.P.cellsOf e)&&Nat.beq (parts.toList.map fun p=>(p.1,st.ev p.2)).length len&&Nat.ble (len*X.P.cellsOf e) 16777216) with
  |false=>rw[hb] at hk;exact hk.elim
  |true=>
   rw[hb] at hk
   simp only[Bool.and_eq_true] at hb
   obtain⟨⟨⟨h1,h2⟩,h3⟩,h4⟩:=hb
   have h1:=Nat.eq_of_beq_eq_true h1
   have h2:0<X.P.cellsOf e:=by simpa[Nat.blt_eq] using h2
   have h3:=Nat.eq_of_beq_eq_true h3
   have h4:len*X.P.cellsOf e≤16777216:=by simpa using h4
   have h3:parts.toList.length=len:=by simpa using h3
   simp only[cond_true] at hk
   obtain⟨es,hk,hl,hs,hp⟩:=Nb _ (fun _=>none) hk
   refine⟨_,hk,fun β a w hr=> ?_⟩
   have hsz:(sizeOf e).run X.P w= .ok (X.P.cellsOf e) w:=o7 (lQ ah) w
   let zc:Array Value:=if len*X.P.cellsOf e=0 then #[] else z.cells
   let uq:Array Value:=(Array.range (len*X.P.cellsOf e)).map (zc[· % zc.size]!)
   have hcr: ∀j,(hj:j<parts.toList.length)→jK (FX X st β w) β w (a.eval (parts.toList[j]).2).cells.toList (st.ev (parts.toList[j]).2).cells:=fun j hj=>hr.Dj (hp j hj).2.2.1 (hr.ev _)
   have hcs: ∀j,(hj:j<parts.toList.length)→(a.eval (parts.toList[j]).2).cells.size=X.P.cellsOf e:=by
    intro j hj
    have g1:=(hcr j hj).1
    have g2:=hs j ah
    rw[(hp j hj).2.1] at g2
    simp only[Array.length_toList] at g1
    omega
   obtain⟨vc,vK,hvs,_,hvn⟩:=JE (P:=X.P) (s:=X.P.cellsOf e) (ρ:=a.eval) parts.toList 0 uq (fun j hj=>⟨by have:=(hp j hj).1;omega,hcs j hj⟩) (by simp[uq,←h3])
   have vM:vc.size=len*X.P.cellsOf e:=by rw[hvs];simp[uq]
   have hrun:(Instr.buildSlice t len (parts.map fun(i,x)=>(i,a.eval x))).run X.P w= .ok (.slice (some ⟨w.heap.size,0,none⟩) len len) (w.alloc (.cells vc e)):=by
    have hmap:(parts.map fun(i,x)=>(i,a.eval x)).toList=parts.toList.map fun p=>(p.1,a.eval p.2):=by simp
    have hn: ¬(len*X.P.cellsOf e>2^24):=by omega
    by_cases h0:len*X.P.cellsOf e=0
    ·have e0:zc= #[]:=by simp[zc,h0]
     simp only[Instr.buildSlice,Sem.run_bind,run_underlying ht,Result.andThen_ok,hsz,if_neg hn,if_pos h0,Sem.run_pure,hmap]
     have:Instr.fill (fun i=>some (i*X.P.cellsOf e,X.P.cellsOf e)) (Array.map (fun x=>(#[]:Array Value)[x % (#[]:Array Value).size]!) (Array.range (len*X.P.cellsOf e))) (parts.toList.map fun p=>(p.1,a.eval p.2))=some vc:=by
      rw[←vK];simp only[uq,e0]
     rw[this]
     simp[newRow]
    ·have e0:zc=z.cells:=by simp[zc,h0]
     simp only[Instr.buildSlice,Sem.run_bind,run_underlying ht,Result.andThen_ok,hsz,if_neg hn,if_neg h0,Sem.run_pure,lW,hmap]
     have:Instr.fill (fun i=>some (i*X.P.cellsOf e,X.P.cellsOf e)) (Array.map (fun x=>z.cells[x % z.cells.size]!) (Array.range (len*X.P.cellsOf e))) (parts.toList.map fun p=>(p.1,a.eval p.2))=some vc:=by
      rw[←vK];simp only[uq,e0]
     rw[this]
     simp[newRow]
   have yY:es.length=len:=by omega
   have hown:gu (FX X st β w) (w.alloc (.cells vc e)) e (X.P.cellsOf e) es (.slice (some ⟨w.heap.size,0,none⟩) len len):=by
    have hF: ∀b,FX X st β w b→FX X st β w b∧(w.alloc (.cells vc e)).heap[b]? =w.heap[b]? :=fun b hb=>⟨hb,(World.grownBy_alloc w (.cells vc e) none).block b hb.1 fB⟩
    have hlm:len≤maxLen:=by
     have:len*1≤len*X.P.cellsOf e:=Nat.mul_le_mul_left _ h2
     simp only[maxLen];omega
    refine⟨by omega,hs,vc.toList,⟨by rw[yY];simpa using vM, .inr ⟨w.heap.size,len,vc,by rw[yY],Nat.zero_le _,FV w _,by omega,hlm,vM,by rw[yY];exact List.take_of_length_le (by simp[vM])⟩⟩,fun u hu=> ?_,fun j m hj hm=> ?_⟩
    ·obtain⟨q,hq⟩:=List.mem_iff_getElem?.1 hu
     have y7:q<len*X.P.cellsOf e:=by have:=(List.getElem?_eq_some_iff.1 hq).1;simpa[vM] using this
     have hj:q/X.P.cellsOf e<parts.toList.length:=by rw[h3];exact Nat.div_lt_of_lt_mul zK
     have hm:=Nat.mod_lt q h2
     have:=hvn (q/X.P.cellsOf e) hj (q % X.P.cellsOf e) hm
     rw[Nat.zero_add,Nat.mul_comm,Nat.div_add_mod] at this
     rw[Array.getElem?_toList,this] at hq
     exact(hcr _ hj).2.1 u (List.mem_iff_getElem?.2 ⟨_,by rw[Array.getElem?_toList];exact hq⟩)
    ·have hj':j<parts.toList.length:=by omega
     have:=hvn j hj' m hm
     rw[Nat.zero_add] at this
     rw[List.getD_eq_getElem?_getD,Array.getElem?_toList,this,←Array.getElem?_toList,←List.getD_eq_getElem?_getD,(hp j hj').2.1]
     have hm2:m<(st.ev (parts.toList[j]).2).cells.length:=by have:=hs j hj;rw[(hp j hj').2.1] at this;omega
     exact(((hcr j hj').2.2 m hm2).cZ (List.all_eq_true.1 (hp j hj').2.2.2 _ (getD_mem hm2))).mono hF
   have hg:=World.grownBy_alloc w (.cells vc e) none
   have hF: ∀b,FX X st β w b→FX X st β (w.alloc (.cells vc e)) b:=fun b hb=>⟨Nat.lt_of_lt_of_le hb.1 hg.size,hb.2.1,hb.2.2⟩
   have hx: ∀b,blk (.slice (some ⟨w.heap.size,0,none⟩) len len)=some b→FX X st β (w.alloc (.cells vc e)) b:=by
    intro b hb
    simp only[blk,Option.some.injEq] at hb
    subst hb
    refine⟨by simp, .inr (.inl hr.kept.size),fun o _ _ y hy hyb=> ?_⟩
    have:=hr.lt' hy hyb
    omega
   refine⟨.slice (some ⟨w.heap.size,0,none⟩) len len,w.alloc (.cells vc e),?_,hg, .ro _ _ (Na hown hF hx)⟩
   simp[execOp,ho]
   rw[hrun]
   simp
 ·exact h.elim
end
end Go.Eng
namespace Go.Eng
open Go Go.RowKit
def fV(F:Nat→Prop)(w:World)(s:Nat)(L:List Value)(cs:List (List D)):Prop:=
 (∀i,i<cs.length→(cs.getD i []).length=s)∧
   ∀i j,i<cs.length→j<s→(L.getD (i*s+j) undef).oneCell'=true∧RO F w (L.getD (i*s+j) undef) ((cs.getD i []).getD j .junk)
theorem fV.mono{F F':Nat→Prop}{w w':World}{s:Nat}{L:List Value}{cs:List (List D)}(hF: ∀b,F b→F' b∧w'.heap[b]? =w.heap[b]?)(h:fV F w s L cs):fV F' w' s L cs:=
 ⟨h.1,fun i j hi hj=>⟨(h.2 i j hi hj).1,(h.2 i j hi hj).2.mono hF⟩⟩
theorem Bv{F:Nat→Prop}{w:World}{e:TypeId}{s:Nat}{es:List (List D)}{x:Value}(h:gu F w e s es x):
 (x= .slice none 0 0∧es=[])∨ ∃g cap cur,x= .slice (some ⟨g,0,none⟩) es.length cap∧w.heap[g]? =some (.cells cur e (0,0))∧es.length≤cap∧cap≤maxLen∧cur.size=cap*s∧fV F w s cur.toList es:=by
 obtain⟨hm,hs,xs,how,h1,hro⟩:=h
 rcases how.2 with⟨rfl,hn⟩|⟨g,cap,cur,rfl,_,hg,hnc,hcm,hcs,htk⟩
 ·exact .inl ⟨rfl,List.eq_nil_of_length_eq_zero hn⟩
 ·refine .inr ⟨g,cap,cur,rfl,hg,hnc,hcm,hcs,hs,fun i j hi hj=> ?_⟩
  have hlt:=sW hi hj
  have hxl:xs.length=es.length*s:=how.1
  have e1:cur.toList.getD (i*s+j) undef=xs.getD (i*s+j) undef:=by
   rw[←htk,List.getD_eq_getElem?_getD,List.getD_eq_getElem?_getD,List.getElem?_take_of_lt hlt]
  rw[e1]
  refine⟨?_,hro i j hi hj⟩
  rw[List.getD_eq_getElem?_getD,List.getElem?_eq_getElem ah]
  exact h1 _ (List.getElem_mem _)
theorem KY{F:Nat→Prop}{w:World}{e:TypeId}{s:Nat}(hs0:0<s){es:List (List D)}{g n cap:Nat}{cur:Array Value}(hg:w.heap[g]? =some (.cells cur e (0,0)))(hn:n=es.length)(hnc:n≤cap)(hcm:cap≤maxLen)(hcs:cur.size=cap*s)(h:fV F w s cur.toList es):
 gu F w e s es (.slice (some ⟨g,0,none⟩) n cap):=by
 subst hn
 have hle:es.length*s≤cap*s:=Nat.mul_le_mul_right s hnc
 have hcl:cur.toList.length=cap*s:=by simp[hcs]
 have hl:(cur.toList.take (es.length*s)).length=es.length*s:=by rw[List.length_take];omega
 have e1: ∀k,k<es.length*s→(cur.toList.take (es.length*s)).getD k undef=cur.toList.getD k undef:=fun k hk=>by
  rw[List.getD_eq_getElem?_getD,List.getD_eq_getElem?_getD,List.getElem?_take_of_lt hk]
 refine⟨by omega,h.1,cur.toList.take (es.length*s),⟨hl, .inr ⟨g,cap,cur,rfl,Nat.zero_le _,hg,hnc,hcm,hcs,rfl⟩⟩,fun u hu=> ?_,fun i j hi hj=> ?_⟩
 ·obtain⟨k,hk,rfl⟩:=List.mem_iff_getElem.1 hu
  have hk':k<es.length*s:=by omega
  have h1:k/s<es.length:=Nat.div_lt_of_lt_mul zK
  have h2:k % s<s:=Nat.mod_lt _ hs0
  have h3:k/s*s+k % s=k:=by rw[Nat.mul_comm];exact Nat.div_add_mod k s
  have h4:=(h.2 _ _ h1 h2).1
  rw[h3,←e1 k hk',List.getD_eq_getElem?_getD,List.getElem?_eq_getElem hk] at h4
  exact h4
 ·rw[e1 _ (sW hi hj)]
  exact(h.2 i j hi hj).2
theorem fV.put{F:Nat→Prop}{w:World}{s p:Nat}{L news:List Value}{cs xs:List (List D)}(h:fV F w s L cs)(hn:fV F w s news xs)(hl:news.length=xs.length*s)(hp:p≤cs.length)(hL:cs.length*s≤L.length)(hfit:p*s+news.length≤L.length):
 fV F w s (L.take (p*s)++(news++L.drop (p*s+news.length))) (cs.take p++(xs++cs.drop (p+xs.length))):=by
 have hps:p*s≤cs.length*s:=Nat.mul_le_mul_right s hp
 have hlt:(L.take (p*s)).length=p*s:=by rw[List.length_take];omega
 have hct:(cs.take p).length=p:=by rw[List.length_take];omega
 have key: ∀i,i<(cs.take p++(xs++cs.drop (p+xs.length))).length→
  (i<p∧i<cs.length∧(cs.take p++(xs++cs.drop (p+xs.length))).getD i []=cs.getD i []∧ ∀j,j<s→(L.take (p*s)++(news++L.drop (p*s+news.length))).getD (i*s+j) undef=L.getD (i*s+j) undef)∨
  (∃k,k<xs.length∧(cs.take p++(xs++cs.drop (p+xs.length))).getD i []=xs.getD k []∧ ∀j,j<s→(L.take (p*s)++(news++L.drop (p*s+news.length))).getD (i*s+j) undef=news.getD (k*s+j) undef)∨
  (i<cs.length∧(cs.take p++(xs++cs.drop (p+xs.length))).getD i []=cs.getD i []∧ ∀j,j<s→(L.take (p*s)++(news++L.drop (p*s+news.length))).getD (i*s+j) undef=L.getD (i*s+j) undef):=by
  intro i hi
  rw[List.length_append,List.length_append,hct,List.length_drop] at hi
  simp only[List.getD_eq_getElem?_getD]
  by_cases h1:i<p
  ·left
   refine⟨h1,by omega,by rw[List.getElem?_append_left ah,List.getElem?_take_of_lt h1],fun j hj=> ?_⟩
   have:=sW h1 hj
   rw[List.getElem?_append_left ah,List.getElem?_take_of_lt this]
  ·right
   have hpi:p*s≤i*s:=Nat.mul_le_mul_right s ah
   by_cases h2:i<p+xs.length
   ·left
    have hki:(i-p)*s=i*s-p*s:=Nat.sub_mul ..
    refine⟨i-p,by omega,by rw[List.getElem?_append_right ah,hct,List.getElem?_append_left ah],fun j hj=> ?_⟩
    have hlt2:=sW (show i-p<xs.length by omega) hj
    rw[List.getElem?_append_right ah,hlt,List.getElem?_append_left ah]
    congr 2
    omega
   ·right
    have hpk:(p+xs.length)*s≤i*s:=Nat.mul_le_mul_right s ah
    rw[Nat.add_mul] at hpk
    refine⟨by omega,?_,fun j hj=> ?_⟩
    ·rw[List.getElem?_append_right ah,hct,List.getElem?_append_right ah,List.getElem?_drop]
     congr 2
     omega
    ·rw[List.getElem?_append_right ah,hlt,List.getElem?_append_right ah,List.getElem?_drop]
     congr 2
     omega
 refine⟨fun i hi=> ?_,fun i j hi hj=> ?_⟩
 ·rcases key i hi with⟨_,h1,h2,_⟩|⟨k,h1,h2,_⟩|⟨h1,h2,_⟩
  ·rw[h2];exact h.1 i h1
  ·rw[h2];exact hn.1 k h1
  ·rw[h2];exact h.1 i h1
 ·rcases key i hi with⟨_,h1,h2,h3⟩|⟨k,h1,h2,h3⟩|⟨h1,h2,h3⟩
  ·rw[h2,h3 j hj];exact h.2 i j h1 hj
  ·rw[h2,h3 j hj];exact hn.2 k j h1 hj
  ·rw[h2,h3 j hj];exact h.2 i j h1 hj
theorem Gi{F:Nat→Prop}{w:World}{s:Nat}{v:Value}{xs:List (List D)}(h:qQ F w s v xs):
 (∃c,v= .slice none 0 c∧xs=[])∨ ∃ad c news,v= .slice (some ad) xs.length c∧news.length=xs.length*s∧(∀j u,news[j]? =some u→w.cell? (ad.add j)=some u)∧(∀u∈news,u.oneCell'=true)∧fV F w s news xs:=by
 rcases h with h|⟨ad,c,news,rfl,hl,hc,h1,hs,hro⟩
 ·exact .inl h
 ·refine .inr ⟨ad,c,news,rfl,hl,hc,h1,hs,fun i j hi hj=>⟨?_,hro i j hi hj⟩⟩
  rw[List.getD_eq_getElem?_getD,List.getElem?_eq_getElem (by have:=sW hi hj;omega)]
  exact h1 _ (List.getElem_mem _)
theorem fV.take{F:Nat→Prop}{w:World}{s k:Nat}{L:List Value}{cs:List (List D)}(h:fV F w s L cs):fV F w s (L.take (k*s)) (cs.take k):=by
 have e1: ∀i,i<(cs.take k).length→(cs.take k).getD i []=cs.getD i []:=fun i hi=>by
  rw[List.length_take] at hi
  rw[List.getD_eq_getElem?_getD,List.getD_eq_getElem?_getD,List.getElem?_take_of_lt ah]
 refine⟨fun i hi=> ?_,fun i j hi hj=> ?_⟩
 ·rw[e1 i hi]
  rw[List.length_take] at hi
  exact h.1 i ah
 ·rw[e1 i hi]
  rw[List.length_take] at hi
  have:i*s+j<k*s:=sW ah hj
  rw[List.getD_eq_getElem?_getD,List.getElem?_take_of_lt this,←List.getD_eq_getElem?_getD]
  exact h.2 i j ah hj
theorem fV.afg{F:Nat→Prop}{w:World}{s k:Nat}{L:List Value}{cs:List (List D)}(h:fV F w s L cs):fV F w s L (cs.take k):=by
 have e1: ∀i,i<(cs.take k).length→(cs.take k).getD i []=cs.getD i []:=fun i hi=>by
  rw[List.length_take] at hi
  rw[List.getD_eq_getElem?_getD,List.getD_eq_getElem?_getD,List.getElem?_take_of_lt ah]
 refine⟨fun i hi=> ?_,fun i j hi hj=> ?_⟩
 ·rw[e1 i hi]
  rw[List.length_take] at hi
  exact h.1 i ah
 ·rw[e1 i hi]
  rw[List.length_take] at hi
  exact h.2 i j ah hj
theorem fV.app{F:Nat→Prop}{w:World}{s:Nat}{L M N:List Value}{cs ds:List (List D)}(h:fV F w s L cs)(k:fV F w s M ds)(hl:L.length=cs.length*s)(hm:M.length=ds.length*s):fV F w s (L++(M++N)) (cs++ds):=by
 have hlen:(L++(M++N)).length=L.length+(M.length+N.length):=by rw[List.length_append,List.length_append]
 have e1:(L++(M++N)).take (cs.length*s)=L:=by rw[←hl];exact List.take_left
 have e2:(L++(M++N)).drop (cs.length*s+M.length)=N:=by rw[←hl,←List.drop_drop,List.drop_left,List.drop_left]
 have e3:cs.take cs.length=cs:=List.take_length
 have e4:cs.drop (cs.length+ds.length)=[]:=List.drop_eq_nil_of_le ah
 have:=fV.put (p:=cs.length) (L:=L++(M++N)) (news:=M) (cs:=cs) (xs:=ds) ⟨h.1,fun i j hi hj=> ?_⟩ k hm (Nat.le_refl _) ah ah
 ·rw[e1,e2,e3,e4,List.append_nil] at this
  exact this
 ·have:=sW hi hj
  rw[List.getD_eq_getElem?_getD,List.getElem?_append_left ah,←List.getD_eq_getElem?_getD]
  exact h.2 i j hi hj
theorem TF{F:Nat→Prop}{w:World}{s k:Nat}{z:Array Value}{zd:List D}(hs0:0<s)(hz:jK (fun _=>False) (fun _=>none) w z.toList zd)(hsz:z.size=s)(hn:zd.all cZ=true)(N:List Value):
 fV F w s ((Builtin.zeroCells z k).toList++N) (List.replicate k zd):=by
 have hzl:zd.length=s:=by have:=hz.1;simp at this;omega
 have e0: ∀i,i<k→(List.replicate k zd).getD i []=zd:=fun i hi=>by simp[List.getD_eq_getElem?_getD,hi]
 refine⟨fun i hi=> ?_,fun i j hi hj=> ?_⟩
 ·rw[List.length_replicate] at hi
  rw[e0 i hi,hzl]
 ·rw[List.length_replicate] at hi
  have hlt:=sW hi hj
  have hm:(i*s+j) % s=j:=by rw[Nat.mul_comm,Nat.mul_add_mod,Nat.mod_eq_of_lt hj]
  have e1:((Builtin.zeroCells z k).toList++N).getD (i*s+j) undef=z.toList.getD j undef:=by
   have hsize:(Builtin.zeroCells z k).size=k*s:=by simp[Builtin.zeroCells,hsz]
   rw[List.getD_eq_getElem?_getD,List.getElem?_append_left (by simpa[hsize] using hlt),Array.getElem?_toList]
   have:(Builtin.zeroCells z k)[i*s+j]? =some z[j]! :=by
    simp[Builtin.zeroCells,hsz,hlt,hm]
   rw[this]
   have hj':j<z.size:=by omega
   simp[hj']
  rw[e1,e0 i hi]
  exact⟨hz.2.1 _ (getD_mem nX),((hz.2.2 j ah).cZ (List.all_eq_true.1 hn _ (getD_mem ah))).mono (fun b hb=>hb.elim)⟩
end Go.Eng
namespace Go.Eng
open Go Go.RowKit
def lY(L news:List Value)(o:Nat):Array Value:=(L.take o++news++L.drop (o+news.length)).toArray
theorem U8{cur:Array Value}{news:List Value}{o:Nat}(h:o+news.length≤cur.size):(lY cur.toList news o).size=cur.size:=by
 simp only[lY,List.size_toArray,List.length_append,List.length_take,List.length_drop,Array.length_toList]
 omega
section
variable {F:Nat→Prop} {w:World} {e:TypeId} {s a:Nat} {es xs:List (List D)} {x:Value} {news:List Value}
theorem ML(hs0:0<s){g cap:Nat}{cur:Array Value}(hx:x= .slice (some ⟨g,0,none⟩) es.length cap)(hg:w.heap[g]? =some (.cells cur e (0,0)))(hnc:es.length≤cap)(hcm:cap≤maxLen)(hcs:cur.size=cap*s)(hk:fV F w s cur.toList es)
 (hn:fV F w s news xs)(hl:news.length=xs.length*s)(hroom:a+xs.length≤es.length)(F':Nat→Prop)(hF: ∀b,F b→F' b∧(w.setRow g (lY cur.toList news (a*s))).heap[b]? =w.heap[b]?):
 gu F' (w.setRow g (lY cur.toList news (a*s))) e s (es.take a++(xs++es.drop (a+xs.length))) x:=by
 have hm:(a+xs.length)*s≤cap*s:=Nat.mul_le_mul_right s ah
 rw[Nat.add_mul] at hm
 have hm2:es.length*s≤cap*s:=Nat.mul_le_mul_right s hnc
 have hcl:cur.toList.length=cap*s:=by simp[hcs]
 subst hx
 refine KY hs0 (setRow_heap w g cur _ e _ hg) nX hnc hcm (by rw[U8 ah];exact hcs) ?_
 have:=(hk.put (p:=a) hn hl ah ah ah).mono hF
 simpa only[lY,List.append_assoc] using this
theorem af2{c g:Nat}{cur:Array Value}(hx:x= .slice (some ⟨g,0,none⟩) c c)(hg:w.heap[g]? =some (.cells cur e (0,0)))(xU:es.length≤c)(hcm:c≤maxLen)(hcs:cur.size=c*s)(hk:fV F w s cur.toList es)
 (hn:fV F w s news xs)(hl:news.length=xs.length*s)(hp:a≤es.length)(hroom:a+xs.length≤c)(F':Nat→Prop)(hF: ∀b,F b→F' b∧(w.setRow g (lY cur.toList news (a*s))).heap[b]? =w.heap[b]?):
 wH F' (w.setRow g (lY cur.toList news (a*s))) e s (es.take a++(xs++es.drop (a+xs.length))) c x:=by
 have hm:(a+xs.length)*s≤c*s:=Nat.mul_le_mul_right s ah
 rw[Nat.add_mul] at hm
 have hm2:es.length*s≤c*s:=Nat.mul_le_mul_right s xU
 have hcl:cur.toList.length=c*s:=by simp[hcs]
 have:=(hk.put (p:=a) hn hl hp ah ah).mono hF
 have h2:fV F' (w.setRow g (lY cur.toList news (a*s))) s (lY cur.toList news (a*s)).toList (es.take a++(xs++es.drop (a+xs.length))):=by
  simpa only[lY,List.append_assoc] using this
 exact⟨g,_,hx,setRow_heap w g cur _ e _ hg,by simp;omega,hcm,by rw[U8 ah];exact hcs,h2.1,h2.2⟩
end
section
variable {F:Nat→Prop} {P:Program} {w:World} {t ty e:TypeId} {s:Nat} {es xs:List (List D)} {x v vx:Value} {i:TypeInfo}
theorem J4(w:World)(b:Option Nat):w.grownBy w b:=⟨rfl,rfl,rfl,Nat.le_refl _,fun _ _ _=>rfl⟩
theorem XE(ht:P.underlying t=some (.slice e))(hi:P.info? e=some i)(hsz:i.size=s)(hs0:0<s)(hrow:gu F w e s es x){p:Nat}(hsub:Sub s 0 p x v)(hn:qQ F w s vx xs)(hroom:p+xs.length≤es.length):
 ∃v' w',(Builtin.append_ #[t,t] ty #[v,vx]).run P w= .ok v' w'∧w.grownBy w' (blk x)∧Sub s 0 (p+xs.length) x v'∧
  ∀F',(∀b,F b→F' b∧w'.heap[b]? =w.heap[b]?)→gu F' w' e s (es.take p++(xs++es.drop (p+xs.length))) x:=by
 obtain⟨p0,len,cap,q,hxv,_,hb,hlc,rfl,hq⟩:=hsub
 have hlen:len=es.length:=by
  obtain⟨_,ax,cx,mP⟩:=Bz hrow
  rw[hxv] at mP
  cases mP
  rfl
 have hpc:p≤cap:=hb
 rcases xs.eq_nil_or_concat with rfl|hne
 ·refine⟨.slice q (p-0+0) (cap-0),w,?_,J4 w _,⟨p0,len,cap,q,hxv,Nat.zero_le _,hb,hlc,rfl,hq⟩,fun F' hF=> ?_⟩
  ·rcases Gi hn with⟨c,rfl,_⟩|⟨ad,c,news,rfl,hl,_⟩
   ·simp[Builtin.append_,run_underlying ht,sizeOf,typeInfo,hi,Builtin.lenOf,Builtin.firstCells,hpc,storeCells]
    cases q<;>simp
   ·simp[Builtin.append_,run_underlying ht,sizeOf,typeInfo,hi,Builtin.lenOf,Builtin.firstCells,loadCells,loadCellsFrom,hpc,storeCells]
    cases q<;>simp
  ·simp only[List.length_nil,Nat.add_zero,List.nil_append,List.take_append_drop]
   obtain⟨h1,h2,xs,h3,h4,h5⟩:=hrow
   exact⟨h1,h2,xs,h3,h4,fun i j hi hj=>(h5 i j hi hj).mono hF⟩
 ·have hpos:0<xs.length:=by obtain⟨l,y,rfl⟩:=hne;simp
  rcases Bv hrow with⟨_,rfl⟩|⟨g,cap',cur,hx,hg,hnc,hcm,hcs,hk⟩
  ·rw[List.length_nil] at hroom;omega
  ·rw[hx] at hxv
   cases hxv
   have hq':q=some ⟨g,0,none⟩:=by
    rw[hq ah]
    simp[Addr.add]
   subst hq'
   rcases Gi hn with⟨c,_,rfl⟩|⟨ad,c,news,rfl,hl,hcell,hone,hkn⟩
   ·simp at hpos
   ·subst hsz
    have hm:(p+xs.length)*i.size≤cap*i.size:=Nat.mul_le_mul_right _ ah
    rw[Nat.add_mul] at hm
    have hr:=run_append_room (P:=P) (ty:=ty) w t e i ht hi g p cap cur hg ad xs.length c news hl hcell hone ah ah
    refine⟨_,_,hr,by rw[hx];exact yX w g _,⟨_,_,_,_,hx,Nat.zero_le _,by omega,hnc,rfl,fun _=>by simp[Addr.add]⟩,fun F' hF=> ?_⟩
    exact ML hs0 hx hg hnc hcm hcs hk hkn hl hroom F' hF
end
end Go.Eng
namespace Go.Eng
open Go Go.RowKit
section
variable {F:Nat→Prop} {P:Program} {w:World} {t u ty e:TypeId} {s:Nat} {es xs:List (List D)} {x v vx:Value} {i:TypeInfo}
theorem fV.one{L:List Value}{cs:List (List D)}(hs0:0<s)(h:fV F w s L cs)(hl:L.length=cs.length*s): ∀y∈L,y.oneCell'=true:=by
 intro y hy
 obtain⟨k,hk,rfl⟩:=List.mem_iff_getElem.1 hy
 have hk':k<cs.length*s:=by omega
 have h1:k/s<cs.length:=Nat.div_lt_of_lt_mul zK
 have h2:k % s<s:=Nat.mod_lt _ hs0
 have h3:k/s*s+k % s=k:=by rw[Nat.mul_comm];exact Nat.div_add_mod k s
 have h4:=(h.2 _ _ h1 h2).1
 rw[h3,List.getD_eq_getElem?_getD,List.getElem?_eq_getElem hk] at h4
 exact h4
theorem VP(ht:P.underlying t=some (.slice e))(hi:P.info? e=some i)(hsz:i.size=s){q:Option Addr}{dl dc:Nat}(hn:qQ F w s vx xs)
 {g a:Nat}{cur:Array Value}{T:TypeId}(hq:0<dl→q=some ⟨g,a*s,none⟩)(hg:w.heap[g]? =some (.cells cur T (0,0)))(hfit:(a+dl)*s≤cur.size):
 ∃news,(Builtin.copy_ #[t,u] ty #[.slice q dl dc,vx]).run P w= .ok (goInt (xs.length.min dl:Nat)) (w.setRow g (lY cur.toList news (a*s)))∧fV F w s news (xs.take dl)∧news.length=(xs.take dl).length*s:=by
 rw[Nat.add_mul] at hfit
 have nothing: ∀ad c,min xs.length dl=0→vx= .slice ad xs.length c→(Builtin.copy_ #[t,u] ty #[.slice q dl dc,vx]).run P w= .ok (goInt (xs.length.min dl:Nat)) (w.setRow g (lY cur.toList [] (a*s))):=by
  intro ad c h0 hv
  have e0:(lY cur.toList [] (a*s))=cur:=by simp[lY]
  have h0':Nat.min xs.length dl=0:=h0
  rw[e0,setRow_self w g cur T (0,0) hg,hv,h0']
  cases ad<;>cases q<;>simp[Builtin.copy_,run_underlying ht,sizeOf,typeInfo,hi,Builtin.lenOf,Builtin.firstCells,h0',loadCells,loadCellsFrom,storeCells]
 have empty: ∀l:List (List D),l=[]→fV F w s [] l∧([]:List Value).length=l.length*s:=by
  rintro l rfl
  exact⟨⟨fun i hi=>by simp at hi,fun i j hi=>by simp at hi⟩,by simp⟩
 rcases Gi hn with⟨c,rfl,rfl⟩|⟨ad,c,news,rfl,hl,hcell,hone,hkn⟩
 ·exact⟨[],nothing none c fB rfl,empty _ fB⟩
 ·rcases Nat.eq_zero_or_pos (min xs.length dl) with h0|h0
  ·refine⟨[],nothing (some ad) c h0 rfl,empty _ ?_⟩
   rw[List.take_eq_nil_iff]
   rcases Nat.eq_zero_or_pos dl with h|h
   ·exact .inl h
   ·exact .inr (List.eq_nil_of_length_eq_zero ah)
  ·rw[hq ah]
   have hk:(xs.take dl).length=min xs.length dl:=by rw[List.length_take,Nat.min_comm]
   have hnl:(news.take (dl*s)).length=(xs.take dl).length*s:=by
    rw[List.length_take,hk,hl,←Nat.mul_min_mul_right,Nat.min_comm]
   have hmm:(xs.take dl).length*s≤dl*s:=Nat.mul_le_mul_right s ah
   refine⟨news.take (dl*s),?_,hkn.take,hnl⟩
   have hload:=run_loadCells_list (P:=P) w ad (news.take (dl*s)) (fun j y hj=>hcell j y (by
    have hjl:=(List.getElem?_eq_some_iff.1 hj).1
    rw[List.getElem?_take_of_lt (by rw[List.length_take] at hjl;omega)] at hj
    exact hj))
   have hst:=run_storeCells_at P g (a*s) T (news.take (dl*s)) 0 cur w hg ah (fun y hy=>hone y (List.mem_of_mem_take hy))
   subst hsz
   rw[hnl,hk] at hload
   have hmin:Nat.min xs.length dl=min xs.length dl:=rfl
   simp only[Nat.add_zero] at hst
   simp[Builtin.copy_,run_underlying ht,sizeOf,typeInfo,hi,Builtin.lenOf,Builtin.firstCells,hmin,hload,hst,lY]
theorem ND{g n c a b:Nat}(hsub:Sub s a b (.slice (some ⟨g,0,none⟩) n c) v): ∃q,v= .slice q (b-a) (c-a)∧b≤c∧a≤b∧(0<b-a→q=some ⟨g,a*s,none⟩):=by
 obtain⟨p,len,cap,q,hxv,hab,hb,hlc,rfl,hq⟩:=hsub
 cases hxv
 refine⟨q,rfl,hb,hab,fun h=> ?_⟩
 rw[hq ah,Option.map_some,add_lit,Nat.zero_add]
theorem acg(ht:P.underlying t=some (.slice e))(hi:P.info? e=some i)(hsz:i.size=s)(hs0:0<s)(hrow:gu F w e s es x){a b:Nat}(hsub:Sub s a b x v)(hn:qQ F w s vx xs)(hb:b≤es.length):
 ∃y w',(Builtin.copy_ #[t,u] ty #[v,vx]).run P w= .ok y w'∧w.grownBy w' (blk x)∧
  ∀F',(∀b,F b→F' b∧w'.heap[b]? =w.heap[b]?)→gu F' w' e s (es.take a++(xs.take (b-a)++es.drop (a+(xs.take (b-a)).length))) x:=by
 rcases Bv hrow with⟨rfl,rfl⟩|⟨g,cap,cur,rfl,hg,hnc,hcm,hcs,hk⟩
 ·obtain⟨p,len,cap,q,hxv,hab,hbc,hlc,rfl,hq⟩:=hsub
  cases hxv
  have hb0:b=0:=by omega
  have ha0:a=0:=by omega
  subst hb0 ha0
  refine⟨goInt 0,w,?_,J4 w _,fun F' hF=> ?_⟩
  ·have h0: ∀n,Nat.min n 0=0:=fun n=>Nat.min_zero n
   rcases Gi hn with⟨c,rfl,_⟩|⟨ad,c,news,rfl,hl,_⟩
   ·cases q<;>simp[Builtin.copy_,run_underlying ht,sizeOf,typeInfo,hi,Builtin.lenOf,Builtin.firstCells,h0,storeCells]
   ·cases q<;>simp[Builtin.copy_,run_underlying ht,sizeOf,typeInfo,hi,Builtin.lenOf,Builtin.firstCells,h0,loadCells,loadCellsFrom,storeCells]
  ·simp only[List.take_nil,List.drop_nil,Nat.sub_self,List.take_zero,List.nil_append,List.append_nil]
   obtain⟨h1,h2,xs,h3,h4,h5⟩:=hrow
   exact⟨h1,h2,xs,h3,h4,fun i j hi hj=>(h5 i j hi hj).mono hF⟩
 ·obtain⟨q,rfl,hbc,hab,hq⟩:=ND hsub
  have hm:(a+(b-a))*s≤cap*s:=Nat.mul_le_mul_right s ah
  obtain⟨news,hr,hkn,hnl⟩:=VP (u:=u) (ty:=ty) (dc:=cap-a) ht hi hsz hn hq hg ah
  exact⟨_,_,hr,yX w g _,fun F' hF=>ML hs0 rfl hg hnc hcm hcs hk hkn hnl yD F' hF⟩
theorem acf(ht:P.underlying t=some (.slice e))(hi:P.info? e=some i)(hsz:i.size=s){c:Nat}(hrow:wH F w e s es c x){a b:Nat}(hsub:Sub s a b x v)(hn:qQ F w s vx xs)(hb:b≤c)(ha:a≤es.length):
 ∃y w',(Builtin.copy_ #[t,u] ty #[v,vx]).run P w= .ok y w'∧w.grownBy w' (blk x)∧
  ∀F',(∀b,F b→F' b∧w'.heap[b]? =w.heap[b]?)→wH F' w' e s (es.take a++(xs.take (b-a)++es.drop (a+(xs.take (b-a)).length))) c x:=by
 obtain⟨g,cur,rfl,hg,xU,hcm,hcs,hk⟩:=hrow
 obtain⟨q,rfl,hbc,hab,hq⟩:=ND hsub
 have hm:(a+(b-a))*s≤c*s:=Nat.mul_le_mul_right s ah
 obtain⟨news,hr,hkn,hnl⟩:=VP (u:=u) (ty:=ty) (dc:=c-a) ht hi hsz hn hq hg ah
 exact⟨_,_,hr,yX w g _,fun F' hF=>af2 rfl hg xU hcm hcs hk hkn hnl ha yD F' hF⟩
theorem ab5{z:Value}{zd:List D}(ht:P.underlying t=some (.slice e))(hz: ∀w:World,(zeroValue e).run P w= .ok z w)(lW:jK (fun _=>False) (fun _=>none) w z.cells.toList zd)(hzs:z.cells.size=s)(hzn:zd.all cZ=true)(hs0:0<s)
 (hrow:gu F w e s es x){a b:Nat}(hsub:Sub s a b x v)(hb:b≤es.length):
 ∃y w',(Builtin.clear_ #[t] ty #[v]).run P w= .ok y w'∧w.grownBy w' (blk x)∧
  ∀F',(∀b,F b→F' b∧w'.heap[b]? =w.heap[b]?)→gu F' w' e s (es.take a++(List.replicate (b-a) zd++es.drop (a+(List.replicate (b-a) zd).length))) x:=by
 rcases Nat.eq_zero_or_pos (b-a) with h0|h0
 ·refine⟨.tuple #[],w,?_,J4 w _,fun F' hF=> ?_⟩
  ·obtain⟨p,len,cap,q,hxv,hab,hbc,hlc,rfl,hq⟩:=hsub
   rw[h0]
   cases q<;>simp[Builtin.clear_,run_underlying ht]
  ·rw[h0]
   simp only[List.replicate_zero,List.length_nil,Nat.add_zero,List.nil_append,List.take_append_drop]
   obtain⟨h1,h2,xs,h3,h4,h5⟩:=hrow
   exact⟨h1,h2,xs,h3,h4,fun i j hi hj=>(h5 i j hi hj).mono hF⟩
 ·rcases Bv hrow with⟨rfl,rfl⟩|⟨g,cap,cur,rfl,hg,hnc,hcm,hcs,hk⟩
  ·rw[List.length_nil] at hb;omega
  ·obtain⟨q,rfl,hbc,hab,hq⟩:=ND hsub
   rw[hq h0]
   have hm:(a+(b-a))*s≤cap*s:=Nat.mul_le_mul_right s ah
   rw[Nat.add_mul] at hm
   have hkz:=TF (F:=F) (w:=w) (k:=b-a) hs0 lW hzs hzn []
   rw[List.append_nil] at hkz
   have hzl:(Builtin.zeroCells z.cells (b-a)).toList.length=(List.replicate (b-a) zd).length*s:=by
    rw[Array.length_toList,size_zeroCells,hzs,List.length_replicate]
   rw[List.length_replicate] at hzl
   have hst:=run_storeCells_at P g (a*s) e (Builtin.zeroCells z.cells (b-a)).toList 0 cur w hg ah (hkz.one hs0 (by rw[List.length_replicate];exact hzl))
   simp only[Nat.add_zero] at hst
   refine⟨.tuple #[],w.setRow g (lY cur.toList (Builtin.zeroCells z.cells (b-a)).toList (a*s)),?_,yX w g _,fun F' hF=>ML hs0 rfl hg hnc hcm hcs hk hkz (by rw[List.length_replicate];exact hzl) (by rw[List.length_replicate];omega) F' hF⟩
   obtain⟨k,hk⟩: ∃k,b-a=k+1:=⟨b-a-1,by omega⟩
   rw[hk] at hst⊢
   simp[Builtin.clear_,run_underlying ht,hz,hst,lY]
theorem ab3(hs0:0<s)(hrow:gu F w e s es x)(h0:0<es.length): ∃g c,x= .slice (some ⟨g,0,none⟩) es.length c∧es.length≤c∧wH F w e s es c (.slice (some ⟨g,0,none⟩) c c):=by
 rcases Bv hrow with⟨rfl,rfl⟩|⟨g,cap,cur,rfl,hg,hnc,hcm,hcs,hk⟩
 ·exact absurd h0 (Nat.lt_irrefl 0)
 ·exact⟨g,cap,rfl,hnc,g,cur,rfl,hg,hnc,hcm,hcs,hk⟩
theorem run_append_grow_zeros(w:World)(z:Value){kn kk:IntKind}(ht:P.underlying t=some (.slice e))(hu:P.underlying u=some (.int kn))(hi:P.info? e=some i)(hz:i.zero=some z)
 (b:Addr)(sLen sCap:Nat)(olds:List Value)(hlo:olds.length=sLen*i.size)(holds: ∀j v,olds[j]? =some v→w.cell? (b.add j)=some v)
 (n:Nat)(hp:0<i.size)(hg:sCap<sLen+n)(h0:0<n)(h63:((sLen+n:Nat):Int)≤9223372036854775807)(h48:n*i.bytes≤281474976710656)(hfit:Builtin.nextslicecap (sLen+n) sCap*i.bytes≤281474976710656):
 (Builtin.append_ #[t,u] ty #[.slice (some b) sLen sCap, .int kk n]).run P w=
   .ok (.slice (some ⟨w.heap.size,0,none⟩) (sLen+n) (grownCap w (sLen+n) sCap e))
    (w.drew.alloc (.cells (olds.toArray++Builtin.zeroCells z.cells n++Builtin.zeroCells z.cells (grownCap w (sLen+n) sCap e-(sLen+n))) e)):=by
 have hn: ¬(sLen+n≤sCap):=by omega
 have hn0:n≠0:=by omega
 have hw:IntKind.i64.wrap (n:Int)=n:=by rw[IntKind.wrap_i64];omega
 have h63': ¬(9223372036854775807<((sLen:Int)+(n:Int))):=by omega
 have h48': ¬(281474976710656<Builtin.nextslicecap (sLen+n) sCap*i.bytes):=by omega
 have h48i: ¬(281474976710656<(n:Int)*(i.bytes:Int)):=by
  rw[←Int.natCast_mul]
  omega
 have hneg: ¬((n:Int)<0):=by omega
 have hns: ¬(n*i.size=0):=Nat.mul_ne_zero hn0 ah
 have hfo:=run_firstCells_some (P:=P) w.drew i.size sLen b sLen sCap olds hlo (by simpa using holds)
 simp[Builtin.append_,run_underlying ht,run_underlying hu,sizeOf,typeInfo,zeroValue,hi,hz,asInt,asIntOf,hw,hn,hn0,hneg,hns,h63',h48',h48i,Question.forced,hfo,newRow,grownCap]
theorem XH{z:Value}{zd:List D}{kn kk:IntKind}(ht:P.underlying t=some (.slice e))(hu:P.underlying u=some (.int kn))(hi:P.info? e=some i)(hz:i.zero=some z)(hsz:i.size=s)(lW:jK (fun _=>False) (fun _=>none) w z.cells.toList zd)(hzs:z.cells.size=s)(hzn:zd.all cZ=true)(hs0:0<s)
 {c:Nat}(hrow:wH F w e s es c x){p n:Nat}(hsub:Sub s 0 p x v)(hp:p≤es.length)(hc:c<p+n)(hc0:0<c)(h0:0<n)(hb:(p+n)*i.bytes≤140737488355328)(hby:0<i.bytes):
 ∃v' w',(Builtin.append_ #[t,u] ty #[v, .int kk n]).run P w= .ok v' w'∧w.grownBy w' none∧(∀b,blk v'=some b→w.heap.size≤b)∧
  ∀F',(∀b,F b→F' b∧w'.heap[b]? =w.heap[b]?)→gu F' w' e s (es.take p++List.replicate n zd) v':=by
 obtain⟨g,cur,rfl,hg,xU,hcm,hcs,hk⟩:=hrow
 have hlen:p+n≤140737488355328:=by
  have:(p+n)*1≤(p+n)*i.bytes:=Nat.mul_le_mul_left _ hby
  omega
 have hnb:n*i.bytes≤(p+n)*i.bytes:=Nat.mul_le_mul_right _ ah
 obtain⟨p0,len,cap,q,hxv,_,hbc,hlc,rfl,hq⟩:=hsub
 cases hxv
 have hps:p*s≤c*s:=Nat.mul_le_mul_right s ah
 have y7:(cur.toList.take (p*s)).length=p*s:=by
  have:cur.toList.length=c*s:=by simp[hcs]
  rw[List.length_take];omega
 ·have hq':q=some ⟨g,0,none⟩:=by
   rw[hq ah]
   simp[Addr.add]
  subst hq'
  subst hsz
  have hr:=run_append_grow_zeros (P:=P) (ty:=ty) (kk:=kk) w z ht hu hi hz ⟨g,0,none⟩ p c (cur.toList.take (p*i.size)) y7 (fun j y hj=>by
   have hjl:=(List.getElem?_eq_some_iff.1 hj).1
   rw[List.getElem?_take_of_lt ah] at hj
   rw[add_lit]
   simp only[World.cell?,hg]
   simpa using hj) n hs0 hc h0 ah ah (growslice_fits hc hb)
  refine⟨_,_,hr,⟨rfl,rfl,rfl,by simp,fun k hk _=>heap_alloc_old w.drew _ hk⟩,fun b hb=>by simp[blk] at hb;omega,fun F' hF=> ?_⟩
  have hge:=grownCap_ge w (p+n) c e
  refine KY hs0 (heap_alloc_new w.drew _) nX hge (grownCap_le_maxLen w (p+n) c e (by simp only[maxLen];omega)) ?_ ?_
  ·simp only[Array.size_append,List.size_toArray,size_zeroCells,hzs,y7,←Nat.add_mul]
   congr 1
   omega
  ·have hkz:=TF (F:=F) (w:=w) (k:=n) hs0 lW hzs hzn []
   rw[List.append_nil] at hkz
   have hkt:=fV.take (k:=p) (show fV F w i.size cur.toList es from hk)
   have:=(fV.app (N:=(Builtin.zeroCells z.cells (grownCap w (p+n) c e-(p+n))).toList) hkt hkz (by rw[y7,List.length_take,Nat.min_eq_left hp]) (by rw[Array.length_toList,size_zeroCells,hzs,List.length_replicate])).mono hF
   simpa only[Array.toList_append,List.append_assoc] using this
end
end Go.Eng
namespace Go.Eng
open Go Go.RowKit
theorem Jz{X:Ctx}{st:St}{s:Nat}{d:D}{K:List (List D)→Prop}(h:wS st s d K)(hs0:0<s):
 ∃xs,K xs∧ ∀β a w v,Rel X st β a w→Rep (FX X st β w) β w v d→qQ (FX X st β w) w s v xs:=by
 unfold wS at h
 split at h
 ·rename_i s' es
  cases hb:Nat.beq s' s with
  |false=>rw[hb] at h;exact h.elim
  |true=>
   rw[hb] at h
   have:=Nat.eq_of_beq_eq_true hb
   subst this
   exact⟨_,h,fun β a w v hr he=>Uz hs0 he.uU⟩
 ·rename_i o
  split at h
  ·rename_i e' s' es ho
   cases hb:Nat.beq s' s with
   |false=>rw[hb] at h;exact h.elim
   |true=>
    rw[hb] at h
    have:=Nat.eq_of_beq_eq_true hb
    subst this
    exact⟨_,h,fun β a w v hr he=>Uy (hr.row ho he.iM)⟩
  ·exact h.elim
 ·rename_i o s2 lo hi
  split at h
  ·rename_i e' s' es ho
   cases hb:(Nat.beq s' s&&Nat.beq s2 s) with
   |false=>rw[hb] at h;exact h.elim
   |true=>
    rw[hb] at h
    obtain⟨hb3,h⟩:=fF.out h
    obtain⟨hb1,hb2⟩:=jZ hb
    have:=Nat.eq_of_beq_eq_true hb1
    subst this
    have:=Nat.eq_of_beq_eq_true hb2
    subst this
    refine⟨_,h,fun β a w v hr he=> ?_⟩
    obtain⟨y,hy,hsub⟩:=he.mO
    exact UA hs0 (hr.row ho hy) hsub hb3
  ·rename_i e' s' es c ho
   cases hb:(Nat.beq s' s&&Nat.beq s2 s) with
   |false=>rw[hb] at h;exact h.elim
   |true=>
    rw[hb] at h
    obtain⟨hb3,h⟩:=fF.out h
    obtain⟨hb1,hb2⟩:=jZ hb
    have:=Nat.eq_of_beq_eq_true hb1
    subst this
    have:=Nat.eq_of_beq_eq_true hb2
    subst this
    refine⟨_,h,fun β a w v hr he=> ?_⟩
    obtain⟨y,hy,hsub⟩:=he.mO
    exact Ux hs0 (hr.A8 ho hy) hsub hb3
  ·exact h.elim
 ·exact⟨_,h,fun β a w v hr he=> .inl ⟨0,he.kZ,rfl⟩⟩
 ·exact h.elim
def Il(P:Program)(st:St)(dst:Option Nat)(t:TypeId)(b x:D)(K:St→Prop):Prop:=
 match P.underlying t with
 |some (.slice e)=>match b with
  | .hs o s2 a p=>match st.obj o with
    | .row e' s es=>bif Nat.beq e e'&&Nat.beq s (P.cellsOf e)&&Nat.beq s2 s&&Nat.beq a 0&&Nat.blt 0 s then
       wS st s x fun xs=>fF (p+xs.length≤es.length) (jo (es.take p++(xs++es.drop (p+xs.length))) fun l=>vZ st o (.row e' s l) fun st=>gK st dst (.hs o s 0 (p+xs.length)) K) else False
    |_=>False
  |_=>False
 |_=>False
section
variable {X:Ctx} {st:St} {β:Nat→Option Value} {a:Act} {w:World} {K:St→Prop} {Q:Exit→Act→World→Prop}
theorem CG{a b c d e:Bool}(h:(a&&b&&c&&d&&e)=true):a=true∧b=true∧c=true∧d=true∧e=true:=by
 simp only[Bool.and_eq_true] at h
 exact⟨h.1.1.1.1,h.1.1.1.2,h.1.1.2,h.1.2,h.2⟩
theorem VO{P:Program}{o:Oper}{a:Act}{w:World}{t u:TypeId}{s x:Operand}(ho:o.op= .call { callee:= .builtin .append,args:= #[s,x],argTypes:= #[t,u] }){r:Result Value}(hr:(Builtin.append_ #[t,u] o.type #[a.eval s,a.eval x]).run P w=r):
 (execOp a.eval o).run P w=r.andThen fun v w'=> .ok (.value v) w':=by
 simp only[execOp,ho,resolve,invoke,builtin,Sem.run_bind,Sem.run_pure,Result.andThen_ok,List.map_toArray,List.map_cons,List.map_nil,hr]
theorem XC{o:Oper}{t:TypeId}{s x:Operand}(ho:o.op= .call { callee:= .builtin .append,args:= #[s,x],argTypes:= #[t,t] })(h:Il X.P st o.dst t (st.ev s) (st.ev x) K)(hr:Rel X st β a w):
 o.wp X.P a w (PostR X K) Q:=by
 unfold Il at h
 split at h
 ·rename_i e ht
  split at h
  ·rename_i oo s2 a0 p hs
   split at h
   ·rename_i e' sz es hob
    cases hb:(Nat.beq e e'&&Nat.beq sz (X.P.cellsOf e)&&Nat.beq s2 sz&&Nat.beq a0 0&&Nat.blt 0 sz) with
    |false=>rw[hb] at h;exact h.elim
    |true=>
     rw[hb] at h
     obtain⟨g1,g2,g3,g4,g5⟩:=CG hb
     have g1:=Nat.eq_of_beq_eq_true g1
     have g2:=Nat.eq_of_beq_eq_true g2
     have g3:=Nat.eq_of_beq_eq_true g3
     have g4:=Nat.eq_of_beq_eq_true g4
     have g5:0<sz:=by simpa[Nat.blt_eq] using g5
     subst g1 g3 g4
     simp only[cond_true] at h
     obtain⟨xs,hk,hnews⟩:=Jz (X:=X) h g5
     obtain⟨hroom,hk⟩:=fF.out hk
     have hk:=eX (yj (jo.out hk))
     have hes:=hr.ev s
     rw[hs] at hes
     obtain⟨y,hy,hsub⟩:=hes.mO
     cases hi:X.P.info? e with
     |none=>simp[Program.cellsOf,hi] at g2;omega
     |some i=>
      have hsz:i.size=s2:=by rw[g2];simp[Program.cellsOf,hi]
      obtain⟨v',w',hrun,hg,ad3,hown⟩:=XE (ty:=o.type) ht hi hsz g5 (hr.row hob hy) hsub (hnews β a w _ hr (hr.ev x)) hroom
      have hn:=hr.store hy hg (.row e s2 (es.take p++(xs++es.drop (p+xs.length)))) trivial (fun F' hF=>hown F' hF)
      exact kP (v:=v') (w':=w') (by rw[VO ho hrun];rfl) ⟨_,_,hk,hn.put _ (.hs _ _ _ _ _ _ hy ad3)⟩
   ·exact h.elim
  ·exact h.elim
 ·exact h.elim
def Io(P:Program)(st:St)(dst:Option Nat)(t u:TypeId)(b x:D)(K:St→Prop):Prop:=
 match P.underlying t,P.underlying u with
 |some (.slice e),some (.int _)=>uX P e fun z=>match b,x with
  | .hs o s2 a p, .int _ n=>match st.obj o with
    | .blk e' s es c=>bif Nat.beq e e'&&Nat.beq s (P.cellsOf e)&&Nat.beq s2 s&&Nat.beq a 0&&Nat.blt 0 s&&(Nat.beq z.length (P.cellsOf e)&&Nat.blt 0 (P.bytesOf e)&&z.all cZ) then
       fF (0<n∧p≤es.length∧(c:Int)<p+n∧0<c) (bZ ((p+n.toNat)*P.bytesOf e≤140737488355328) (jo (es.take p++List.replicate n.toNat z) fun l=>uQ st (.row e' s l) fun m st=>gK st dst (.h m) K)) else False
    |_=>False
  |_,_=>False
 |_,_=>False
theorem XD{o:Oper}{t u:TypeId}{s x:Operand}(ho:o.op= .call { callee:= .builtin .append,args:= #[s,x],argTypes:= #[t,u] })(h:Io X.P st o.dst t u (st.ev s) (st.ev x) K)(hr:Rel X st β a w):
 o.wp X.P a w (PostR X K) Q:=by
 unfold Io at h
 split at h
 ·rename_i e kn ht hu
  obtain⟨z,i,hi,hz,hf,hk,lW⟩:=yC h
  clear h
  split at hk
  ·rename_i oo s2 a0 p kk n hs hx
   split at hk
   ·rename_i e' sz es c hob
    cases hb:(Nat.beq e e'&&Nat.beq sz (X.P.cellsOf e)&&Nat.beq s2 sz&&Nat.beq a0 0&&Nat.blt 0 sz&&(Nat.beq (fQ z).cells.length (X.P.cellsOf e)&&Nat.blt 0 (X.P.bytesOf e)&&(fQ z).cells.all cZ)) with
    |false=>rw[hb] at hk;exact hk.elim
    |true=>
     rw[hb] at hk
     obtain⟨hb1,hb2⟩:=jZ hb
     obtain⟨g1,g2,g3,g4,g5⟩:=CG hb1
     simp only[Bool.and_eq_true] at hb2
     obtain⟨⟨g6,g7⟩,g8⟩:=hb2
     have g1:=Nat.eq_of_beq_eq_true g1
     have g2:=Nat.eq_of_beq_eq_true g2
     have g3:=Nat.eq_of_beq_eq_true g3
     have g4:=Nat.eq_of_beq_eq_true g4
     have g5:0<sz:=by simpa[Nat.blt_eq] using g5
     have g6:=Nat.eq_of_beq_eq_true g6
     have g7:0<X.P.bytesOf e:=by simpa[Nat.blt_eq] using g7
     subst g1 g3 g4
     simp only[cond_true] at hk
     obtain⟨⟨n0,n1,n2,n3⟩,hk⟩:=fF.out hk
     obtain⟨hbytes,hk⟩:=bZ.out hk
     have hk:=eX (yh (jo.out hk))
     have hes:=hr.ev s
     rw[hs] at hes
     obtain⟨y,hy,hsub⟩:=hes.mO
     have hex:=hr.ev x
     rw[hx] at hex
     have hxv:=hex.eU
     have hnn:n=((n.toNat:Nat):Int):=by omega
     rw[hnn] at hxv
     have hsz:i.size=s2:=by rw[g2];simp[Program.cellsOf,hi]
     have hby:i.bytes=X.P.bytesOf e:=by simp[Program.bytesOf,hi]
     have hzc:jK (fun _=>False) (fun _=>none) w z.cells.toList (fQ z).cells:=xM hf
     have hzs:z.cells.size=s2:=by have:=hzc.1;simp at this;omega
     obtain⟨v',w',hrun,hg,hwh,hown⟩:=XH (ty:=o.type) (kk:=kk) (n:=n.toNat) ht hu hi hz hsz hzc hzs g8 g5 (hr.A8 hob hy) hsub n1 ah n3 ah (by rw[hby];exact hbytes) (by rw[hby];exact g7)
     rw[←hxv] at hrun
     have hn:=hr.zu (w':=w') (e:=e) (s:=s2) (es:=es.take p++List.replicate n.toNat (fQ z).cells) (x:=v') hg hwh (fun F' hF=>hown F' hF)
     exact kP (v:=v') (w':=w') (by rw[VO ho hrun];rfl) ⟨_,_,hk,hn.put _ (zx hr (.row e s2 (es.take p++List.replicate n.toNat (fQ z).cells)) _ _ _)⟩
   ·exact hk.elim
  ·exact hk.elim
 ·exact h.elim
def short(k:Nat):D→D
 | .hs o s a b=> .hs o s a (min b (a+k))
 |d=>d
def Jp(P:Program)(st:St)(dst:Option Nat)(t:TypeId)(b x:D)(K:St→Prop):Prop:=
 match P.underlying t with
 |some (.slice e)=>match b with
  | .hs o s2 a p=>match st.obj o with
    | .row e' s es=>bif Nat.beq e e'&&Nat.beq s (P.cellsOf e)&&Nat.beq s2 s&&true&&Nat.blt 0 s then
       wS st s (short (p-a) x) fun xs=>fF (p≤es.length) (jo (es.take a++(xs.take (p-a)++es.drop (a+(xs.take (p-a)).length))) fun l=>vZ st o (.row e' s l) fun st=>gK st dst .junk K) else False
    | .blk e' s es c=>bif Nat.beq e e'&&Nat.beq s (P.cellsOf e)&&Nat.beq s2 s&&true&&Nat.blt 0 s then
       wS st s (short (p-a) x) fun xs=>fF (p≤c∧a≤es.length) (jo (es.take a++(xs.take (p-a)++es.drop (a+(xs.take (p-a)).length))) fun l=>vZ st o (.blk e' s l c) fun st=>gK st dst .junk K) else False
    |_=>False
  |_=>False
 |_=>False
theorem agE{P:Program}{F:Nat→Prop}{w:World}{t u ty e:TypeId}{i:TypeInfo}(ht:P.underlying t=some (.slice e))(hi:P.info? e=some i){q:Option Addr}{dl dc:Nat}{d:D}{v:Value}(hv:Rep F β w v d):
 ∃v',Rep F β w v' (short dl d)∧(Builtin.copy_ #[t,u] ty #[.slice q dl dc,v]).run P w=(Builtin.copy_ #[t,u] ty #[.slice q dl dc,v']).run P w:=by
 cases d with
 |hs o s a b=>
  obtain⟨y,hy,p,len,cap,q2,hyv,hab,hb,hlc,rfl,hq⟩:=hv.mO
  refine⟨.slice q2 (min b (a+dl)-a) (cap-a), .hs _ _ _ _ _ _ hy ⟨p,len,cap,q2,hyv,by omega,by omega,hlc,rfl,hq⟩,?_⟩
  have e1:Nat.min (b-a) dl=Nat.min (min b (a+dl)-a) dl:=by
   show min (b-a) dl=min (min b (a+dl)-a) dl
   omega
  have e2: ∀n m c,Builtin.firstCells i.size n (.slice q2 m c)=Builtin.firstCells i.size n (.slice q2 (b-a) (cap-a)):=by
   intro n m c
   cases q2<;>rfl
  simp[Builtin.copy_,run_underlying ht,sizeOf,typeInfo,hi,Builtin.lenOf,e1,e2]
 |_=>exact⟨v,hv,rfl⟩
theorem agw{P:Program}{o:Oper}{a:Act}{w:World}{t u:TypeId}{s x:Operand}(ho:o.op= .call { callee:= .builtin .copy,args:= #[s,x],argTypes:= #[t,u] }){r:Result Value}(hr:(Builtin.copy_ #[t,u] o.type #[a.eval s,a.eval x]).run P w=r):
 (execOp a.eval o).run P w=r.andThen fun v w'=> .ok (.value v) w':=by
 simp only[execOp,ho,resolve,invoke,builtin,Sem.run_bind,Sem.run_pure,Result.andThen_ok,List.map_toArray,List.map_cons,List.map_nil,hr]
theorem ach{o:Oper}{t u:TypeId}{s x:Operand}(ho:o.op= .call { callee:= .builtin .copy,args:= #[s,x],argTypes:= #[t,u] })(h:Jp X.P st o.dst t (st.ev s) (st.ev x) K)(hr:Rel X st β a w):
 o.wp X.P a w (PostR X K) Q:=by
 unfold Jp at h
 split at h
 ·rename_i e ht
  split at h
  ·rename_i oo s2 a0 p hs
   have hes:=hr.ev s
   rw[hs] at hes
   obtain⟨y,hy,hsub⟩:=hes.mO
   have hsub0:=hsub
   obtain⟨p0,len,cap,q,hyv,hab,hbc,hlc,hsv,hq⟩:=hsub0
   have Sv: ∀i,X.P.info? e=some i→ ∃v',Rep (FX X st β w) β w v' (short (p-a0) (st.ev x))∧ ∀r,(Builtin.copy_ #[t,u] o.type #[a.eval s,v']).run X.P w=r→(execOp a.eval o).run X.P w=r.andThen fun v w'=> .ok (.value v) w':=by
    intro i hi
    obtain⟨v',hv',e1⟩:=agE (P:=X.P) (u:=u) (ty:=o.type) (q:=q) (dl:=p-a0) (dc:=cap-a0) ht hi (hr.ev x)
    refine⟨v',hv',fun r hrr=>agw ho ?_⟩
    rw[hsv] at hrr⊢
    rw[e1]
    exact hrr
   split at h
   ·rename_i e' sz es hob
    cases hb:(Nat.beq e e'&&Nat.beq sz (X.P.cellsOf e)&&Nat.beq s2 sz&&true&&Nat.blt 0 sz) with
    |false=>rw[hb] at h;exact h.elim
    |true=>
     rw[hb] at h
     obtain⟨g1,g2,g3,_,g5⟩:=CG hb
     have g1:=Nat.eq_of_beq_eq_true g1
     have g2:=Nat.eq_of_beq_eq_true g2
     have g3:=Nat.eq_of_beq_eq_true g3
     have g5:0<sz:=by simpa[Nat.blt_eq] using g5
     subst g1 g3
     simp only[cond_true] at h
     obtain⟨xs,hk,hnews⟩:=Jz (X:=X) h g5
     obtain⟨hroom,hk⟩:=fF.out hk
     have hk:=eX (yj (jo.out hk))
     cases hi:X.P.info? e with
     |none=>simp[Program.cellsOf,hi] at g2;omega
     |some i=>
      have hsz:i.size=s2:=by rw[g2];simp[Program.cellsOf,hi]
      obtain⟨v',hv',hx'⟩:=Sv i hi
      obtain⟨y',w',hrun,hg,hown⟩:=acg (ty:=o.type) (u:=u) ht hi hsz g5 (hr.row hob hy) hsub (hnews β a w _ hr hv') hroom
      have hn:=hr.store hy hg (.row e s2 (es.take a0++(xs.take (p-a0)++es.drop (a0+(xs.take (p-a0)).length)))) trivial (fun F' hF=>hown F' hF)
      exact kP (v:=y') (w':=w') (by rw[hx' _ hrun];rfl) ⟨_,_,hk,hn.put _ (.ro _ _ (.junk _))⟩
   ·rename_i e' sz es c hob
    cases hb:(Nat.beq e e'&&Nat.beq sz (X.P.cellsOf e)&&Nat.beq s2 sz&&true&&Nat.blt 0 sz) with
    |false=>rw[hb] at h;exact h.elim
    |true=>
     rw[hb] at h
     obtain⟨g1,g2,g3,_,g5⟩:=CG hb
     have g1:=Nat.eq_of_beq_eq_true g1
     have g2:=Nat.eq_of_beq_eq_true g2
     have g3:=Nat.eq_of_beq_eq_true g3
     have g5:0<sz:=by simpa[Nat.blt_eq] using g5
     subst g1 g3
     simp only[cond_true] at h
     obtain⟨xs,hk,hnews⟩:=Jz (X:=X) h g5
     obtain⟨⟨hroom,adZ⟩,hk⟩:=fF.out hk
     have hk:=eX (yj (jo.out hk))
     cases hi:X.P.info? e with
     |none=>simp[Program.cellsOf,hi] at g2;omega
     |some i=>
      have hsz:i.size=s2:=by rw[g2];simp[Program.cellsOf,hi]
      obtain⟨v',hv',hx'⟩:=Sv i hi
      obtain⟨y',w',hrun,hg,hown⟩:=acf (ty:=o.type) (u:=u) ht hi hsz (hr.A8 hob hy) hsub (hnews β a w _ hr hv') hroom adZ
      have hn:=hr.store hy hg (.blk e s2 (es.take a0++(xs.take (p-a0)++es.drop (a0+(xs.take (p-a0)).length))) c) trivial (fun F' hF=>hown F' hF)
      exact kP (v:=y') (w':=w') (by rw[hx' _ hrun];rfl) ⟨_,_,hk,hn.put _ (.ro _ _ (.junk _))⟩
   ·exact h.elim
  ·exact h.elim
 ·exact h.elim
def Ji(P:Program)(st:St)(dst:Option Nat)(t:TypeId)(b:D)(K:St→Prop):Prop:=
 match P.underlying t with
 |some (.slice e)=>uX P e fun z=>match b with
  | .hs o s2 a p=>match st.obj o with
    | .row e' s es=>bif Nat.beq e e'&&Nat.beq s (P.cellsOf e)&&Nat.beq s2 s&&z.all cZ&&Nat.blt 0 s&&Nat.beq z.length (P.cellsOf e) then
       fF (p≤es.length) (jo (es.take a++(List.replicate (p-a) z++es.drop (a+(List.replicate (p-a) z).length))) fun l=>vZ st o (.row e' s l) fun st=>gK st dst .junk K) else False
    |_=>False
  |_=>False
 |_=>False
theorem ab6{o:Oper}{t:TypeId}{s:Operand}(ho:o.op= .call { callee:= .builtin .clear,args:= #[s],argTypes:= #[t] })(h:Ji X.P st o.dst t (st.ev s) K)(hr:Rel X st β a w):
 o.wp X.P a w (PostR X K) Q:=by
 unfold Ji at h
 split at h
 ·rename_i e ht
  obtain⟨z,i,hi,hz,hf,hk,lW⟩:=yC h
  clear h
  split at hk
  ·rename_i oo s2 a0 p hs
   have hes:=hr.ev s
   rw[hs] at hes
   obtain⟨y,hy,hsub⟩:=hes.mO
   split at hk
   ·rename_i e' sz es hob
    cases hb:(Nat.beq e e'&&Nat.beq sz (X.P.cellsOf e)&&Nat.beq s2 sz&&(fQ z).cells.all cZ&&Nat.blt 0 sz&&Nat.beq (fQ z).cells.length (X.P.cellsOf e)) with
    |false=>rw[hb] at hk;exact hk.elim
    |true=>
     rw[hb] at hk
     obtain⟨hb,g6⟩:=jZ hb
     obtain⟨g1,g2,g3,g4,g5⟩:=CG hb
     have g1:=Nat.eq_of_beq_eq_true g1
     have g2:=Nat.eq_of_beq_eq_true g2
     have g3:=Nat.eq_of_beq_eq_true g3
     have g5:0<sz:=by simpa[Nat.blt_eq] using g5
     have g6:=Nat.eq_of_beq_eq_true g6
     subst g1 g3
     simp only[cond_true] at hk
     obtain⟨hroom,hk⟩:=fF.out hk
     have hk:=eX (yj (jo.out hk))
     have hzc:jK (fun _=>False) (fun _=>none) w z.cells.toList (fQ z).cells:=xM hf
     have hzs:z.cells.size=s2:=by have:=hzc.1;simp at this;omega
     obtain⟨y',w',hrun,hg,hown⟩:=ab5 (ty:=o.type) ht lW hzc hzs g4 g5 (hr.row hob hy) hsub hroom
     have hn:=hr.store hy hg (.row e s2 (es.take a0++(List.replicate (p-a0) (fQ z).cells++es.drop (a0+(List.replicate (p-a0) (fQ z).cells).length)))) trivial (fun F' hF=>hown F' hF)
     refine kP (v:=y') (w':=w') ?_ ⟨_,_,hk,hn.put _ (.ro _ _ (.junk _))⟩
     simp only[execOp,ho,resolve,invoke,builtin,Sem.run_bind,Sem.run_pure,Result.andThen_ok,List.map_toArray,List.map_cons,List.map_nil,hrun]
   ·exact hk.elim
  ·exact hk.elim
 ·exact h.elim
end
end Go.Eng
namespace Go.Eng
open Go Go.RowKit
def nU(f:D→D):D→D
 | .agg cs=> .agg (cs.map f)
 | .clo g cs=> .clo g (cs.map f)
 | .aN _=> .junk
 |d=>f d
def uV(f:D→D):D→D
 | .aN ds=> .aN (ds.map (nU f))
 |d=>nU f d
def zG(f:D→D):List (Nat×D)→List (Nat×D)
 |[]=>[]
 |(k,d)::r=>(k,uV f d)::zG f r
def wB(f:D→D):Obj→Obj
 | .box cs=> .box (cs.map (nU f))
 | .frame vs e=> .frame vs (zG f e)
 |ob=>ob
theorem ag4{f:D→D}{o:Obj} :(wB f o).live↔o.live:=by cases o<;>simp[wB,Obj.live]
theorem TR{f:D→D}(hj:f .junk= .junk)(e:List (Nat×D))(i:Nat):look (zG f e) i=uV f (look e i):=by
 induction e with
 |nil=>exact hj.symm
 |cons x r ih=>
  obtain⟨k,d⟩:=x
  simp only[zG,look]
  cases Nat.beq i k<;>simp[ih]
section
variable {F F':Nat→Prop} {β β':Nat→Option Value} {w:World} {f:D→D} (hj:f .junk= .junk) (hf: ∀v d,Rep F β w v d→Rep F' β' w v (f d))
include hj hf
theorem Rep.nU{v:Value}{d:D}(h:Rep F β w v d):Rep F' β' w v (Eng.nU f d):=by
 cases d with
 |agg ds=>
  obtain⟨cs,rfl,hl,h1,hr⟩:=h.jM
  refine .agg _ _ jY h1 (fun i hi=> ?_)
  rw[gy _ hj]
  exact hf _ _ (hr i iI)
 |clo g ds=>
  obtain⟨cs,rfl,hl,hr⟩:=h.qR
  refine .clo _ _ _ jY (fun i hi=> ?_)
  rw[gy _ hj]
  exact hf _ _ (hr i iI)
 |aN ds=>exact .ro _ _ (.junk _)
 |_=>exact hf _ _ h
theorem Rep.uV{v:Value}{d:D}(h:Rep F β w v d):Rep F' β' w v (Eng.uV f d):=by
 cases d with
 |aN ds=>
  obtain⟨cs,rfl,hl,hr⟩:=h.pz
  refine .aN _ _ jY (fun i hi=> ?_)
  rw[gy (Eng.nU f) hj]
  exact(hr i iI).nU hj hf
 |_=>exact h.nU hj hf
theorem Own.up{o:Obj}{x:Value}(hF: ∀b,F b→F' b)(h:Own F β w o x):Own F' β' w (wB f o) x:=by
 cases o with
 |dead=>trivial
 |row e s es=>
  obtain⟨h1,h2,xs,h3,h4,h5⟩:=h
  exact⟨h1,h2,xs,h3,h4,fun i j hi hj=>(h5 i j hi hj).mono (fun b hb=>⟨hF b hb,rfl⟩)⟩
 |box cs=>
  obtain⟨b,c,T,rfl,hg,hs,h1,hr⟩:=h
  refine⟨b,c,T,rfl,hg,by simp[hs],h1,fun j hj'=> ?_⟩
  rw[gy (Eng.nU f) hj]
  exact(hr j (by simpa using hj')).nU hj hf
 |frame vs e=>
  obtain⟨rfl,hr⟩:=h
  refine⟨rfl,fun i=> ?_⟩
  rw[TR hj]
  exact(hr i).uV hj hf
 |blk e s cs c=>
  obtain⟨g,cur,rfl,hg,h2,h3,h4,h5,h6⟩:=h
  exact⟨g,cur,rfl,hg,h2,h3,h4,h5,fun i j hi hj=>⟨(h6 i j hi hj).1,(h6 i j hi hj).2.mono (fun b hb=>⟨hF b hb,rfl⟩)⟩⟩
 |raw e s es=>
  obtain⟨g,cap,cur,m,rfl,hg,h2,h3,h4,h5,h6⟩:=h
  exact⟨g,cap,cur,m,rfl,hg,h2,h3,h4,h5,fun i j hi hj=>⟨(h6 i j hi hj).1,(h6 i j hi hj).2.mono (fun b hb=>⟨hF b hb,rfl⟩)⟩⟩
 |map P k e n f=>exact h
end
def St.swap(st:St)(o:Nat)(ob:Obj)(f:D→D):St:=⟨zG f st.env,st.nt,(st.objs.map (wB f)).set o ob,st.g,st.pin⟩
theorem Rel.swap{X:Ctx}{st:St}{β:Nat→Option Value}{a:Act}{w:World}(h:Rel X st β a w){o:Nat}{x x':Value}(hx:β o=some x)
 (hx': ∀b,blk x'=some b→blk x=some b)(Sl:st.pin≤o)(ob:Obj)(hob:ob.live)(f:D→D)(hj:f .junk= .junk)
 (hown: ∀F' β',(∀b,FX X st β w b→F' b)→Own F' β' w ob x')
 (hf: ∀F' β',(∀b,FX X st β w b→F' b)→(∀i y,i≠o→β i=some y→β' i=some y)→β' o=some x'→ ∀v d,Rep (FX X st β w) β w v d→Rep F' β' w v (f d)):
 ∃β',Rel X (st.swap o ob f) β' a w∧β' o=some x'∧ ∀v d,Rep (FX X st β w) β w v d→Rep (FX X (st.swap o ob f) β' w) β' w v (uV f d):=by
 obtain⟨hon,hol⟩:=h.dom o x hx
 have Kt:o<st.objs.length:=hon
 let st':St:=st.swap o ob f
 let β':Nat→Option Value:=fun i=>if i=o then some x' else β i
 have hn:st'.n=st.n:=by simp[st',St.n,St.swap]
 have hso:st'.obj o=ob:=by simp[st',St.obj,St.swap,List.getD_eq_getElem?_getD,Kt]
 have hsn: ∀i,i≠o→st'.obj i=wB f (st.obj i):=by
  intro i hi
  simp only[st',St.obj,St.swap,List.getD_eq_getElem?_getD,List.getElem?_set_ne (Ne.symm hi),List.getElem?_map]
  cases st.objs[i]? <;>simp[wB]
 have hlive: ∀i,(st'.obj i).live↔(st.obj i).live:=by
  intro i
  by_cases e:i=o
  ·subst e;rw[hso];exact⟨fun _=>hol,fun _=>hob⟩
  ·rw[hsn i e,ag4]
 have vN:β' o=some x':=by simp[β']
 have hβ: ∀i y,i≠o→β i=some y→β' i=some y:=by
  intro i y e hy
  simp only[β',if_neg e]
  exact hy
 have hF: ∀b,FX X st β w b→FX X st' β' w b:=by
  intro b hb
  refine⟨hb.1,hb.2.1,fun i hi hl y hy=> ?_⟩
  rw[hn] at hi
  by_cases e:i=o
  ·simp only[β',if_pos e] at hy
   cases hy
   exact fun hbx=>hb.2.2 o hon hol x hx (hx' b hbx)
  ·simp only[β',if_neg e] at hy
   exact hb.2.2 i hi ((hlive i).1 hl) y hy
 have J9:=hf (FX X st' β' w) β' hF hβ vN
 refine⟨β',⟨h.defers,h.size,fun i=> ?_,fun i y hy=> ?_,fun i hi hl=> ?_,fun i i' y y' b hy hy' hb hb'=> ?_,fun i y b hy hb=> ?_,h.kept,fun g cs hgl=>(h.glob g cs hgl).mono (fun b hb=>⟨hF b hb,rfl⟩),fun i hi=> ?_,by rw[hn];exact h.pinned⟩,vN,fun v d hv=>hv.uV hj J9⟩
 ·show Rep _ β' w _ (look (zG f st.env) i)
  rw[TR hj]
  exact(h.tmps i).uV hj J9
 ·show i<st'.n∧(st'.obj i).live
  rw[hn,hlive]
  by_cases e:i=o
  ·subst e;exact⟨hon,hol⟩
  ·simp only[β',if_neg e] at hy
   exact h.dom i y hy
 ·by_cases e:i=o
  ·subst e
   refine⟨x',vN,?_⟩
   show Own _ β' w (st'.obj i) x'
   rw[hso]
   exact hown _ _ hF
  ·have hi':i<st'.n:=hi
   obtain⟨y,hy,hw⟩:=h.own i (hn▸hi') ((hlive i).1 hl)
   refine⟨y,hβ i y e hy,?_⟩
   show Own _ β' w (st'.obj i) y
   rw[hsn i e]
   exact hw.up hj J9 hF
 ·by_cases e:i=o<;>by_cases e':i'=o
  ·rw[e,e']
  ·simp only[β',if_pos e] at hy
   simp only[β',if_neg e'] at hy'
   cases hy
   rw[e]
   exact h.sep o i' x y' b hx hy' (hx' b hb) hb'
  ·simp only[β',if_neg e] at hy
   simp only[β',if_pos e'] at hy'
   cases hy'
   rw[e']
   exact h.sep i o y x b hy hx hb (hx' b hb')
  ·simp only[β',if_neg e] at hy
   simp only[β',if_neg e'] at hy'
   exact h.sep i i' y y' b hy hy' hb hb'
 ·by_cases e:i=o
  ·simp only[β',if_pos e] at hy
   cases hy
   exact h.low o x b hx (hx' b hb)
  ·simp only[β',if_neg e] at hy
   exact h.low i y b hy hb
 ·have hi':i<st.pin:=hi
  simp only[β',if_neg (show i≠o by omega)]
  exact h.stay i hi'
def NQ(f:D→D):List (Nat×D)→(List (Nat×D)→Prop)→Prop
 |[],K=>K []
 |(k,d)::r,K=>force (uV f d) fun d'=>NQ f r fun l=>K ((k,d')::l)
theorem WU{f:D→D} : ∀ {e:List (Nat×D)} {K:List (Nat×D)→Prop},NQ f e K→K (zG f e)
 |[],_,h=>h
 |(k,d)::r,K,h=>WU (e:=r) (K:=fun l=>K ((k,uV f d)::l)) (oN h)
def NR(f:D→D):List Obj→(List Obj→Prop)→Prop
 |[],K=>K []
 |ob::r,K=>FP (wB f ob) fun ob'=>NR f r fun l=>K (ob'::l)
theorem WV{f:D→D} : ∀ {e:List Obj} {K:List Obj→Prop},NR f e K→K (e.map (wB f))
 |[],_,h=>h
 |ob::r,K,h=>WV (e:=r) (K:=fun l=>K (wB f ob::l)) (JM h)
def GV(st:St)(o:Nat)(ob:Obj)(f:D→D)(K:St→Prop):Prop:=
 match st with
 |⟨env,nt,objs,g,pin⟩=>NQ f env fun e=>NR f objs fun l=>zC l o ob fun l=>K ⟨e,nt,l,g,pin⟩
theorem GX{st:St}{o:Nat}{ob:Obj}{f:D→D}{K:St→Prop}(h:GV st o ob f K):K (st.swap o ob f):=by
 obtain⟨env,nt,objs,g,pin⟩:=st
 exact zD (WV (WU h))
@[irreducible] def uY(n:Nat)(K:Nat→Prop):Prop:= ∀c:Nat,n≤c→c≤maxLen→K c
theorem uY.mk{n:Nat}{K:Nat→Prop}(h: ∀c:Nat,n≤c→c≤maxLen→K c):uY n K:=by unfold uY;exact h
theorem uY.out{n:Nat}{K:Nat→Prop}(h:uY n K): ∀c:Nat,n≤c→c≤maxLen→K c:=by unfold uY at h;exact h
def cap0(o s n:Nat):D→D
 | .h p=>bif Nat.beq p o then .hs p s 0 n else .h p
 | .hp p k=>bif Nat.beq p o then .junk else .hp p k
 | .hr p s' i k=>bif Nat.beq p o then .junk else .hr p s' i k
 | .hs p s' a b=>bif Nat.beq p o then .junk else .hs p s' a b
 | .agg _=> .junk
 | .aN _=> .junk
 | .clo _ _=> .junk
 |d=>d
def capD(st:St)(dst:Option Nat)(b:D)(K:St→Prop):Prop:=
 match b with
 | .h o=>match st.obj o with
   | .row e s es=>bif Nat.blt 0 s&&Nat.ble st.pin o then fF (0<es.length) (uY es.length fun c=>GV st o (.blk e s es c) (cap0 o s es.length) fun st=>gK st dst (.int .i64 c) K) else False
   |_=>False
 |_=>False
section
variable {X:Ctx} {st:St} {β:Nat→Option Value} {a:Act} {w:World} {K:St→Prop} {Q:Exit→Act→World→Prop}
theorem ab2{F F':Nat→Prop}{β β':Nat→Option Value}{w:World}{o s n g c:Nat}(hF: ∀b,F b→F' b)(hx:β o=some (.slice (some ⟨g,0,none⟩) n c))(hnc:n≤c)(hβ: ∀i y,i≠o→β i=some y→β' i=some y)(ho:β' o=some (.slice (some ⟨g,0,none⟩) c c)){v:Value}{d:D}(h:Rep F β w v d):
 Rep F' β' w v (cap0 o s n d):=by
 cases h with
 |ro x d h=>
  cases d<;>simp only[Eng.cap0]<;>first|exact .ro _ _ (.junk _)|exact .ro _ _ (h.mono (fun b hb=>⟨hF b hb,rfl⟩))|cases h
 |h p y h=>
  simp only[Eng.cap0]
  cases hp:Nat.beq p o with
  |true=>
   have:=Nat.eq_of_beq_eq_true hp
   subst this
   rw[hx] at h
   cases h
   exact .hs _ _ _ _ _ _ ho ⟨_,_,_,some ⟨g,0,none⟩,rfl,Nat.zero_le _,hnc,Nat.le_refl _,rfl,fun _=>by simp[Addr.add]⟩
  |false=>exact .h _ _ (hβ _ _ (fun e=>by subst e;simp at hp) h)
 |hp p off b y h hb=>
  simp only[Eng.cap0]
  cases hp:Nat.beq p o with
  |true=>exact .ro _ _ (.junk _)
  |false=>exact .hp _ _ _ _ (hβ _ _ (fun e=>by subst e;simp at hp) h) hb
 |hr p s i off b y h hb=>
  simp only[Eng.cap0]
  cases hp:Nat.beq p o with
  |true=>exact .ro _ _ (.junk _)
  |false=>exact .hr _ _ _ _ _ _ (hβ _ _ (fun e=>by subst e;simp at hp) h) hb
 |hs p s a b y v h hv=>
  simp only[Eng.cap0]
  cases hp:Nat.beq p o with
  |true=>exact .ro _ _ (.junk _)
  |false=>exact .hs _ _ _ _ _ _ (hβ _ _ (fun e=>by subst e;simp at hp) h) hv
 |agg=>exact .ro _ _ (.junk _)
 |aN=>exact .ro _ _ (.junk _)
 |clo=>exact .ro _ _ (.junk _)
theorem ab4{o:Oper}{t e:TypeId}{s:Operand}(ht:X.P.underlying t=some (.slice e))(ho:o.op= .call { callee:= .builtin .cap,args:= #[s],argTypes:= #[t] })(h:capD st o.dst (st.ev s) K)(hr:Rel X st β a w):
 o.wp X.P a w (PostR X K) Q:=by
 unfold capD at h
 split at h
 ·rename_i oo hs
  split at h
  ·rename_i e' sz es hob
   cases hb:(Nat.blt 0 sz&&Nat.ble st.pin oo) with
   |false=>rw[hb] at h;exact h.elim
   |true=>
    rw[hb] at h
    obtain⟨g1,g2⟩:=jZ hb
    have g1:0<sz:=by simpa[Nat.blt_eq] using g1
    have g2:st.pin≤oo:=by simpa using g2
    simp only[cond_true] at h
    obtain⟨h0,h⟩:=fF.out h
    have hes:=hr.ev s
    rw[hs] at hes
    have hβ:=hes.iM
    have hrow:=hr.row hob hβ
    obtain⟨g,c,hv,hnc,hblk⟩:=ab3 g1 hrow h0
    have hcm:c≤maxLen:=by obtain⟨_,_,_,_,_,h,_⟩:=hblk;exact h
    have hk:=eX (GX (uY.out h c hnc hcm))
    rw[hv] at hβ
    obtain⟨β',hn,_,_⟩:=hr.swap (x':= .slice (some ⟨g,0,none⟩) c c) hβ (fun b hb=>hb) g2 (.blk e' sz es c) trivial (cap0 oo sz es.length) rfl
     (fun F' β' hF=>by
       obtain⟨g',cur,k1,k2,k3,k4,k5,k6,k7⟩:=hblk
       exact⟨g',cur,k1,k2,k3,k4,k5,k6,fun i j hi hj=>⟨(k7 i j hi hj).1,(k7 i j hi hj).2.mono (fun b hb=>⟨hF b hb,rfl⟩)⟩⟩)
     (fun F' β' hF hb1 hb2 v d hvd=>ab2 hF hβ hnc hb1 hb2 hvd)
    refine kP (v:= .int .i64 c) (w':=w) ?_ ⟨_,_,hk,hn.put _ (.ro _ _ (.int _ _))⟩
    simp only[execOp,ho,resolve,invoke,builtin,Sem.run_bind,Sem.run_pure,Result.andThen_ok,List.map_toArray,List.map_cons,List.map_nil,hv]
    simp[Builtin.cap_,run_underlying ht,goInt]
  ·exact h.elim
 ·exact h.elim
def BM(o:Nat):D→D:=kL (Nat.beq o)
def EF(d:D)(st:St)(K:D→St→Prop):Prop:=
 match d with
 | .hs o s2 a k=>match st.obj o with
   | .row e s es=>bif Nat.beq s2 s&&Nat.beq a 0&&Nat.blt 0 s&&Nat.ble st.pin o then fF (k≤es.length) (GV st o (.row e s (es.take k)) (BM o) fun st=>K (.h o) st) else False
   | .blk e s es c=>bif Nat.beq s2 s&&Nat.beq a 0&&Nat.blt 0 s&&Nat.ble st.pin o then fF (k≤es.length) (GV st o (.row e s (es.take k)) (BM o) fun st=>K (.h o) st) else False
   |_=>K (.hs o s2 a k) st
 |d=>K d st
theorem Oi{a b c d:Bool}(h:(a&&b&&c&&d)=true):a=true∧b=true∧c=true∧d=true:=by
 simp only[Bool.and_eq_true] at h
 exact⟨h.1.1.1,h.1.1.2,h.1.2,h.2⟩
theorem NJ{F F':Nat→Prop}{β β':Nat→Option Value}{w:World}{o:Nat}(hF: ∀b,F b→F' b)(hβ: ∀i y,i≠o→β i=some y→β' i=some y){v:Value}{d:D}(h:Rep F β w v d):Rep F' β' w v (BM o d):=
 h.kL (fun b hb=>⟨hF b hb,rfl⟩) (fun i y hi hy=>hβ i y (fun e=>by subst e;simp at hi) hy)
theorem WR{F:Nat→Prop}{w:World}{e:TypeId}{s g n c k:Nat}{es:List (List D)}{cur:Array Value}(hs0:0<s){v:Value}(hsub:Sub s 0 k (.slice (some ⟨g,0,none⟩) n c) v)(hg:w.heap[g]? =some (.cells cur e (0,0)))(hcm:c≤maxLen)(hcs:cur.size=c*s)(hk:fV F w s cur.toList es)(hke:k≤es.length):
 gu F w e s (es.take k) v∧blk v=some g:=by
 obtain⟨p,len,cap,q,hxv,_,hb,hlc,rfl,hq⟩:=hsub
 cases hxv
 have hq':q=some ⟨g,0,none⟩:=by
  rw[hq (.inr rfl)]
  simp[Addr.add]
 subst hq'
 exact⟨KY hs0 hg yD ah hcm hcs hk.afg,rfl⟩
theorem ag0{d:D}{v:Value}{K:D→St→Prop}(h:EF d st K)(hr:Rel X st β a w)(hv:Rep (FX X st β w) β w v d):
 ∃d' st' β',K d' st'∧Rel X st' β' a w∧Rep (FX X st' β' w) β' w v d':=by
 unfold EF at h
 split at h
 ·rename_i o s2 a0 k
  obtain⟨y,hy,hsub⟩:=hv.mO
  split at h
  ·rename_i e s es ho
   cases hb:(Nat.beq s2 s&&Nat.beq a0 0&&Nat.blt 0 s&&Nat.ble st.pin o) with
   |false=>rw[hb] at h;exact h.elim
   |true=>
    rw[hb] at h
    obtain⟨g1,g2,g3,g4⟩:=Oi hb
    have g1:=Nat.eq_of_beq_eq_true g1
    have g2:=Nat.eq_of_beq_eq_true g2
    have g3:0<s:=by simpa[Nat.blt_eq] using g3
    have g4:st.pin≤o:=by simpa using g4
    subst g1 g2
    simp only[cond_true] at h
    obtain⟨hke,h⟩:=fF.out h
    have hrow:=hr.row ho hy
    rcases Bv hrow with⟨rfl,rfl⟩|⟨g,cap,cur,rfl,hg,hnc,hcm,hcs,hk⟩
    ·obtain⟨p,len,cap,q,hxv,_,hb,hlc,rfl,hq⟩:=hsub
     cases hxv
     have hq':q=none:=hq (.inr rfl)
     subst hq'
     have hk0:k=0:=by omega
     subst hk0
     obtain⟨β',hn,vN,_⟩:=hr.swap (x':= .slice none 0 0) hy (fun b hb=>hb) g4 (.row e s2 (([]:List (List D)).take 0)) trivial (BM o) rfl
      (fun F' β' hF=>⟨by simp,fun i hi=>by simp at hi,[],World.ownsRow_nil w 0 e _,fun u hu=>by simp at hu,fun i j hi=>by simp at hi⟩)
      (fun F' β' hF hb1 hb2 v d hvd=>NJ hF hb1 hvd)
     exact⟨_,_,β',GX h,hn, .h _ _ vN⟩
    ·obtain⟨hown,hblk⟩:=WR g3 hsub hg hcm hcs hk hke
     obtain⟨β',hn,vN,_⟩:=hr.swap (x':=v) hy (fun b hb=>by rw[hblk] at hb;exact hb) g4 (.row e s2 (es.take k)) trivial (BM o) rfl
      (fun F' β' hF=>by
        obtain⟨h1,h2,xs,h3,h4,h5⟩:=hown
        exact⟨h1,h2,xs,h3,h4,fun i j hi hj=>(h5 i j hi hj).mono (fun b hb=>⟨hF b hb,rfl⟩)⟩)
      (fun F' β' hF hb1 hb2 v d hvd=>NJ hF hb1 hvd)
     exact⟨_,_,β',GX h,hn, .h _ _ vN⟩
  ·rename_i e s es c ho
   cases hb:(Nat.beq s2 s&&Nat.beq a0 0&&Nat.blt 0 s&&Nat.ble st.pin o) with
   |false=>rw[hb] at h;exact h.elim
   |true=>
    rw[hb] at h
    obtain⟨g1,g2,g3,g4⟩:=Oi hb
    have g1:=Nat.eq_of_beq_eq_true g1
    have g2:=Nat.eq_of_beq_eq_true g2
    have g3:0<s:=by simpa[Nat.blt_eq] using g3
    have g4:st.pin≤o:=by simpa using g4
    subst g1 g2
    simp only[cond_true] at h
    obtain⟨hke,h⟩:=fF.out h
    obtain⟨g,cur,rfl,hg,xU,hcm,hcs,hk⟩:=hr.A8 ho hy
    obtain⟨hown,hblk⟩:=WR g3 hsub hg hcm hcs hk hke
    obtain⟨β',hn,vN,_⟩:=hr.swap (x':=v) hy (fun b hb=>by rw[hblk] at hb;exact hb) g4 (.row e s2 (es.take k)) trivial (BM o) rfl
     (fun F' β' hF=>by
       obtain⟨h1,h2,xs,h3,h4,h5⟩:=hown
       exact⟨h1,h2,xs,h3,h4,fun i j hi hj=>(h5 i j hi hj).mono (fun b hb=>⟨hF b hb,rfl⟩)⟩)
     (fun F' β' hF hb1 hb2 v d hvd=>NJ hF hb1 hvd)
    exact⟨_,_,β',GX h,hn, .h _ _ vN⟩
  ·exact⟨_,_,β,h,hr,hv⟩
 ·exact⟨_,_,β,h,hr,hv⟩
@[irreducible] def uZ(es:List (List D))(K:Bool→Prop):Prop:= ∀b:Bool,(b=true→es=[])→K b
theorem uZ.mk{es:List (List D)}{K:Bool→Prop}(h1:es=[]→K true)(h2:K false):uZ es K:=by
 unfold uZ
 intro b hb
 cases b with
 |false=>exact h2
 |true=>exact h1 (hb rfl)
theorem uZ.out{es:List (List D)}{K:Bool→Prop}(h:uZ es K): ∀b:Bool,(b=true→es=[])→K b:=by unfold uZ at h;exact h
def LG(P:Program)(op:Op)(st:St):Option (List (List D)):=
 match op with
 | .binOp .eql t x y t'=>match P.underlying t with
   |some (.slice _)=>match st.ev y with
    | .v (.slice none 0 0)=>match st.ev x with
      | .sl _ es=>some es
      | .h o=>match st.obj o with
        | .row _ _ es=>some es
        |_=>none
      |_=>none
    |_=>none
   |_=>none
 |_=>none
theorem ae7{o:Oper}{es:List (List D)}(h:LG X.P o.op st=some es)(hk:uZ es fun b=>gK st o.dst (.bool b) K)(hr:Rel X st β a w):o.wp X.P a w (PostR X K) Q:=by
 have fin: ∀(t t':TypeId) (x y:Operand) (e:TypeId) (ad:Option Addr) (n c:Nat),o.op= .binOp .eql t x y t'→X.P.underlying t=some (.slice e)→a.eval x= .slice ad n c→a.eval y= .slice none 0 0→(ad.isNone=true→es=[])→o.wp X.P a w (PostR X K) Q:=by
  intro t t' x y e ad n c ho ht hx hy hn
  refine kP (v:= .bool ad.isNone) (w':=w) ?_ ⟨_,_,eX (uZ.out hk _ hn),hr.put _ (.ro _ _ (.bool _))⟩
  have hg:(eqGuard .eql t x y (.slice ad n c) (.slice none 0 0)).run X.P w= .ok () w:=by simp[eqGuard]
  simp only[execOp,ho,hx,hy]
  simp[Lib.run_eql_slice_nil w t e ad n c 0 0 ht,hg]
 unfold LG at h
 split at h
 ·rename_i t x y t' ho
  split at h
  ·rename_i e ht
   split at h
   ·rename_i hy
    have hye:=hr.ev y
    rw[hy] at hye
    have hxe:=hr.ev x
    split at h
    ·rename_i s es' hx
     cases h
     rw[hx] at hxe
     rcases hxe.uU.zF with⟨rfl,ad,c,hv⟩|⟨b,off,cap,c,hv,_⟩
     ·exact fin t t' x y e ad 0 c ho ht hv hye.kZ (fun _=>rfl)
     ·exact fin t t' x y e _ _ _ ho ht hv hye.kZ (fun h=>by cases h)
    ·rename_i oo hx
     rw[hx] at hxe
     split at h
     ·rename_i e' s es' hob
      cases h
      rcases Bv (hr.row hob hxe.iM) with⟨hv,rfl⟩|⟨g,cap,cur,hv,_⟩
      ·exact fin t t' x y e none 0 0 ho ht hv hye.kZ (fun _=>rfl)
      ·exact fin t t' x y e _ _ _ ho ht hv hye.kZ (fun h=>by cases h)
     ·cases h
    ·cases h
   ·cases h
  ·cases h
 ·cases h
end
end Go.Eng
