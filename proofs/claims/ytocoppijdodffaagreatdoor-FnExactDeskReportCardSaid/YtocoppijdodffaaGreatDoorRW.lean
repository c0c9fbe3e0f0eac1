/-
  The engine: contracts of library functions that hand back a new row, or write one that they were given.
  No conditions.
-/
import Derived.Test.YtocoppijdodffaaGreatDoorED
import Derived.Sort.EncStr
set_option linter.unusedVariables false
set_option linter.unusedSimpArgs false
namespace Go.Eng
open Go Go.RowKit Go.Proofs
theorem ak.UF{P:Program}{f:FuncId}{G:Nat→Option (List D)}{ds:List D}{e:TypeId}{s:Nat}{es:List (List D)}(hok:FnOK P f)
 (h: ∀(w:World) (F:Nat→Prop) (vs:List Value),(∀b,F b→b<w.heap.size)→vs.length=ds.length→(∀i,i<ds.length→RO F w (vs.getD i undef) (ds.getD i .junk))→(∀g cs,G g=some cs→nY F w g cs)→
   Calls P f vs.toArray w fun ex w'=> ∃v,ex= .returned v∧w.grownBy w' none∧gu F w' e s es v∧ ∀b,blk v=some b→w.heap.size≤b):ak P f G 0 [] ds (fun d' os=>d'= .h 0∧os=[.row e s es]):=by
 refine⟨hok,fun X β w vs hP hw0 hβ0 hW hl hrep=> ?_⟩
 have hβ:β=fun _=>none:=by
  funext o
  cases ho:β o with
  |none=>rfl
  |some x=>exact absurd (hW.dom o x ho).1 lM
 subst hβ
 refine(h w (FX X (stOf [] G 0) (fun _=>none) w) vs (fun b hb=>hb.1) hl (fun i hi=>(hrep i hi).VG) (fun g cs hg=>hW.glob g cs hg)).mono ?_
 rintro ex w' ⟨v,rfl,hg,hv,hnew⟩
 let β':Nat→Option Value:=fun o=>if o=0 then some v else none
 have one: ∀p x,β' p=some x→p=0∧x=v:=by
  intro p x hx
  by_cases hp:p=0
  ·subst hp
   exact⟨rfl,(Option.some.inj hx).symm⟩
  ·simp[β',hp] at hx
 have hF: ∀b,FX X (stOf [] G 0) (fun _=>none) w b→FX X (stOf [.row e s es] G 0) β' w' b∧w'.heap[b]? =w.heap[b]? :=fun b hb=>
  ⟨⟨Nat.lt_of_lt_of_le hb.1 hg.size,hb.2.1,fun o ho hlv x hx hbx=>by
   obtain⟨_,rfl⟩:=one o x hx
   have h1:=hnew b hbx
   have h2:=hb.1
   omega⟩,hg.block b hb.1 fB⟩
 refine⟨v, .h 0,[.row e s es],β',rfl,⟨fun o x hx=> ?_,fun o ho hlv=> ?_,fun o o' x x' b hx hx' _ _=> ?_,fun o x b hx hb=> ?_,?_,fun g cs hgl=>(hW.glob g cs hgl).mono hF,fun o ho=>absurd ho wE,Nat.zero_le _⟩, .h 0 v rfl,fun o ho=> ?_,rfl,rfl⟩
 ·obtain⟨rfl,rfl⟩:=one o x hx
  exact⟨Nat.zero_lt_one,trivial⟩
 ·have h0:o=0:=by have:o<1:=ho;omega
  subst h0
  exact⟨v,rfl,Own.rE (o:= .row e s es) (F:=FX X (stOf [] G 0) (fun _=>none) w) (β:=fun _=>none) (fun b hb=>⟨(hF b hb).1,rfl⟩) trivial (fun _ _=>rfl) hv⟩
 ·rw[(one o x hx).1,(one o' x' hx').1]
 ·obtain⟨_,rfl⟩:=one o x hx
  exact .inl (by rw[hw0];exact hnew b hb)
 ·subst hw0
  exact⟨hg.os,hg.tape,hg.output,hg.size,fun k hk _=>hg.block k hk fB⟩
 ·have h0:o= .row e s es:=by simpa using ho
  subst h0
  trivial
theorem ak.aff{P:Program}{f:FuncId}{G:Nat→Option (List D)}{e:TypeId}{s:Nat}{es es':List (List D)}(hok:FnOK P f)
 (h: ∀(w:World) (F:Nat→Prop) (x:Value),gu F w e s es x→(∀b,blk x=some b→b<w.heap.size)→
   Calls P f #[x] w fun ex w'=>ex= .returned (.tuple #[])∧w.grownBy w' (blk x)∧gu F w' e s es' x):ak P f G 1 [.row e s es] [.h 0] (fun d' os=>d'= .aN []∧os=[.row e s es']):=by
 refine⟨hok,fun X β w vs hP hw0 hβ0 hW hl hrep=> ?_⟩
 obtain⟨x,hx,hown⟩:=hW.own 0 Nat.zero_lt_one trivial
 have hown:gu (FX X (stOf [.row e s es] G 1) β w) w e s es x:=hown
 have hv0:=(hrep 0 Nat.zero_lt_one).iM
 rw[hx] at hv0
 have hvs:vs.toArray= #[x]:=by
  match vs,hl with
  |[v],_=>rw[Option.some.inj hv0];rfl
 have one: ∀p y,β p=some y→p=0∧y=x:=by
  intro p y hy
  have hp:p<1:=(hW.dom p y hy).1
  have hp0:p=0:=by omega
  subst hp0
  rw[hx] at hy
  exact⟨rfl,(Option.some.inj hy).symm⟩
 rw[hvs]
 refine(h w _ x hown (fun b hb=>Own.lt (o:= .row e s es) (F:=FX X (stOf [.row e s es] G 1) β w) (β:=β) trivial hown b hb)).mono ?_
 rintro ex w' ⟨rfl,hg,hv⟩
 have hF: ∀b,FX X (stOf [.row e s es] G 1) β w b→FX X (stOf [.row e s es'] G 1) β w' b∧w'.heap[b]? =w.heap[b]? :=fun b hb=>
  ⟨⟨Nat.lt_of_lt_of_le hb.1 hg.size,hb.2.1,fun o ho hlv y hy=>hb.2.2 o ho (by(have h1:o<1:=ho);(have h0:o=0:=by omega);subst h0;trivial) y hy⟩,hg.block b hb.1 (fun e1=>hb.2.2 0 Nat.zero_lt_one trivial x hx e1.symm)⟩
 refine⟨.tuple #[], .aN [],[.row e s es'],β,rfl,⟨fun o y hy=> ?_,fun o ho hlv=> ?_,fun o o' y y' b hy hy' _ _=> ?_,fun o y b hy hb=>hW.low o y b hy hb,?_,fun g cs hgl=>(hW.glob g cs hgl).mono hF,fun o ho=>hW.stay o ho,Nat.le_refl 1⟩, .ro _ _ (RO.aN [] [] rfl (fun i hi=>absurd hi (Nat.not_lt_zero _))),fun o ho=> ?_,rfl,rfl⟩
 ·obtain⟨rfl,rfl⟩:=one o y hy
  exact⟨Nat.zero_lt_one,trivial⟩
 ·have h0:o=0:=by have:o<1:=ho;omega
  subst h0
  exact⟨x,hx,Own.rE (o:= .row e s es') (F:=FX X (stOf [.row e s es] G 1) β w) (β:=β) (fun b hb=>⟨(hF b hb).1,rfl⟩) trivial (fun _ _=>rfl) hv⟩
 ·rw[(one o y hy).1,(one o' y' hy').1]
 ·subst hw0
  refine⟨hg.os,hg.tape,hg.output,hg.size,fun k hk hnl=>hg.block k hk (fun e1=> ?_)⟩
  rcases hW.low 0 x k hx e1.symm with h1|h1
  ·omega
  ·exact hnl h1
 ·have h0:o= .row e s es':=by simpa using ho
  subst h0
  trivial
theorem ak.afe{P:Program}{f:FuncId}{G:Nat→Option (List D)}{e:TypeId}{s:Nat}{es es':List (List D)}(hok:FnOK P f)
 (h: ∀(w:World) (F:Nat→Prop) (x:Value),gu F w e s es x→(∀b,blk x=some b→b<w.heap.size)→
   Calls P f #[x] w fun ex w'=> ∃x',ex= .returned x'∧w.grownBy w' (blk x)∧gu F w' e s es' x'∧ ∀b,blk x'=some b→blk x=some b):ak P f G 0 [.row e s es] [.h 0] (fun d' os=>d'= .h 0∧os=[.row e s es']):=by
 refine⟨hok,fun X β w vs hP hw0 hβ0 hW hl hrep=> ?_⟩
 obtain⟨x,hx,hown⟩:=hW.own 0 Nat.zero_lt_one trivial
 have hown:gu (FX X (stOf [.row e s es] G 0) β w) w e s es x:=hown
 have hv0:=(hrep 0 Nat.zero_lt_one).iM
 rw[hx] at hv0
 have hvs:vs.toArray= #[x]:=by
  match vs,hl with
  |[v],_=>rw[Option.some.inj hv0];rfl
 rw[hvs]
 refine(h w _ x hown (fun b hb=>Own.lt (o:= .row e s es) (F:=FX X (stOf [.row e s es] G 0) β w) (β:=β) trivial hown b hb)).mono ?_
 rintro ex w' ⟨v,rfl,hg,hv,hsub⟩
 let β':Nat→Option Value:=fun o=>if o=0 then some v else none
 have one: ∀p y,β' p=some y→p=0∧y=v:=by
  intro p y hy
  by_cases hp:p=0
  ·subst hp
   exact⟨rfl,(Option.some.inj hy).symm⟩
  ·simp[β',hp] at hy
 have hF: ∀b,FX X (stOf [.row e s es] G 0) β w b→FX X (stOf [.row e s es'] G 0) β' w' b∧w'.heap[b]? =w.heap[b]? :=fun b hb=>
  ⟨⟨Nat.lt_of_lt_of_le hb.1 hg.size,hb.2.1,fun o ho hlv y hy hyb=>by
   obtain⟨_,rfl⟩:=one o y hy
   exact hb.2.2 0 Nat.zero_lt_one trivial x hx (hsub b hyb)⟩,hg.block b hb.1 (fun e1=>hb.2.2 0 Nat.zero_lt_one trivial x hx e1.symm)⟩
 refine⟨v, .h 0,[.row e s es'],β',rfl,⟨fun o y hy=> ?_,fun o ho hlv=> ?_,fun o o' y y' b hy hy' _ _=> ?_,fun o y b hy hb=> ?_,?_,fun g cs hgl=>(hW.glob g cs hgl).mono hF,fun o ho=>absurd ho wE,Nat.zero_le _⟩, .h 0 v rfl,fun o ho=> ?_,rfl,rfl⟩
 ·obtain⟨rfl,rfl⟩:=one o y hy
  exact⟨Nat.zero_lt_one,trivial⟩
 ·have h0:o=0:=by have:o<1:=ho;omega
  subst h0
  exact⟨v,rfl,Own.rE (o:= .row e s es') (F:=FX X (stOf [.row e s es] G 0) β w) (β:=β) (fun b hb=>⟨(hF b hb).1,rfl⟩) trivial (fun _ _=>rfl) hv⟩
 ·rw[(one o y hy).1,(one o' y' hy').1]
 ·obtain⟨_,rfl⟩:=one o y hy
  exact hW.low 0 x b hx (hsub b hb)
 ·subst hw0
  refine⟨hg.os,hg.tape,hg.output,hg.size,fun k hk hnl=>hg.block k hk (fun e1=> ?_)⟩
  rcases hW.low 0 x k hx e1.symm with h1|h1
  ·omega
  ·exact hnl h1
 ·have h0:o= .row e s es':=by simpa using ho
  subst h0
  trivial
theorem RO.agQ{F:Nat→Prop}{w:World}{v:Value}{l:List UInt8}(h:RO F w v (.str l)):v= .string ⟨l.toArray⟩∧l.length≤maxLen:=by
 cases h with
 |str l hl=>exact⟨rfl,hl⟩
theorem WA{F:Nat→Prop}{w:World}{e:TypeId}{l:List (List UInt8)}{x:Value}(h:gu F w e 1 (l.map encS) x):
 (∀t∈l,t.length≤maxLen)∧l.length≤maxLen∧((x= .slice none 0 0∧l=[])∨ ∃g cap cur,x= .slice (some ⟨g,0,none⟩) l.length cap∧w.heap[g]? =some (.cells cur e (0,0))∧l.length≤cap∧cap≤maxLen∧cur.size=cap∧ ∀(i:Nat) (t:List UInt8),l[i]? =some t→cur[i]? =some (encStr t)):=by
 obtain⟨hl,hs,xs,⟨hxl,hx⟩,hone,hro⟩:=h
 rw[List.length_map] at hl hs hx hxl hro
 have hcell: ∀(i:Nat) (t:List UInt8),l[i]? =some t→xs[i]? =some (encStr t)∧t.length≤maxLen:=by
  intro i t ht
  have hi:=(List.getElem?_eq_some_iff.1 ht).1
  have h1:=hro i 0 hi Nat.zero_lt_one
  have h2:((l.map encS).getD i []).getD 0 .junk= .str t:=by
   simp[List.getD_eq_getElem?_getD,ht,encS]
  rw[h2,show i*1+0=i by omega] at h1
  obtain⟨h3,h4⟩:=RO.agQ h1
  refine⟨?_,h4⟩
  have hix:i<xs.length:=by omega
  rw[List.getD_eq_getElem?_getD,List.getElem?_eq_getElem hix] at h3
  rw[List.getElem?_eq_getElem hix]
  exact congrArg some h3
 refine⟨fun t ht=> ?_,hl,?_⟩
 ·obtain⟨i,hi⟩:=List.getElem?_of_mem ht
  exact(hcell i t hi).2
 ·rcases hx with⟨rfl,h0⟩|⟨g,cap,cur,rfl,_,hg,h1,h2,h3,h4⟩
  ·exact .inl ⟨rfl,List.length_eq_zero_iff.1 h0⟩
  ·refine .inr ⟨g,cap,cur,rfl,hg,h1,h2,by omega,fun i t ht=> ?_⟩
   have hi:=(List.getElem?_eq_some_iff.1 ht).1
   have h5:=(hcell i t ht).1
   rw[←h4,List.getElem?_take_of_lt ah] at h5
   rw[←Array.getElem?_toList]
   exact h5
theorem Wy{F:Nat→Prop}{w:World}{e:TypeId}{l:List (List UInt8)}{g cap:Nat}{cur:Array Value}(hg:w.heap[g]? =some (.cells cur e (0,0)))(h1:l.length≤cap)(h2:cap≤maxLen)(h3:cur.size=cap)
 (h4: ∀(i:Nat) (t:List UInt8),l[i]? =some t→cur[i]? =some (encStr t))(h5: ∀t∈l,t.length≤maxLen):gu F w e 1 (l.map encS) (.slice (some ⟨g,0,none⟩) l.length cap):=by
 refine⟨by rw[List.length_map];omega,fun i hi=> ?_,l.map encStr,⟨by simp, .inr ⟨g,cap,cur,by rw[List.length_map],Nat.zero_le _,hg,by rw[List.length_map];exact h1,h2,by omega,?_⟩⟩,fun u hu=> ?_,fun i j hi hj=> ?_⟩
 ·rw[List.length_map] at hi
  rw[List.getD_eq_getElem?_getD,List.getElem?_map,List.getElem?_eq_getElem hi]
  rfl
 ·apply List.ext_getElem?
  intro i
  rw[List.length_map,List.getElem?_map]
  by_cases hi:i<l.length
  ·rw[List.getElem?_take_of_lt ah,Array.getElem?_toList,h4 i l[i] (List.getElem?_eq_getElem hi),List.getElem?_eq_getElem hi]
   rfl
  ·rw[List.getElem?_eq_none yD,List.getElem?_eq_none ah]
   rfl
 ·obtain⟨t,_,rfl⟩:=List.mem_map.1 hu
  rfl
 ·rw[List.length_map] at hi
  obtain rfl:j=0:=by omega
  have e1:(l.map encStr).getD (i*1+0) undef=encStr l[i]:=by
   rw[show i*1+0=i by omega,List.getD_eq_getElem?_getD,List.getElem?_map,List.getElem?_eq_getElem hi]
   rfl
  have e2:((l.map encS).getD i []).getD 0 .junk= .str l[i]:=by
   simp[List.getD_eq_getElem?_getD,hi,encS]
  rw[e1,e2]
  exact .str _ (h5 _ (List.getElem_mem hi))
open Go.Sort in
theorem af0{w:World}{g n:Nat}{cur:Array Value}{e:TypeId}{fr:Nat×Nat}{d:Array (List UInt8)}{os:Array Go.Obj}(hg:w.heap[g]? =some (.cells cur e fr)):
 (Go.Sort.grow (Go.Sort.putRow encStr (Go.Sort.ahead w n) g 0 d) os).heap[g]? =some (.cells (Go.Sort.putCells encStr 0 d cur) e fr):=by
 have hlt:g<w.heap.size:=(Array.getElem?_eq_some_iff.1 hg).1
 rw[Go.Sort.heap_grow_old _ _ (by rw[Go.Sort.size_putRow];exact hlt)]
 show(w.heap.modify g (Go.Sort.onCells (Go.Sort.putCells encStr 0 d)))[g]? =_
 rw[Array.getElem?_modify,if_pos rfl,hg]
 rfl
theorem Va{w:World}{g n:Nat}{d:Array (List UInt8)}{os:Array Go.Obj} :w.grownBy (Go.Sort.grow (Go.Sort.putRow encStr (Go.Sort.ahead w n) g 0 d) os) (some g):=by
 refine⟨rfl,rfl,rfl,?_,fun k hk hne=> ?_⟩
 ·rw[Go.Sort.size_grow,Go.Sort.size_putRow]
  exact Nat.le_add_right _ _
 ·rw[Go.Sort.heap_grow_old _ _ (by rw[Go.Sort.size_putRow];exact hk)]
  show(w.heap.modify g (Go.Sort.onCells (Go.Sort.putCells encStr 0 d)))[k]? =_
  rw[Array.getElem?_modify,if_neg (fun e=>hne (by rw[e]))]
theorem afU{d:Array (List UInt8)}{cur:Array Value}{i:Nat}{t:List UInt8}(hi:i<cur.size)(h:d[i]? =some t):(Go.Sort.putCells encStr 0 d cur)[i]? =some (encStr t):=by
 have hd:=(Array.getElem?_eq_some_iff.1 h)
 unfold Go.Sort.putCells
 rw[Array.getElem?_mapIdx,Array.getElem?_eq_getElem hi,Option.map_some,if_pos ⟨Nat.zero_le _,by have:=hd.1;omega⟩]
 congr 2
 rw[Nat.sub_zero,getElem!_pos _ i hd.1,hd.2]
theorem Sj{w:World}{g:Nat}{cur:Array Value}{e:TypeId}{l:List (List UInt8)}(hg:w.heap[g]? =some (.cells cur e (0,0)))(h4: ∀(i:Nat) (t:List UInt8),l[i]? =some t→cur[i]? =some (encStr t)):Go.Sort.Holds encStr w g 0 l.toArray:=by
 intro j hj
 have hj':j<l.length:=by simpa using hj
 refine⟨?_,?_⟩
 ·have h1:=h4 j l[j] (List.getElem?_eq_getElem hj')
  rw[getElem!_pos _ j hj,List.getElem_toArray]
  simp only[World.cell?,hg,Nat.zero_add]
  exact h1
 ·simp only[World.frozen?,hg]
  simp
end Go.Eng
