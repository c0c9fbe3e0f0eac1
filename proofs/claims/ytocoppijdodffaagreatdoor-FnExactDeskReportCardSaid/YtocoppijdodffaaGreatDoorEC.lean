/-
  The engine, bundle EC: values as data, objects, states, the walk's rules, and that the model follows them.
  No conditions.
-/
import Derived.Test.YtocoppijdodffaaGreatDoorEB
import Derived.Laws.IdiomStrings
import Derived.Scope
import Derived.ChangeSlices
import Derived.OpenShut
import Derived.Laws.Externs
import Derived.Lib.Bytealg
import Derived.Lib.IndexLaws
import Derived.Lib.LaidTab
import Derived.Sort.Grow
import Derived.Deep.Draws
import Derived.Lib.Overlaps
set_option linter.unusedVariables false
set_option linter.unusedSimpArgs false
namespace Go.Eng
open Go Go.RowKit
section
variable {X:Ctx} {st:St} {β:Nat→Option Value} {a:Act} {w:World} {K:St→Prop} {Q:Exit→Act→World→Prop}
theorem XF{o:Oper}{t:TypeId}{s x:Operand}(ho:o.op= .call { callee:= .builtin .append,args:= #[s,x],argTypes:= #[t,t] })(h:Ip X.P st o.dst t (st.ev s) (st.ev x) K)(hr:Rel X st β a w):
 o.wp X.P a w (PostR X K) Q:=by
 unfold Ip at h
 split at h
 ·rename_i e ht
  obtain⟨z,i,hi,hz,hf,hk,lW⟩:=yC h
  clear h
  cases hb:(Nat.beq (fQ z).cells.length (X.P.cellsOf e)&&Nat.blt 0 (X.P.cellsOf e)&&Nat.blt 0 (X.P.bytesOf e)) with
  |false=>rw[hb] at hk;exact hk.elim
  |true=>
   rw[hb] at hk
   simp only[Bool.and_eq_true] at hb
   obtain⟨⟨h1,h2⟩,h3⟩:=hb
   have h1:=Nat.eq_of_beq_eq_true h1
   have h2:0<X.P.cellsOf e:=by simpa[Nat.blt_eq] using h2
   have h3:0<X.P.bytesOf e:=by simpa[Nat.blt_eq] using h3
   have hsz:i.size=X.P.cellsOf e:=by simp[Program.cellsOf,hi]
   have hby:i.bytes=X.P.bytesOf e:=by simp[Program.bytesOf,hi]
   have hzs:z.cells.size=X.P.cellsOf e:=by
    have:=(xM (F:=fun _=>False) (β:=fun _=>none) (w:=w) hf).1
    simp only[Array.length_toList] at this
    omega
   simp only[cond_true] at hk
   obtain⟨xs,hk,hnews⟩:=acF (X:=X) hk h2
   have hnx:=hnews β a w hr
   have hes:=hr.ev s
   have uJ: ∀r,(Builtin.append_ #[t,t] o.type #[a.eval s,a.eval x]).run X.P w=r→(execOp a.eval o).run X.P w=r.andThen fun v w'=> .ok (.value v) w':=by
    intro r hr
    simp only[execOp,ho,resolve,invoke,builtin,Sem.run_bind,Sem.run_pure,Result.andThen_ok,List.map_toArray,List.map_cons,List.map_nil,hr]
   split at hk
   ·rename_i oo hs
    split at hk
    ·rename_i e' sz es hob
     cases hb2:(Nat.beq e e'&&Nat.beq sz (X.P.cellsOf e)&&Nat.ble st.pin oo) with
     |false=>rw[hb2] at hk;exact hk.elim
     |true=>
      rw[hb2] at hk
      simp only[Bool.and_eq_true] at hb2
      obtain⟨⟨g1,g2⟩,g3⟩:=hb2
      have g1:=Nat.eq_of_beq_eq_true g1
      have g2:=Nat.eq_of_beq_eq_true g2
      have g3:st.pin≤oo:=by simpa using g3
      subst g1 g2
      simp only[cond_true] at hk
      obtain⟨hbytes,hk⟩:=bZ.out hk
      have hk:=eX (RH hk)
      rw[hs] at hes
      have hβ:=hes.iM
      obtain⟨v',w',hrun,hg,hwh,hown⟩:=Ol (ty:=o.type) ht hi hz hsz hzs h2 (hr.row hob hβ) hnx (by rw[hby];exact hbytes) (by rw[hby];exact h3)
      have hn:=hr.grow hβ hg hwh g3 (.row e (X.P.cellsOf e) (es++xs)) trivial (fun F' _ hF=>hown F' hF)
      refine kP (v:=v') (w':=w') (by rw[uJ _ hrun];rfl) ⟨_,_,hk,hn.put _ (.h _ _ fB)⟩
    ·exact hk.elim
   ·rename_i hs
    obtain⟨hbytes,hk⟩:=bZ.out hk
    have hk:=eX (yh hk)
    rw[hs] at hes
    have hv:=hes.kZ
    have hrow:gu (FX X st β w) w e (X.P.cellsOf e) [] (a.eval s):=by
     rw[hv]
     exact⟨by simp,fun i hi=>by simp at hi,[],World.ownsRow_nil w 0 e _,fun u hu=>by simp at hu,fun i j hi=>by simp at hi⟩
    obtain⟨v',w',hrun,hg,hwh,hown⟩:=Ol (ty:=o.type) ht hi hz hsz hzs h2 hrow hnx (by rw[hby];simpa using hbytes) (by rw[hby];exact h3)
    rw[hv] at hg hwh
    have hn:=hr.zu (w':=w') (e:=e) (s:=X.P.cellsOf e) (es:=xs) (x:=v') hg (fun b hb=>(hwh b hb).resolve_left (by simp[blk])) (fun F' hF=>by simpa using hown F' hF)
    exact kP (v:=v') (w':=w') (by rw[uJ _ hrun];rfl) ⟨_,_,hk,hn.put _ (zx hr (.row e (X.P.cellsOf e) xs) _ _ _)⟩
   ·exact hk.elim
 ·exact h.elim
theorem ab1{o:Oper}{c:Call}{f:Operand}{fid:FuncId}{caps:List D}(ho:o.op= .call c)(hc:c.callee= .value f)(hf:st.ev f= .clo (.func fid) caps)
 (h:CallS X fid (c.args.toList.map st.ev++caps) st fun d st=>force d fun d=>gK st o.dst d K)(hr:Rel X st β a w):o.wp X.P a w (PostR X K) Q:=by
 have hef:=hr.ev f
 rw[hf] at hef
 obtain⟨cs,hv,hl,J8⟩:=hef.qR
 have hlen:(c.args.toList.map a.eval++cs).length=(c.args.toList.map st.ev++caps).length:=by simp[hl]
 have DL: ∀i,i<(c.args.toList.map st.ev++caps).length→Rep (FX X st β w) β w ((c.args.toList.map a.eval++cs).getD i undef) ((c.args.toList.map st.ev++caps).getD i .junk):=fun i hi=>by
  rw[List.getD_eq_getElem?_getD,List.getD_eq_getElem?_getD,List.getElem?_append,List.getElem?_append]
  simp only[List.length_map]
  by_cases h1:i<c.args.toList.length
  ·rw[if_pos h1,if_pos h1,List.getElem?_map,List.getElem?_map,List.getElem?_eq_getElem h1]
   exact hr.ev _
  ·rw[if_neg h1,if_neg h1,←List.getD_eq_getElem?_getD,←List.getD_eq_getElem?_getD]
   refine J8 _ ?_
   simp only[List.length_append,List.length_map] at hi
   omega
 have hargs: #[]++Array.map a.eval c.args++cs.toArray=(c.args.toList.map a.eval++cs).toArray:=by
  apply Array.ext'
  simp
 rcases CallS.out h with⟨hok,hcall⟩|⟨d,hk,hext⟩
 ·have hcall:=hcall β a w _ hr hlen DL
  have uJ:(execOp a.eval o).run X.P w= .ok (.enter fid (c.args.toList.map a.eval++cs).toArray) w:=by
   simp only[execOp,ho,resolve,hc,hv,Deferred.ofValue,invoke,Sem.run_bind,Sem.run_pure,Result.andThen_ok,hargs]
   exact hok _ _
  unfold Oper.wp
  rw[uJ]
  simp only[Oper.upon]
  refine hcall.mono ?_
  rintro e w' ⟨v,d,st',β',rfl,hr',hrep,hk⟩
  exact⟨_,_,eX (oN hk),hr'.put _ hrep⟩
 ·obtain⟨v,hrun,hrep⟩:=hext β a w _ hr hlen DL
  have uJ:(execOp a.eval o).run X.P w= .ok (.value v) w:=by
   simp only[execOp,ho,resolve,hc,hv,Deferred.ofValue,invoke,Sem.run_bind,Sem.run_pure,Result.andThen_ok,hargs]
   exact hrun
  exact kP (v:=v) (w':=w) uJ ⟨_,_,eX (oN hk),hr.put _ hrep⟩
end
def MP(P:Program)(op:Op)(st:St):Option (TypeId×List UInt8):=
 match op with
 | .convert s d x=>match P.underlying s,P.underlying d with
   |some .string,some (.slice e)=>match F5 P e with
    |true=>match st.ev x with
     | .str l=>some (e,l)
     |_=>none
    |false=>none
   |_,_=>none
 |_=>none
theorem agf{X:Ctx}{o:Oper}{st:St}{K:St→Prop}{β:Nat→Option Value}{a:Act}{w:World}{Q:Exit→Act→World→Prop}{e:TypeId}{l:List UInt8}(hq:MP X.P o.op st=some (e,l))
 (h:uQ st (.raw e 1 (l.map iW)) fun n st=>gK st o.dst (.h n) K)(hr:Rel X st β a w):o.wp X.P a w (PostR X K) Q:=by
 have hk:=eX (yh h)
 unfold MP at hq
 split at hq
 ·rename_i s d x ho
  split at hq
  ·rename_i e' hs hd
   split at hq
   ·rename_i hu
    have hu:=Tq hu
    split at hq
    ·rename_i l' hx
     cases hq
     have he:=hr.ev x
     rw[hx] at he
     have hlm:=he.BI
     have hv:=he.nC
     have hsz:(⟨l.toArray⟩:ByteArray).size=l.length:=by simp[ByteArray.size]
     have hrun:=run_bytes_of_string (P:=X.P) w s d e ⟨l.toArray⟩ hs hd hu
     rw[hsz] at hrun
     have hge:=grownCap_ge w l.length 0 e
     have hle:=grownCap_le_maxLen w l.length 0 e hlm
     have hn:=hr.newObj (w':=w.drew.alloc (.cells (bytesRow ⟨l.toArray⟩ (grownCap w l.length 0 e)) e ((bytesRow ⟨l.toArray⟩ (grownCap w l.length 0 e)).size,(bytesRow ⟨l.toArray⟩ (grownCap w l.length 0 e)).size+1)))
      ⟨rfl,rfl,rfl,by simp,fun k hk _=>heap_alloc_old w.drew _ hk⟩ (.raw e 1 (l.map iW)) trivial (.slice (some ⟨w.heap.size,0,none⟩) l.length (grownCap w l.length 0 e)) (fun b hb=>by simp[blk] at hb;omega) (fun F' _ hF _=>by
       refine⟨w.heap.size,_,_,_,by rw[List.length_map],heap_alloc_new w.drew _,Nat.le_refl _,⟨by simpa using hge,hle⟩,?_,fun i hi=> ?_,fun i j hi hj=> ?_⟩
       ·simp[bytesRow,hsz]
       ·have hi':i<l.length:=by simpa using hi
        simp[List.getD_eq_getElem?_getD,hi',iW]
       ·have hi':i<l.length:=by simpa using hi
        have hj0:j=0:=by omega
        subst hj0
        have e1:(bytesRow ⟨l.toArray⟩ (grownCap w l.length 0 e)).toList.getD (i*1+0) undef= .int .u8 (l[i].toNat:Int):=by
         simp[bytesRow,List.getD_eq_getElem?_getD,List.getElem?_append,hi']
        have e2:((l.map iW).getD i []).getD 0 .junk= .int .u8 (l[i].toNat:Int):=by
         simp[List.getD_eq_getElem?_getD,hi',iW]
        rw[e1,e2]
        exact⟨rfl, .int _ _⟩)
     refine kP (v:= .slice (some ⟨w.heap.size,0,none⟩) l.length (grownCap w l.length 0 e)) ?_ ⟨_,_,hk,hn.put _ (zx hr (.raw e 1 (l.map iW)) _ _ _)⟩
     simp[execOp,ho,hv,hrun]
    ·cases hq
   ·cases hq
  ·cases hq
 ·cases hq
def Lj(P:Program)(st:St)(dst:Option Nat)(t:TypeId)(K:St→Prop):Prop:=
 match P.underlying t with
 |some (.map k e)=>bZ (Oe P k e) (uQ st (.map P k e 0 (fun _=>0)) fun n st=>gK st dst (.h n) K)
 |_=>False
theorem aeP{X:Ctx}{o:Oper}{st:St}{K:St→Prop}{β:Nat→Option Value}{a:Act}{w:World}{Q:Exit→Act→World→Prop}{t:TypeId}(ho:o.op= .makeMap t none)(h:Lj X.P st o.dst t K)(hr:Rel X st β a w):o.wp X.P a w (PostR X K) Q:=by
 unfold Lj at h
 split at h
 ·rename_i k e ht
  obtain⟨hok,hk⟩:=bZ.out h
  have hk:=eX (yh hk)
  have hn:=hr.newObj (World.grownBy_alloc w (.map #[] 0) none) (.map X.P k e 0 (fun _=>0)) trivial (.map (some w.heap.size)) (fun b hb=>by simp[blk] at hb;omega) (fun F' _ _ _=>by
   refine⟨hok,w.heap.size,0,_,rfl,Nat.le_refl _,World.ownsMap_made w X.P k _,Go.Maps.isMap_empty,fun l=> ?_⟩
   rfl)
  refine kP (v:= .map (some w.heap.size)) ?_ ⟨_,_,hk,hn.put _ (zx hr (.map X.P k e 0 (fun _=>0)) _ _ _)⟩
  simp[execOp,ho,run_makeMap]
 ·exact h.elim
def NS(P:Program)(st:St)(t:TypeId)(m x v:D)(K:St→Prop):Prop:=
 match m with
 | .h o=>match st.obj o with
   | .map P' k e n f=>match x,v with
     | .str l, .int .i64 z=>bZ ((P'=P∧P.underlying t=some (.map k e))∧n<maxLen∧(Lit.int .i64 z).wf=true) (vZ st o (.map P' k e (n+1) (fun y=>if y=l then z else f y)) K)
     |_,_=>False
   |_=>False
 |_=>False
theorem ag5{X:Ctx}{o:Oper}{st:St}{K:St→Prop}{β:Nat→Option Value}{a:Act}{w:World}{Q:Exit→Act→World→Prop}{t:TypeId}{m x v:Operand}(ho:o.op= .mapUpdate t m x v)(hd:o.dst=none)(h:NS X.P st t (st.ev m) (st.ev x) (st.ev v) K)(hr:Rel X st β a w):o.wp X.P a w (PostR X K) Q:=by
 unfold NS at h
 split at h
 ·rename_i oo hm
  split at h
  ·rename_i P' k e n f hob
   split at h
   ·rename_i l z hx hv
    obtain⟨⟨⟨rfl,ht⟩,hn,hwf⟩,hk⟩:=bZ.out h
    have hk:=yj hk
    have hem:=hr.ev m
    rw[hm] at hem
    have hex:=hr.ev x
    rw[hx] at hex
    have hev:=hr.ev v
    rw[hv] at hev
    obtain⟨hok,b,mm,D,hmv,hle,hown,hD,hat⟩:=hr.UR hob hem.iM
    have hlen:(⟨l.toArray⟩:ByteArray).size≤maxLen:=by
     have:=hex.BI
     simpa[ByteArray.size] using this
    have hkey:=Go.WideMaps.keyOf_string_mk hok.str hlen
    have h3:((⟨l.toArray⟩:ByteArray).data.toList)=l:=by simp
    rw[h3] at hkey
    obtain⟨w',hrun,hown',hg⟩:=hown.update hok.keyed ht ah hkey (plainElem_int hok.int hwf)
    have hst:=hr.store (w':=w') hem.iM (by rw[hmv];exact hg) (.map X.P k e (n+1) (fun y=>if y=l then z else f y)) trivial (fun F' _=>by
     refine⟨hok,b,mm+1,_,hmv,by omega,hown',hD.put _ _,fun y=> ?_⟩
     show(D.put (.string l) (.lit (.int .i64 z))).atKey (.string y) (.lit (.int .i64 0))= .lit (.int .i64 (if y=l then z else f y))
     by_cases hy:y=l
     ·subst hy
      rw[if_pos rfl]
      exact Go.Maps.atKey_put_same hD (by simp[Go.WideAt.IsKeyLit]) _ _
     ·rw[if_neg hy,Go.Maps.atKey_put_other (fun e=>hy (by injection e))]
      exact hat y)
    refine N8 (w':=w') ?_ (by rw[hd];exact⟨_,β,hk,hst⟩)
    rw[hex.nC.symm,hev.eU.symm,hmv.symm] at hrun
    simp[execOp,ho,hrun]
   ·exact h.elim
  ·exact h.elim
 ·exact h.elim
def QN(X:Ctx)(o:Oper)(st:St)(K:St→Prop):Prop:=
 match o.op with
 | .alloc t=>Ih X.P st o.dst t K
 | .box _ x=>Iy st o.dst (st.ev x) K
 | .store t a x=>match o.dst with
   |none=>match st.ev a with
    | .hr _ _ _ _=>JX (st.ev x) st fun st=>force (st.ev x) fun dx=>BH X.P st t (st.ev a) dx K
    |_=>force (st.ev x) fun dx=>BH X.P st t (st.ev a) dx K
   |some _=>False
 | .makeSlice t l c=>Lh X.P st o.dst t (st.ev l) (st.ev c) K
 | .makeMap t none=>Lj X.P st o.dst t K
 | .mapUpdate t m x v=>match o.dst with
   |none=>NS X.P st t (st.ev m) (st.ev x) (st.ev v) K
   |some _=>False
 | .buildSlice t len parts=>JY (parts.toList.map fun p=>st.ev p.2) st fun st=>IB X.P st o.dst t len (parts.toList.map fun p=>(p.1,st.ev p.2)) K
 | .call c=>match c.callee with
   | .builtin .append=>match c.args.toList,c.argTypes.toList with
     |[s,x],[t,u]=>bif Nat.beq t u then
       (match st.ev s with
       | .hs oo s2 a p=>Il X.P st o.dst t (.hs oo s2 a p) (st.ev x) K
       |d=>Ip X.P st o.dst t d (st.ev x) K)
      else Io X.P st o.dst t u (st.ev s) (st.ev x) K
     |_,_=>False
   | .builtin .copy=>match c.args.toList,c.argTypes.toList with
     |[s,x],[t,_]=>Jp X.P st o.dst t (st.ev s) (st.ev x) K
     |_,_=>False
   | .builtin .clear=>match c.args.toList,c.argTypes.toList with
     |[s],[t]=>Ji X.P st o.dst t (st.ev s) K
     |_,_=>False
   | .builtin .cap=>match c.args.toList,c.argTypes.toList with
     |[s],[t]=>match X.P.underlying t with
      |some (.slice _)=>capD st o.dst (st.ev s) K
      |_=>False
     |_,_=>False
   | .value f=>match st.ev f with
     | .clo (.func fid) caps=>CallS X fid (c.args.toList.map st.ev++caps) st fun d st=>force d fun d=>gK st o.dst d K
     |_=>False
   |_=>False
 |_=>False
def isPure:Op→Bool
 | .alloc _| .box _ _| .store _ _ _| .makeSlice _ _ _| .buildSlice _ _ _| .makeMap _ _| .mapUpdate _ _ _ _=>false
 | .call c=>match c.callee with
   | .builtin .append| .builtin .copy| .builtin .clear| .builtin .cap=>false
   | .builtin _=>true
   |_=>false
 |_=>true
def AY(X:Ctx)(o:Oper)(st:St)(K:St→Prop):Prop:=
 match LG X.P o.op st with
 |some es=>uZ es fun b=>gK st o.dst (.bool b) K
 |none=>match MP X.P o.op st with
  |some (e,l)=>uQ st (.raw e 1 (l.map iW)) fun n st=>gK st o.dst (.h n) K
  |none=>match isPure o.op with
   |true=>Gq X.P o st fun d=>force d fun d=>gK st o.dst d K
   |false=>QN X o st K
theorem tV{X:Ctx}{o:Oper}{st:St}{K:St→Prop}{β:Nat→Option Value}{a:Act}{w:World}{Q:Exit→Act→World→Prop}(h:AY X o st K)(hr:Rel X st β a w):o.wp X.P a w (PostR X K) Q:=by
 unfold AY at h
 split at h
 ·rename_i es hn
  exact ae7 hn h hr
 rename_i hnil
 clear hnil
 split at h
 ·rename_i e l hq
  exact agf hq h hr
 rename_i hraw
 clear hraw
 generalize isPure o.op=ip at h
 cases ip with
 |true=>
  obtain⟨d,hk,hy⟩:=U7 hr h
  obtain⟨v,hv,hrep⟩:=hy β a w hr
  exact kP hv ⟨_,_,eX (oN hk),hr.put _ hrep⟩
 |false=>
  simp only at h
  unfold QN at h
  obtain⟨dst,op,type,pos,after,guard⟩:=o
  cases op<;>simp only at h<;>try(exact h.elim)
  case alloc t=>exact Xy rfl h hr
  case box t x=>exact X7 rfl h hr
  case store t p x=>
   cases dst with
   |none=>
    simp only at h
    split at h
    ·obtain⟨st1,β1,h1,hr1⟩:=Rl h hr
     exact Wx rfl rfl (oN (K:=fun dx=>BH X.P st1 t (st1.ev p) dx K) h1) hr1
    ·exact Wx rfl rfl (oN (K:=fun dx=>BH X.P st t (st.ev p) dx K) h) hr
   |some d=>exact h.elim
  case makeSlice t l c=>exact aeQ rfl h hr
  case makeMap t r=>
   cases r with
   |none=>exact aeP rfl h hr
   |some r=>exact h.elim
  case mapUpdate t m x v=>
   cases dst with
   |none=>exact ag5 rfl rfl h hr
   |some d=>exact h.elim
  case buildSlice t len parts=>
   obtain⟨st1,β1,h1,hr1⟩:=Rn h hr
   exact Yd rfl h1 hr1
  case call c=>
   obtain⟨callee,args,argTypes⟩:=c
   cases callee with
   |invoke r m=>exact h.elim
   |value f=>
    simp only at h
    split at h
    ·rename_i fid caps hf
     exact ab1 rfl rfl hf h hr
    ·exact h.elim
   |builtin b=>
    cases b<;>simp only at h<;>try(exact h.elim)
    case append=>
     obtain⟨args⟩:=args
     obtain⟨argTypes⟩:=argTypes
     simp only at h
     split at h
     ·rename_i s x t u
      cases hb:Nat.beq t u with
      |false=>rw[hb] at h;exact XD rfl h hr
      |true=>
       rw[hb] at h
       have:=Nat.eq_of_beq_eq_true hb
       subst this
       simp only[cond_true] at h
       split at h
       ·rename_i hs
        exact XC rfl (by rw[hs];exact h) hr
       ·exact XF rfl h hr
     ·exact h.elim
    case copy=>
     obtain⟨args⟩:=args
     obtain⟨argTypes⟩:=argTypes
     simp only at h
     split at h
     ·exact ach rfl h hr
     ·exact h.elim
    case clear=>
     obtain⟨args⟩:=args
     obtain⟨argTypes⟩:=argTypes
     simp only at h
     split at h
     ·exact ab6 rfl h hr
     ·exact h.elim
    case cap=>
     obtain⟨args⟩:=args
     obtain⟨argTypes⟩:=argTypes
     simp only at h
     split at h
     ·split at h
      ·rename_i ht
       exact ab4 ht rfl h hr
      ·exact h.elim
     ·exact h.elim
end Go.Eng
namespace Go.Eng
open Go Go.RowKit
def iE(X:Ctx)(ops:Array Oper)(o:Oper)(st:St)(K:St→Prop):Prop:=
 match o.guard with
 |none=>AY X o st K
 |some (j,want)=>match(ops[j]?).bind (·.dst) with
  |some t=>match look st.env t with
   | .bool c=>(c=want→gK st (some t) (.bool want) fun st=>AY X o st K)∧(c= !want→gK st (some t) (.bool (!want)) fun st=>gK st o.dst (.aN []) K)
   | .aN []=>gK st o.dst (.aN []) K
   |_=>False
  |none=>False
noncomputable def lH(X:Ctx)(ops:Array Oper)(l:List Oper):St→(St→Prop)→Prop:=
 @List.rec Oper (fun _=>St→(St→Prop)→Prop) (fun st K=>K st) (fun o _ ih st K=>iE X ops o st fun st'=>ih st' K) l
theorem afJ(X:Ctx)(ops:Array Oper)(o:Oper)(r:List Oper)(st:St)(K:St→Prop):lH X ops (o::r) st K=iE X ops o st fun st'=>lH X ops r st' K:=rfl
section
variable {X:Ctx} {st:St} {β:Nat→Option Value} {a:Act} {w:World} {K:St→Prop} {Q:Exit→Act→World→Prop} {ops:Array Oper}
theorem Rel.self{t:Nat}(hr:Rel X st β a w){d:D}(hd:look st.env t=d):Rel X (st.put (some t) d) β a w:=by
 have h2:=hr.put (some t) (v:=a.tmps.getD t undef) (d:=d) (by rw[←hd];exact hr.tmps t)
 have e:a.put (some t) (a.tmps.getD t undef)=a:=by
  unfold Act.put
  simp only
  congr 1
  apply Array.ext_getElem?
  intro i
  rw[Array.getElem?_setIfInBounds]
  split
  ·rename_i h
   subst h
   split
   ·rename_i h;simp[h]
   ·rename_i h;simp[h]
  ·rfl
 rwa [e] at h2
theorem oZ{F:Nat→Prop}{w:World} :Rep F β w undef (.aN []):= .ro _ _ (.aN [] [] rfl (fun i hi=>absurd hi fB))
theorem EH(hr:Rel X st β a w){j t:Nat}(hj:(ops[j]?).bind (·.dst)=some t)(ht:look st.env t= .aN []):yielded ops a.tmps j=none:=by
 have h:=hr.tmps t
 rw[ht] at h
 obtain⟨cs,hv,hl,_⟩:=h.pz
 unfold yielded
 rw[hj]
 simp only[Option.bind_some]
 cases hx:a.tmps[t]? with
 |none=>rfl
 |some x=>
  have e:a.tmps.getD t undef=x:=by rw[Array.getD_eq_getD_getElem?,hx];rfl
  rw[e] at hv
  subst hv
  rfl
theorem zI(hr:Rel X st β a w){j t:Nat}{c:Bool}(hj:(ops[j]?).bind (·.dst)=some t)(ht:look st.env t= .bool c):yielded ops a.tmps j=some c:=by
 have h:=hr.tmps t
 rw[ht] at h
 have hb:=h.nJ
 have hlt:t<a.tmps.size:=by
  rcases Nat.lt_or_ge t a.tmps.size with h|h
  ·exact h
  ·simp[h,undef] at hb
 unfold yielded
 rw[hj]
 simp only[Option.bind_some]
 have:a.tmps[t]? =some (.bool c):=by
  rw[Array.getElem?_eq_getElem hlt]
  simpa[hlt] using hb
 rw[this]
theorem Gl: ∀(l:List Oper) (st:St) (β:Nat→Option Value) (a:Act) (w:World),lH X ops l st K→Rel X st β a w→(∀a w,PostR X K a w→Q .normal a w)→wpList X.P ops Q l a w
 |[],st,β,a,w,h,hr,hQ=>hQ a w ⟨st,β,h,hr⟩
 |o::r,st,β,a,w,h,hr,hQ=>by
  have next: ∀a' w',PostR X (fun st'=>lH X ops r st' K) a' w'→wpList X.P ops Q r a' w':=by
   rintro a' w' ⟨st',β',hk,hr'⟩
   exact Gl r st' β' a' w' hk hr' hQ
  simp only[afJ,iE] at h
  unfold wpList
  split at h
  ·rename_i hg
   rw[if_pos (by simp[Region.wanted,hg])]
   exact .inl (Oper.wp_mono next (tV h hr))
  ·rename_i j want hg
   split at h
   ·rename_i t hj
    split at h
    ·rename_i c ht
     have hy:=zI hr hj ht
     by_cases hc:c=want
     ·subst hc
      rw[if_pos yE]
      exact .inl (Oper.wp_mono next (tV (eX (h.1 rfl)) (hr.self ht)))
     ·have hc':c= !want:=by cases c<;>cases want<;>simp_all
      rw[if_neg (by simp[Region.wanted,hg,hy,hc])]
      have h2:=eX (eX (h.2 hc'))
      exact next _ _ ⟨_,β,h2,(hr.self (by rw[ht,hc'])).put _ oZ⟩
    ·rename_i ht
     have hy:=EH hr hj ht
     rw[if_neg yE]
     exact next _ _ ⟨_,β,eX h,hr.put _ oZ⟩
    ·exact h.elim
   ·exact h.elim
theorem Rel.grown(hr:Rel X st β a w){w':World}(hg:w.grownBy w' none):Rel X st β a w':=by
 have hsame: ∀b,b<w.heap.size→w'.heap[b]? =w.heap[b]? :=fun b hb=>hg.block b hb fB
 have hF: ∀b,FX X st β w b→FX X st β w' b∧w'.heap[b]? =w.heap[b]? :=fun b hb=>⟨⟨Nat.lt_of_lt_of_le hb.1 hg.size,hb.2.1,hb.2.2⟩,hsame b hb.1⟩
 exact⟨hr.defers,hr.size,fun i=>(hr.tmps i).mono hF (fun _ _ h=>h),hr.dom,fun o hn hl=>let⟨x,hx,hw⟩:=hr.own o hn hl;⟨x,hx,hw.mono hF (fun _ _ h=>h) (fun b hb=>hsame b (Own.lt hl hw b hb))⟩,
  hr.sep,hr.low,hr.kept.trans ⟨hg.os,hg.tape,hg.output,hg.size,fun k hk _=>hsame k (Nat.lt_of_lt_of_le hk hr.kept.size)⟩,fun g cs hgl=>(hr.glob g cs hgl).mono hF,hr.stay,hr.pinned⟩
theorem RP(hr:Rel X st β a w){w':World}(hg:w.grownBy w' none){v:Value}{d:D}(h:Rep (FX X st β w) β w v d):Rep (FX X st β w') β w' v d:=
 h.mono (fun b hb=>⟨⟨Nat.lt_of_lt_of_le hb.1 hg.size,hb.2.1,hb.2.2⟩,hg.block b hb.1 fB⟩) (fun _ _ h=>h)
@[irreducible] def kQ(X:Ctx)(f:FuncId)(ds:List D)(st:St)(K:D→Prop):Prop:=
 (FnOK X.P f∧ ∃d,K d∧ ∀β a w (vs:List Value),Rel X st β a w→vs.length=ds.length→(∀i,i<ds.length→Rep (FX X st β w) β w (vs.getD i undef) (ds.getD i .junk))→
   Calls X.P f vs.toArray w fun e w'=> ∃v,e= .returned v∧w.grownBy w' none∧Rep (FX X st β w') β w' v d)∨wF X f ds st K
theorem kQ.mk{f:FuncId}{ds:List D}{K:D→Prop}(h0:FnOK X.P f)(d:D)(hk:K d)(h: ∀β a w (vs:List Value),Rel X st β a w→vs.length=ds.length→(∀i,i<ds.length→Rep (FX X st β w) β w (vs.getD i undef) (ds.getD i .junk))→
 Calls X.P f vs.toArray w fun e w'=> ∃v,e= .returned v∧w.grownBy w' none∧Rep (FX X st β w') β w' v d):kQ X f ds st K:=by
 unfold kQ;exact .inl ⟨h0,d,hk,h⟩
theorem kQ.ext{f:FuncId}{ds:List D}{K:D→Prop}(h:wF X f ds st K):kQ X f ds st K:=by
 unfold kQ;exact .inr h
theorem kQ.out{f:FuncId}{ds:List D}{K:D→Prop}(h:kQ X f ds st K):(FnOK X.P f∧ ∃d,K d∧ ∀β a w (vs:List Value),Rel X st β a w→vs.length=ds.length→(∀i,i<ds.length→Rep (FX X st β w) β w (vs.getD i undef) (ds.getD i .junk))→
 Calls X.P f vs.toArray w fun e w'=> ∃v,e= .returned v∧w.grownBy w' none∧Rep (FX X st β w') β w' v d)∨wF X f ds st K:=by
 unfold kQ at h;exact h
def Gt(X:Ctx)(o:Oper)(st:St)(K:D→Prop):Prop:=
 match isPure o.op with
 |true=>Gq X.P o st K
 |false=>match o.op with
  | .call c=>match c.callee with
    | .value f=>match st.ev f with
      | .clo (.func fid) caps=>kQ X fid (c.args.toList.map st.ev++caps) st K
      |_=>False
    |_=>False
  | .buildSlice t len parts=>MN X.P t len (parts.toList.map fun p=>(p.1,st.ev p.2)) K
  |_=>False
theorem grownBy_refl(w:World):w.grownBy w none:=⟨rfl,rfl,rfl,Nat.le_refl _,fun _ _ _=>rfl⟩
def wI(X:Ctx)(o:Oper)(st:St)(d:D):Prop:=
 ∀β a w (K:Act→World→Prop) (Q:Exit→Act→World→Prop),Rel X st β a w→(∀v w',w.grownBy w' none→Rep (FX X st β w') β w' v d→K (a.put o.dst v) w')→o.wp X.P a w K Q
theorem Vd{o:Oper}{K:D→Prop}(hr0:Rel X st β a w)(h:Gt X o st K): ∃d,K d∧wI X o st d:=by
 unfold Gt at h
 generalize isPure o.op=ip at h
 cases ip with
 |true=>
  obtain⟨d,hk,hy⟩:=U7 hr0 h
  refine⟨d,hk,fun β a w K Q hr hK=> ?_⟩
  obtain⟨v,hv,hrep⟩:=hy β a w hr
  exact kP hv (hK v w (grownBy_refl w) hrep)
 |false=>
  simp only at h
  obtain⟨dst,op,type,pos,after,guard⟩:=o
  cases op<;>simp only at h<;>try(exact h.elim)
  case buildSlice t len parts=>
   obtain⟨d,hk,hd⟩:=af4 (o:=⟨dst, .buildSlice t len parts,type,pos,after,guard⟩) rfl h
   refine⟨d,hk,fun β a w K Q hr hK=> ?_⟩
   obtain⟨v,w',hrun,hg,hv⟩:=hd β a w hr
   exact kP hrun (hK v w' hg hv)
  rename_i c
  obtain⟨callee,args,argTypes⟩:=c
  cases callee with
  |invoke r m=>exact h.elim
  |builtin b=>exact h.elim
  |value f=>
   simp only at h
   split at h
   ·rename_i fid caps hf
    have DL: ∀(β:Nat→Option Value) (a:Act) (w:World),Rel X st β a w→ ∃cs:List Value,a.eval f= .func (.func fid) #[] cs.toArray∧(args.toList.map a.eval++cs).length=(args.toList.map st.ev++caps).length∧
     ∀i,i<(args.toList.map st.ev++caps).length→Rep (FX X st β w) β w ((args.toList.map a.eval++cs).getD i undef) ((args.toList.map st.ev++caps).getD i .junk):=fun β a w hr=>by
     have hef:=hr.ev f
     rw[hf] at hef
     obtain⟨cs,hv,hl,J8⟩:=hef.qR
     refine⟨cs,hv,by simp[hl],fun i hi=> ?_⟩
     rw[List.getD_eq_getElem?_getD,List.getD_eq_getElem?_getD,List.getElem?_append,List.getElem?_append]
     simp only[List.length_map]
     by_cases h1:i<args.toList.length
     ·rw[if_pos h1,if_pos h1,List.getElem?_map,List.getElem?_map,List.getElem?_eq_getElem h1]
      exact hr.ev _
     ·rw[if_neg h1,if_neg h1,←List.getD_eq_getElem?_getD,←List.getD_eq_getElem?_getD]
      refine J8 _ ?_
      simp only[List.length_append,List.length_map] at hi
      omega
    have hargs: ∀(a:Act) (cs:List Value), #[]++Array.map a.eval args++cs.toArray=(args.toList.map a.eval++cs).toArray:=fun a cs=>by
     apply Array.ext'
     simp
    rcases kQ.out h with⟨hok,d,hk,hcall⟩|⟨d,hk,hext⟩
    ·refine⟨d,hk,fun β a w K Q hr hK=> ?_⟩
     obtain⟨cs,hv,hlen,hrs⟩:=DL β a w hr
     have hcall:=hcall β a w _ hr hlen hrs
     unfold Oper.wp
     have uJ:(execOp a.eval { dst:=dst,op:=Op.call { callee:=Callee.value f,args:=args,argTypes:=argTypes },type:=type,pos:=pos,after:=after,guard:=guard }).run X.P w= .ok (.enter fid (args.toList.map a.eval++cs).toArray) w:=by
      simp only[execOp,resolve,hv,Deferred.ofValue,invoke,Sem.run_bind,Sem.run_pure,Result.andThen_ok,hargs]
      exact hok _ _
     rw[uJ]
     simp only[Oper.upon]
     refine hcall.mono ?_
     rintro e w' ⟨v,rfl,hg,hrep⟩
     exact hK v w' hg hrep
    ·refine⟨d,hk,fun β a w K Q hr hK=> ?_⟩
     obtain⟨cs,hv,hlen,hrs⟩:=DL β a w hr
     obtain⟨v,hrun,hrep⟩:=hext β a w _ hr hlen hrs
     have uJ:(execOp a.eval { dst:=dst,op:=Op.call { callee:=Callee.value f,args:=args,argTypes:=argTypes },type:=type,pos:=pos,after:=after,guard:=guard }).run X.P w= .ok (.value v) w:=by
      simp only[execOp,resolve,hv,Deferred.ofValue,invoke,Sem.run_bind,Sem.run_pure,Result.andThen_ok,hargs]
      exact hrun
     exact kP (v:=v) (w':=w) uJ (hK v w (grownBy_refl w) hrep)
   ·exact h.elim
def nR(env:List (Nat×D)):List Nat→List (Nat×D)
 |[]=>[]
 |t::r=>(t,look env t)::nR env r
theorem Gf(env:List (Nat×D)): ∀(ts:List Nat) (i:Nat),look (nR env ts) i= .junk∨(i∈ts∧look (nR env ts) i=look env i)
 |[],_=> .inl rfl
 |t::r,i=>by
  simp only[nR,look]
  cases hb:Nat.beq i t with
  |true=>
   have:=Nat.eq_of_beq_eq_true hb
   subst this
   exact .inr ⟨by simp,rfl⟩
  |false=>
   rcases Gf env r i with h|h
   ·exact .inl h
   ·exact .inr ⟨by simp[h.1],h.2⟩
def St.only(st:St)(ts:List Nat):St:= { st with env:=nR st.env ts }
def Gu(X:Ctx)(ops:Array Oper)(o:Oper)(st:St)(K:St→Prop):Prop:=
 match o.guard with
  |none=>Gt X o (st.only (o.looksAt ops)) fun d=>force d fun d=>gK st o.dst d K
  |some (j,want)=>match(ops[j]?).bind (·.dst) with
   |some t=>match look st.env t with
    | .bool c=>(c=want→gK st (some t) (.bool want) fun st=>Gt X o (st.only (o.looksAt ops)) fun d=>force d fun d=>gK st o.dst d K)∧
       (c= !want→gK st (some t) (.bool (!want)) fun st=>gK st o.dst (.aN []) K)
    | .aN []=>gK st o.dst (.aN []) K
    |_=>False
   |none=>False
noncomputable def ny(X:Ctx)(ops:Array Oper)(l:List Oper):St→(St→Prop)→Prop:=
 @List.rec Oper (fun _=>St→(St→Prop)→Prop) (fun st K=>K st) (fun o _ ih st K=>Gu X ops o st fun st'=>ih st' K) l
theorem af5(X:Ctx)(ops:Array Oper)(o:Oper)(r:List Oper)(st:St)(K:St→Prop):ny X ops (o::r) st K=Gu X ops o st fun st'=>ny X ops r st' K:=rfl
end
end Go.Eng
namespace Go.Eng
open Go Go.RowKit
def yO(ops:Array Oper)(n:Nat):Bool:=
 Nat.ble n ops.size&&
 ((List.range ops.size).all fun i=>match ops[i]? with
   |some o=>o.after.all fun e=> !Region.binds .any e||Nat.blt e.on i
   |none=>true)&&
 ((List.range n).all fun i=>(List.range n).all fun k=>match ops[i]?,ops[k]? with
   |some oi,some ok=>match ok.dst with
    |some t=>(Nat.beq i k||oi.dst != some t)&&(!(oi.looksAt ops).contains t||(Nat.blt k i&&Region.waitsFor .any ops i k))
    |none=>true
   |_,_=>true)&&
 (Nat.beq n ops.size||(Region.sinkB .any ops n&&Region.chainB .any ops n))&&
 Region.seqB .any ops (ops.size-n) n (Array.replicate n true++Array.replicate (ops.size-n) false)
section
variable {X:Ctx} {ops:Array Oper}
def Alike(s s':St):Prop:=s'.objs=s.objs∧s'.g=s.g∧s'.pin=s.pin∧s'.nt=s.nt∧ ∀t,look s'.env t=look s.env t
def zS(X:Ctx)(ops:Array Oper)(s:St)(o:Oper)(d:D)(s':St):Prop:=
 ∃si,Alike s si∧s'=si.put o.dst d∧
  ((o.guard=none∧wI X o (si.only (o.looksAt ops)) d)∨
   ∃j want t,o.guard=some (j,want)∧(ops[j]?).bind (·.dst)=some t∧((look s.env t= .bool want∧wI X o (si.only (o.looksAt ops)) d)∨((look s.env t= .bool (!want)∨look s.env t= .aN [])∧d= .aN [])))
theorem TQ(st:St)(t:Nat)(d:D)(u:Nat):look (st.put (some t) d).env u=if u=t∧t<st.nt then d else look st.env u:=by
 unfold St.put
 cases hb:Nat.blt t st.nt with
 |true=>
  have:t<st.nt:=by simpa[Nat.blt_eq] using hb
  simp only[hb,cond_true,this,and_true]
  by_cases h:u=t
  ·subst h;rw[AQ,if_pos rfl]
  ·rw[x9 _ _ h,if_neg h]
 |false=>
  have: ¬t<st.nt:=by intro h;rw[show Nat.blt t st.nt=true from by simpa[Nat.blt_eq] using h] at hb;cases hb
  simp only[hb,cond_false]
  rw[if_neg (fun h=>this h.2)]
theorem Vb(st:St)(dst:Option Nat)(d:D):(st.put dst d).objs=st.objs∧(st.put dst d).g=st.g∧(st.put dst d).pin=st.pin∧(st.put dst d).nt=st.nt:=by
 cases dst with
 |none=>exact⟨rfl,rfl,rfl,rfl⟩
 |some t=>
  unfold St.put
  cases hb:Nat.blt t st.nt<;>simp[hb]
theorem Rel.alike{s s':St}{β:Nat→Option Value}{a:Act}{w:World}(h:Rel X s β a w)(e:Alike s s'):Rel X s' β a w:=by
 obtain⟨e1,e2,e3,e4,e5⟩:=e
 have hF:=FX.same (X:=X) e1 β w
 exact(h.toW.same e1 e2 e3).toRel h.defers (by rw[h.size,e4]) (fun i=>by rw[hF,e5];exact h.tmps i)
theorem Rel.less{s s':St}{β:Nat→Option Value}{a:Act}{w:World}(h:Rel X s β a w)(e1:s'.objs=s.objs)(e2:s'.g=s.g)(e3:s'.pin=s.pin)(e4:s'.nt=s.nt)(e5: ∀t,look s'.env t= .junk∨look s'.env t=look s.env t):Rel X s' β a w:=by
 have hF:=FX.same (X:=X) e1 β w
 refine(h.toW.same e1 e2 e3).toRel h.defers (by rw[h.size,e4]) (fun i=> ?_)
 rw[hF]
 rcases e5 i with e|e
 ·rw[e];exact .ro _ _ (.junk _)
 ·rw[e];exact h.tmps i
theorem Rel.only{s:St}{β:Nat→Option Value}{a:Act}{w:World}(h:Rel X s β a w)(ts:List Nat):Rel X (s.only ts) β a w:=
 h.less rfl rfl rfl rfl (fun t=>(Gf s.env ts t).imp id (fun h=>h.2))
theorem N7{P:Program}{o:Oper}{a:Act}{w:World}{K:Act→World→Prop}(h:o.wp P a w K (fun _ _ _=>False)): ∃a' w',K a' w':=by
 unfold Oper.wp at h
 generalize (execOp a.eval o).run P w=r at h
 cases r with
 |ok n w'=>
  cases n<;>simp only[Oper.upon] at h<;>try(exact h.elim)
  case value=>exact⟨_,_,h⟩
  case skip=>exact⟨_,_,h⟩
  case enter f args=>
   obtain⟨e,w'',fr,hR,_⟩:=h []
   cases e with
   |returned v=>exact⟨_,_,hR⟩
   |panicked c=>exact hR.elim
   |outgrown=>obtain⟨_,_,h⟩:=hR;exact h.elim
  case defer=>exact⟨_,_,h⟩
  case row r args=>
   obtain⟨v,w'',hR,_⟩:=h default []
   exact⟨_,_,hR⟩
 |halt x w'=>cases x<;>simp only[Oper.upon] at h
theorem MO: ∀(l:List Oper) (st:St) (K:St→Prop),ny X ops l st K→(∃β a w,Rel X st β a w)→
 ∃(ds:Nat→D) (dX:Nat→St),dX 0=st∧K (dX l.length)∧ ∀i o,l[i]? =some o→zS X ops (dX i) o (ds i) (dX (i+1))
 |[],st,K,h,_=>⟨fun _=> .junk,fun _=>st,rfl,h,fun i o hi=>by simp at hi⟩
 |o::r,st,K,h,⟨β,a,w,hr⟩=>by
  have finish: ∀(si:St) (d:D),Alike st si→(∃β a w,Rel X (si.put o.dst d) β a w)→ny X ops r (si.put o.dst d) K→
   ((o.guard=none∧wI X o (si.only (o.looksAt ops)) d)∨ ∃j want t,o.guard=some (j,want)∧(ops[j]?).bind (·.dst)=some t∧((look st.env t= .bool want∧wI X o (si.only (o.looksAt ops)) d)∨((look st.env t= .bool (!want)∨look st.env t= .aN [])∧d= .aN [])))→
   ∃(ds:Nat→D) (dX:Nat→St),dX 0=st∧K (dX (o::r).length)∧ ∀i o',(o::r)[i]? =some o'→zS X ops (dX i) o' (ds i) (dX (i+1)):=by
   intro si d hal hex hk hy
   obtain⟨ds,dX,h0,hK,hst⟩:=MO r _ K hk hex
   refine⟨fun i=>match i with|0=>d|i+1=>ds i,fun i=>match i with|0=>st|i+1=>dX i,rfl,hK,fun i o' hi=> ?_⟩
   cases i with
   |zero=>
    have:o'=o:=by simpa using hi.symm
    subst this
    exact⟨si,hal,h0,hy⟩
   |succ i=>exact hst i o' iI
  have after: ∀(si:St) (d:D),Rel X si β a w→wI X o (si.only (o.looksAt ops)) d→ ∃β a w,Rel X (si.put o.dst d) β a w:=by
   intro si d hsi hy
   obtain⟨a',w',v,hg,hrep,ha'⟩:=N7 (hy β a w (fun a' w'=> ∃v,w.grownBy w' none∧Rep (FX X (si.only (o.looksAt ops)) β w') β w' v d∧a'=a.put o.dst v) _ (hsi.only _) (fun v w' hg hrep=>⟨v,hg,hrep,rfl⟩))
   exact⟨β,_,w',(hsi.grown hg).put o.dst hrep⟩
  rw[af5] at h
  unfold Gu at h
  split at h
  ·rename_i hg
   obtain⟨d,hk,hy⟩:=Vd (hr.only _) h
   exact finish st d ⟨rfl,rfl,rfl,rfl,fun _=>rfl⟩ (after st d hr hy) (eX (oN hk)) (.inl ⟨hg,hy⟩)
  ·rename_i j want hg
   split at h
   ·rename_i t hj
    split at h
    ·rename_i c ht
     have hal: ∀b,c=b→Alike st (st.put (some t) (.bool b)):=by
      intro b hb
      obtain⟨e1,e2,e3,e4⟩:=Vb st (some t) (.bool b)
      refine⟨e1,e2,e3,e4,fun u=> ?_⟩
      rw[TQ]
      split
      ·rename_i hu;rw[hu.1,ht,hb]
      ·rfl
     by_cases hc:c=want
     ·have hk:=eX (h.1 hc)
      have hsi:=hr.alike (hal want hc)
      obtain⟨d,hk,hy⟩:=Vd (hsi.only _) hk
      exact finish _ d (hal want hc) (after _ d hsi hy) (eX (oN hk)) (.inr ⟨j,want,t,hg,hj, .inl ⟨by rw[ht,hc],hy⟩⟩)
     ·have hc':c= !want:=by cases c<;>cases want<;>simp_all
      have hk:=eX (eX (h.2 hc'))
      have hsi:=hr.alike (hal (!want) hc')
      exact finish _ (.aN []) (hal (!want) hc') ⟨β,_,w,hsi.put o.dst (v:=undef) oZ⟩ hk (.inr ⟨j,want,t,hg,hj, .inr ⟨.inl (by rw[ht,hc']),rfl⟩⟩)
    ·rename_i ht
     exact finish st (.aN []) ⟨rfl,rfl,rfl,rfl,fun _=>rfl⟩ ⟨β,_,w,hr.put o.dst (v:=undef) oZ⟩ (eX h) (.inr ⟨j,want,t,hg,hj, .inr ⟨.inr ht,rfl⟩⟩)
    ·exact h.elim
   ·exact h.elim
theorem Gg{s s':St}{o:Oper}{d:D}(h:zS X ops s o d s')(t:Nat):look s'.env t=if o.dst=some t∧t<s.nt then d else look s.env t:=by
 obtain⟨si,hal,rfl,_⟩:=h
 obtain⟨_,_,_,e4,e5⟩:=hal
 cases hd:o.dst with
 |none=>simp[St.put,e5]
 |some u=>
  rw[TQ,e4,e5]
  by_cases h:t=u
  ·subst h;simp
  ·rw[if_neg (fun hh=>h hh.1),if_neg (fun hh=>h (Option.some.inj hh.1).symm)]
theorem rest_step{s s':St}{o:Oper}{d:D}(h:zS X ops s o d s'):s'.objs=s.objs∧s'.g=s.g∧s'.pin=s.pin∧s'.nt=s.nt:=by
 obtain⟨si,⟨e1,e2,e3,e4,_⟩,rfl,_⟩:=h
 obtain⟨f1,f2,f3,f4⟩:=Vb si o.dst d
 exact⟨f1.trans e1,f2.trans e2,f3.trans e3,f4.trans e4⟩
structure Mid (X:Ctx) (ops:Array Oper) (n:Nat) (s0:St) (ds:Nat→D) (listed:Array Bool) (β:Nat→Option Value) (a:Act) (w:World):Prop where
 heap:WRel X s0 β w
 defers:a.defers=[]
 size:a.tmps.size=s0.nt
 done: ∀i o t,i<n→ops[i]? =some o→o.dst=some t→t<s0.nt→listed.getD i false=true→Rep (FX X s0 β w) β w (a.tmps.getD t undef) (ds i)
 base: ∀t,(t<s0.nt→ ∀i o,i<n→ops[i]? =some o→o.dst≠some t)→Rep (FX X s0 β w) β w (a.tmps.getD t undef) (look s0.env t)
theorem QG{n:Nat}(h:yO ops n=true):n≤ops.size∧(∀i o,ops[i]? =some o→ ∀e∈o.after,Region.binds .any e=true→e.on<i)∧
 (∀i k oi ok t,i<n→k<n→ops[i]? =some oi→ops[k]? =some ok→ok.dst=some t→(i=k∨oi.dst≠some t)∧(t∈oi.looksAt ops→k<i∧Region.waitsFor .any ops i k=true))∧
 (n<ops.size→Region.sinkB .any ops n=true∧Region.chainB .any ops n=true)∧Region.seqB .any ops (ops.size-n) n (Array.replicate n true++Array.replicate (ops.size-n) false)=true:=by
 unfold yO at h
 simp only[Bool.and_eq_true] at h
 obtain⟨⟨⟨⟨h1,h2⟩,h3⟩,h4⟩,h5⟩:=h
 refine⟨by simpa using h1,fun i o hi e he hb=> ?_,fun i k oi ok t hi hk hoi hok hd=> ?_,fun hn=> ?_,h5⟩
 ·have hlt:i<ops.size:=(Array.getElem?_eq_some_iff.1 hi).1
  have:=List.all_eq_true.1 h2 i (List.mem_range.2 hlt)
  rw[hi] at this
  have:=Array.all_eq_true_iff_forall_mem.1 this e he
  simpa[hb,Nat.blt_eq] using this
 ·have:=List.all_eq_true.1 (List.all_eq_true.1 h3 i (List.mem_range.2 hi)) k (List.mem_range.2 hk)
  rw[hoi,hok] at this
  simp only[hd] at this
  simp only[Bool.and_eq_true,Bool.or_eq_true,bne_iff_ne,ne_eq,Nat.blt_eq,Bool.not_eq_true',List.contains_eq_mem,decide_eq_false_iff_not] at this
  exact⟨this.1.imp Nat.eq_of_beq_eq_true id,fun ht=>this.2.resolve_left (fun h=>h ht)⟩
 ·rcases Bool.or_eq_true _ _▸h4 with h|h
  ·have:=Nat.eq_of_beq_eq_true h
   omega
  ·exact jZ h
theorem aeT{n:Nat}{s0:St}{ds:Nat→D}{dX:Nat→St}{Q:Exit→Act→World→Prop}(hB:yO ops n=true)(h0:dX 0=s0)
 (hstep: ∀i o,i<n→ops[i]? =some o→zS X ops (dX i) o (ds i) (dX (i+1)))
 (htail: ∀β a w,Rel X (dX n) β a w→wpList X.P ops Q (ops.toList.drop n) a w):
 ∀(fuel:Nat) (listed:Array Bool) (β:Nat→Option Value) (a:Act) (w:World),listed.toList.count false=fuel→HeadInv .any ops n listed→Mid X ops n s0 ds listed β a w→wpAny X.P .any ops Q fuel listed a w:=by
 obtain⟨hn,AA,vJ,htl,hseq⟩:=QG hB
 have hrest: ∀i,i≤n→(dX i).objs=s0.objs∧(dX i).g=s0.g∧(dX i).pin=s0.pin∧(dX i).nt=s0.nt:=by
  intro i
  induction i with
  |zero=>intro _;rw[h0];exact⟨rfl,rfl,rfl,rfl⟩
  |succ i ih=>
   intro hi
   have hlt:i<ops.size:=by omega
   obtain⟨e1,e2,e3,e4⟩:=rest_step (hstep i ops[i] ah (Array.getElem?_eq_getElem hlt))
   obtain⟨f1,f2,f3,f4⟩:=ih ah
   exact⟨e1.trans f1,e2.trans f2,e3.trans f3,e4.trans f4⟩
 have hbase: ∀i,i≤n→ ∀t,(t<s0.nt→ ∀k o,k<i→ops[k]? =some o→o.dst≠some t)→look (dX i).env t=look s0.env t:=by
  intro i
  induction i with
  |zero=>intro _ t _;rw[h0]
  |succ i ih=>
   intro hi t ht
   have hlt:i<ops.size:=by omega
   rw[Gg (hstep i ops[i] ah (Array.getElem?_eq_getElem hlt)),if_neg (fun h=>ht (by rw[(hrest i ah).2.2.2] at h;exact h.2) i _ ah (Array.getElem?_eq_getElem hlt) h.1)]
   exact ih ah t (fun hnt k o hk ho=>ht hnt k o ah ho)
 have hdone: ∀i,i≤n→ ∀k o t,k<i→ops[k]? =some o→o.dst=some t→t<s0.nt→look (dX i).env t=ds k:=by
  intro i
  induction i with
  |zero=>intro _ k o t hk;omega
  |succ i ih=>
   intro hi k o t hk ho hd ht
   have hlt:i<ops.size:=by omega
   have hst:=hstep i ops[i] ah (Array.getElem?_eq_getElem hlt)
   rw[Gg hst]
   by_cases hki:k=i
   ·subst hki
    have:ops[k]=o:=by rw[Array.getElem?_eq_getElem hlt] at ho;exact Option.some.inj ho
    rw[this,if_pos ⟨hd,by rw[(hrest k ah).2.2.2];exact ht⟩]
   ·rw[if_neg]
    ·exact ih ah k o t ah ho hd ht
    ·intro h
     rcases(vJ i k ops[i] o t ah ah (Array.getElem?_eq_getElem hlt) ho hd).1 with h'|h'
     ·exact hki h'.symm
     ·exact h' h.1
 have DI: ∀(listed:Array Bool) (β:Nat→Option Value) (a:Act) (w:World),Mid X ops n s0 ds listed β a w→ ∀i,i≤n→ ∀t,(t<s0.nt→ ∀k o,k<n→ops[k]? =some o→o.dst=some t→k<i∧listed.getD k false=true)→
  Rep (FX X s0 β w) β w (a.tmps.getD t undef) (look (dX i).env t):=by
  intro listed β a w hm i hi t ht
  by_cases hex:t<s0.nt∧ ∃k o,k<n∧ops[k]? =some o∧o.dst=some t
  ·obtain⟨hnt,k,o,hk,ho,hd⟩:=hex
   obtain⟨hki,hl⟩:=ht hnt k o hk ho hd
   rw[hdone i hi k o t hki ho hd hnt]
   exact hm.done k o t hk ho hd hnt hl
  ·rw[hbase i hi t (fun hnt k o hk ho hd=>hex ⟨hnt,k,o,by omega,ho,hd⟩)]
   exact hm.base t (fun hnt k o hk ho hd=>hex ⟨hnt,k,o,hk,ho,hd⟩)
 have hend: ∀(listed:Array Bool) (β:Nat→Option Value) (a:Act) (w:World),Mid X ops n s0 ds listed β a w→(∀i,i<n→listed.getD i false=true)→wpList X.P ops Q (ops.toList.drop n) a w:=by
  intro listed β a w hm hall
  obtain⟨e1,e2,e3,e4⟩:=hrest n (Nat.le_refl _)
  refine htail β a w ((hm.heap.same e1 e2 e3).toRel hm.defers (by rw[hm.size,e4]) (fun t=> ?_))
  rw[FX.same (X:=X) e1]
  exact DI listed β a w hm n (Nat.le_refl _) t (fun _ k o hk _ _=>⟨hk,hall k hk⟩)
 have hin: ∀(listed:Array Bool) i,i<listed.size→listed.getD i true=listed.getD i false:=by
  intro listed i hi;simp[hi]
 intro fuel
 induction fuel with
 |zero=>
  intro listed β a w hc inv hm
  have hall: ∀i,i<ops.size→listed.getD i true=true:=by
   intro i hi
   rcases hb:listed.getD i true with _|_
   ·have hl:i<listed.size:=by rw[inv.size];exact hi
    have:listed.toList[i]' pI=false:=by simpa[hl] using hb
    have hmem:false∈listed.toList:=by rw[←this];exact List.getElem_mem _
    have:=List.count_pos_iff.2 hmem
    omega
   ·rfl
  have hns:n=ops.size:=by
   rcases Nat.lt_or_ge n ops.size with h|h
   ·have:=inv.tail n (Nat.le_refl _) h
    rw[hall n h] at this
    cases this
   ·omega
  have hw:=hend listed β a w hm (fun i hi=>by rw[←hin listed i zJ];exact hall i ah)
  rw[List.drop_of_length_le nX] at hw
  refine⟨?_,hw⟩
  cases hr:Region.ready .any ops listed with
  |nil=>rfl
  |cons x xs=>
   have hx:x∈Region.ready .any ops listed:=by rw[hr];simp
   obtain⟨h1,o,h2,_⟩:=mem_ready.1 hx
   rw[hall x (Array.getElem?_eq_some_iff.1 h2).1] at h1
   cases h1
 |succ fuel ih=>
  intro listed β a w hc inv hm
  by_cases hall: ∀i,i<n→listed.getD i false=true
  ·
   have hw:=hend listed β a w hm hall
   have hlist:listed=Array.replicate n true++Array.replicate (ops.size-n) false:=by
    apply Array.ext
    ·simp[inv.size];omega
    ·intro i h1 h2
     have his:i<ops.size:=by rw[←inv.size];exact h1
     by_cases hi:i<n
     ·have:=hall i hi
      simp[h1] at this
      rw[this,Array.getElem_append_left iI]
      simp
     ·have:=inv.tail i ah his
      simp[h1] at this
      rw[this,Array.getElem_append_right nX]
      simp
   have hfl:fuel+1=(ops.toList.drop n).length:=by
    rw[←hc,hlist]
    simp[List.count_replicate]
   rw[hfl]
   refine wpAny_of_seq (ops.toList.drop n) n listed a w (fun j=>by simp[List.getElem?_drop]) ?_ hw
   rw[←hfl,hlist]
   have:fuel+1=ops.size-n:=by rw[hfl];simp
   rw[this]
   exact hseq
  ·
   have hex: ∃i,i<n∧listed.getD i true=false:=by
    refine Classical.byContradiction fun hno=>hall fun i hi=> ?_
    rw[←hin listed i zJ]
    cases hb:listed.getD i true with
    |true=>rfl
    |false=>exact absurd ⟨i,hi,hb⟩ hno
   have KA: ∀m i,i≤m→i<n→listed.getD i true=false→Region.ready .any ops listed≠ []:=by
    intro m
    induction m with
    |zero=>
     intro i hi hin' hu hr
     have:i=0:=by omega
     subst this
     have hlt:0<ops.size:=by omega
     have:0∈Region.ready .any ops listed:=mem_ready.2 ⟨hu,ops[0],Array.getElem?_eq_getElem hlt,fun e he hb=>absurd (AA 0 _ (Array.getElem?_eq_getElem hlt) e he hb) ah⟩
     rw[hr] at this
     cases this
    |succ m KH=>
     intro i hi hin' hu hr
     by_cases hlow: ∃j,j<i∧listed.getD j true=false
     ·obtain⟨j,hj,xW⟩:=hlow
      exact KH j ah ah xW hr
     ·have hlt:i<ops.size:=by omega
      have:i∈Region.ready .any ops listed:=mem_ready.2 ⟨hu,ops[i],Array.getElem?_eq_getElem hlt,fun e he hb=>by
       have:=AA i _ (Array.getElem?_eq_getElem hlt) e he hb
       rw[←hin listed e.on zJ]
       cases hbb:listed.getD e.on true with
       |true=>rfl
       |false=>exact absurd ⟨e.on,this,hbb⟩ hlow⟩
      rw[hr] at this
      cases this
   obtain⟨i0,hi0,hu0⟩:=hex
   refine⟨fun h=>absurd h (KA i0 i0 (Nat.le_refl _) hi0 hu0),fun j hj=> ?_⟩
   obtain⟨xW,o,hoj,hall'⟩:=mem_ready.1 hj
   have hjs:j<ops.size:=(Array.getElem?_eq_some_iff.1 hoj).1
   have hjn:j<n:=by
    rcases Nat.lt_or_ge n ops.size with h|h
    ·rcases Nat.lt_or_ge j n with h'|h'
     ·exact h'
     ·exact absurd hj (tail_waits (htl h).1 (htl h).2 h inv _ i0 rfl hi0 hu0 j h')
    ·omega
   have hst:=hstep j o hjn hoj
   obtain⟨si,hal,_,y8⟩:=hst
   obtain⟨a1,a2,a3,a4,a5⟩:=hal
   obtain⟨e1,e2,e3,e4⟩:=hrest j ah
   have nO:Rel X (si.only (o.looksAt ops)) β a w:=by
    refine(hm.heap.same (st':=si.only (o.looksAt ops)) (a1.trans e1) (a2.trans e2) (a3.trans e3)).toRel hm.defers (by show a.tmps.size=si.nt;rw[hm.size,a4,e4]) (fun t=> ?_)
    have hF:FX X (si.only (o.looksAt ops)) β w=FX X s0 β w:=FX.same (X:=X) (a1.trans e1) β w
    rw[hF]
    rcases Gf si.env (o.looksAt ops) t with h|⟨hin2,h⟩
    ·show Rep _ β w _ (look (nR si.env (o.looksAt ops)) t)
     rw[h];exact .ro _ _ (.junk _)
    ·show Rep _ β w _ (look (nR si.env (o.looksAt ops)) t)
     rw[h,a5]
     refine DI listed β a w hm j ah t (fun hnt k ok hk hok hd=> ?_)
     obtain⟨h1,h2⟩:=(vJ j k o ok t hjn hk hoj hok hd).2 hin2
     obtain⟨o',ho',e,he,hb,hon⟩:=Region.waitsFor_spec h2
     have:o'=o:=Option.some.inj (ho'.symm.trans hoj)
     subst this
     exact⟨h1,by rw[←hon];exact hall' e he hb⟩
   have hcount:(listed.setIfInBounds j true).toList.count false=fuel:=by
    have hl:j<listed.toList.length:=by simp[inv.size];exact hjs
    have hv:listed.toList[j]=false:=by
     have hl':j<listed.size:=by simpa using hl
     simpa[hl'] using xW
    rw[Array.toList_setIfInBounds,List.count_set hl,hv,hc]
    simp
   have hnext: ∀v w',w.grownBy w' none→Rep (FX X s0 β w') β w' v (ds j)→wpAny X.P .any ops Q fuel (listed.setIfInBounds j true) (a.put o.dst v) w':=by
    intro v w' hg hrep
    refine ih _ β _ w' hcount (inv.set hj hjn) ?_
    have DK:Rel X ⟨[],s0.nt,s0.objs,s0.g,s0.pin⟩ β a w:=(hm.heap.same (st':=⟨[],s0.nt,s0.objs,s0.g,s0.pin⟩) rfl rfl rfl).toRel hm.defers hm.size (fun t=> .ro _ _ (.junk _))
    have hgrow:=DK.grown hg
    have hup: ∀ {v d},Rep (FX X s0 β w) β w v d→Rep (FX X s0 β w') β w' v d:=fun h=>RP DK hg h
    have hsame: ∀t,(o.dst=some t→ ¬t<s0.nt)→(a.put o.dst v).tmps.getD t undef=a.tmps.getD t undef:=by
     intro t ht
     cases hd:o.dst with
     |none=>rfl
     |some u=>
      by_cases hut:u=t
      ·subst hut
       have hnt:=ht hd
       have: ¬u<a.tmps.size:=by rw[hm.size];exact hnt
       simp[Act.put,this]
      ·simp[Act.put,Array.getElem?_setIfInBounds_ne hut]
    refine⟨hgrow.toW.same rfl rfl rfl,by cases o.dst<;>exact hm.defers,?_,fun i oi t hi hoi hd hnt hl=> ?_,fun t ht=> ?_⟩
    ·cases hd:o.dst<;>simp[Act.put,hm.size]
    ·by_cases hij:i=j
     ·subst hij
      have:oi=o:=Option.some.inj (hoi.symm.trans hoj)
      subst this
      have hts:t<a.tmps.size:=by rw[hm.size];exact hnt
      have:(a.put oi.dst v).tmps.getD t undef=v:=by simp[Act.put,hd,hts]
      rw[this]
      exact hrep
     ·rw[hsame t (fun hod=>by
       rcases(vJ j i o oi t hjn hi hoj hoi hd).1 with h|h
       ·exact absurd h.symm hij
       ·exact absurd hod h)]
      rw[getD_set_ne false (Ne.symm hij)] at hl
      exact hup (hm.done i oi t hi hoi hd hnt hl)
    ·rw[hsame t (fun hod hnt=>ht hnt j o hjn hoj hod)]
     exact hup (hm.base t ht)
   have hFX: ∀w',FX X (si.only (o.looksAt ops)) β w'=FX X s0 β w':=fun w'=>FX.same (X:=X) (a1.trans e1) β w'
   unfold wpOp
   simp only[hoj]
   rcases y8 with⟨hg,hy⟩|⟨jg,want,t,hg,hjt,hcase⟩
   ·rw[if_pos (by simp[Region.wanted,hg])]
    exact .inl (hy β a w _ _ nO (fun v w' hgr hrep=>hnext v w' hgr EK))
   ·have KD:t∈o.looksAt ops:=by
     unfold Oper.looksAt
     rw[hg]
     exact List.mem_append_right _ (by simp[hjt])
    have hl2:look (si.only (o.looksAt ops)).env t=look (dX j).env t:=by
     show look (nR si.env (o.looksAt ops)) t=_
     have: ∀(ts:List Nat),t∈ts→look (nR si.env ts) t=look si.env t:=by
      intro ts
      induction ts with
      |nil=>intro h;cases h
      |cons u r ihr=>
       intro h
       simp only[nR,look]
       cases hb:Nat.beq t u with
       |true=>have:=Nat.eq_of_beq_eq_true hb;subst this;rfl
       |false=>
        refine ihr ?_
        rcases List.mem_cons.1 h with h|h
        ·subst h;simp at hb
        ·exact h
     rw[this _ KD,a5]
    rcases hcase with⟨hc1,KF⟩|⟨hc1|hc1,DF⟩
    ·have hy:=zI (ops:=ops) nO hjt (hl2.trans hc1)
     rw[if_pos yE]
     exact .inl (KF β a w _ _ nO (fun v w' hgr hrep=>hnext v w' hgr EK))
    ·have hy:=zI (ops:=ops) nO hjt (hl2.trans hc1)
     rw[if_neg yE]
     exact hnext undef w (grownBy_refl w) Hz
    ·have hy:=EH (ops:=ops) nO hjt (hl2.trans hc1)
     rw[if_neg yE]
     exact hnext undef w (grownBy_refl w) Hz
end
end Go.Eng
namespace Go.Eng
open Go Go.RowKit
inductive DExit where
 |normal
 |exit (id:Nat)
 |ret
def QC(X:Ctx)(Q:DExit→St→Prop):Exit→Act→World→Prop
 | .normal,a,w=>PostR X (Q .normal) a w
 | .exit i,a,w=>PostR X (Q (.exit i)) a w
 | .ret,a,w=>PostR X (Q .ret) a w
 |_,_,_=>False
@[irreducible] def iP(X:Ctx)(c:Code)(Q:DExit→St→Prop)(st:St):Prop:= ∀β a w,Rel X st β a w→c.wp X.P (QC X Q) a w
theorem iP.mk{X:Ctx}{c:Code}{Q:DExit→St→Prop}{st:St}(h: ∀β a w,Rel X st β a w→c.wp X.P (QC X Q) a w):iP X c Q st:=by unfold iP;exact h
theorem iP.out{X:Ctx}{c:Code}{Q:DExit→St→Prop}{st:St}(h:iP X c Q st): ∀β a w,Rel X st β a w→c.wp X.P (QC X Q) a w:=by unfold iP at h;exact h
@[irreducible] def jf(X:Ctx)(ops:Array Oper)(K:St→Prop)(st:St):Prop:=
 ∀β a w (id:Nat) (Q:Exit→Act→World→Prop),Rel X st β a w→(∀a w,PostR X K a w→Q .normal a w)→(Code.region id ops true).wp X.P Q a w
theorem jf.mk{X:Ctx}{ops:Array Oper}{K:St→Prop}{st:St}(h: ∀β a w (id:Nat) (Q:Exit→Act→World→Prop),Rel X st β a w→(∀a w,PostR X K a w→Q .normal a w)→(Code.region id ops true).wp X.P Q a w):jf X ops K st:=by unfold jf;exact h
theorem jf.out{X:Ctx}{ops:Array Oper}{K:St→Prop}{st:St}(h:jf X ops K st): ∀β a w (id:Nat) (Q:Exit→Act→World→Prop),Rel X st β a w→(∀a w,PostR X K a w→Q .normal a w)→(Code.region id ops true).wp X.P Q a w:=by unfold jf at h;exact h
def Vh(o:Oper):Bool:=
 isPure o.op||match o.op with
  | .call c=>match c.callee with
    | .value _=>true
    |_=>false
  |_=>false
def Fz:List Oper→Nat
 |[]=>0
 |o::r=>bif Vh o then Fz r+1 else 0
def af7(o:Oper):Bool:=
 Vh o||match o.op with
  | .buildSlice _ _ _=>true
  |_=>false
def FB:List Oper→Nat
 |[]=>0
 |o::r=>bif af7 o then FB r+1 else 0
theorem Jw{X:Ctx}{ops:Array Oper}{K:St→Prop}{st:St}(n:Nat)(hm:X.P.follows .mixedOrders=true)(hB:yO ops n=true)
 (h:ny X ops (ops.toList.take n) st fun st=>lH X ops (ops.toList.drop n) st K):jf X ops K st:=by
 refine jf.mk fun β a w id Q hr hQ=>wp_region_any hm ?_
 have hr1:Rel X st β a { w with drawn:=w.drawn+1 } :=hr.drew
 obtain⟨ds,dX,h0,hK,hstep⟩:=MO (ops.toList.take n) st _ h ⟨β,a,_,hr1⟩
 obtain⟨hn,_⟩:=QG hB
 have hlen:(ops.toList.take n).length=n:=by simp;omega
 rw[hlen] at hK
 refine aeT hB h0 (fun i o hi ho=>hstep i o (by rw[List.getElem?_take_of_lt hi,Array.getElem?_toList];exact ho)) (fun β a w hr=>Gl _ _ β a w hK hr hQ) ops.size _ β a _ fB ?_ ?_
 ·exact⟨by simp,fun j oj _ hl=>Hy,fun t _ ht=>getD_in (by simpa using ht) (getD_replicate_false _ _)⟩
 ·exact⟨hr1.toW,hr1.defers,hr1.size,fun i o t _ _ _ _ hl=>Hy,fun t _=>hr1.tmps t⟩
def Jm(st:St)(c:Operand)(kt kf:Prop):Prop:=
 match st.ev c with
 | .bool b=>(b=true→kt)∧(b=false→kf)
 |_=>False
def awp(X:Ctx):Code→(DExit→St→Prop)→St→Prop
 | .skip,Q,st=>Q .normal st
 | .label _,Q,st=>Q .normal st
 | .region _ ops false,Q,st=>lH X ops ops.toList st (Q .normal)
 | .region _ ops true,Q,st=>jf X ops (Q .normal) st
 | .seq x y,Q,st=>awp X x (fun e st=>match e with
   | .normal=>awp X y Q st
   | .exit i=>Q (.exit i) st
   | .ret=>Q .ret st) st
 | .cond c x y,Q,st=>Jm st c (awp X x Q st) (awp X y Q st)
 | .block id b,Q,st=>awp X b (fun e st=>match e with
   | .exit i=>bif Nat.beq i id then Q .normal st else Q (.exit i) st
   | .normal=>Q .normal st
   | .ret=>Q .ret st) st
 | .exit id,Q,st=>Q (.exit id) st
 | .ret,Q,st=>Q .ret st
 | .loop b,Q,st=>iP X (.loop b) Q st
 | .scope b,Q,st=>awp X b Q st
 |_,_,_=>False
theorem PostR.mono{X:Ctx}{K K':St→Prop}(h: ∀st,K st→K' st){a:Act}{w:World} :PostR X K a w→PostR X K' a w:=fun⟨st,β,hk,hr⟩=>⟨st,β,h st hk,hr⟩
theorem awp_sound(X:Ctx)(c:Code): ∀(Q:DExit→St→Prop) (st:St),awp X c Q st→ ∀β a w,Rel X st β a w→c.wp X.P (QC X Q) a w:=by
 induction c with
 |skip=>intro Q st h β a w hr;exact wp_skip ⟨st,β,h,hr⟩
 |label l=>intro Q st h β a w hr;exact wp_label ⟨st,β,h,hr⟩
 |region id ops draw=>
  intro Q st h β a w hr
  cases draw with
  |false=>exact wp_region_list (Gl _ _ β a w h hr (fun a w hk=>hk))
  |true=>exact jf.out h β a w id _ hr (fun a w hk=>hk)
 |seq x y KI ihy=>
  intro Q st h β a w hr
  refine wp_seq (Code.wp_mono ?_ (KI _ st h β a w hr))
  intro e a' w' hq
  cases e with
  |normal=>obtain⟨st',β',hk,hr'⟩:=hq;exact ihy _ st' hk β' a' w' hr'
  |exit i=>exact hq
  |ret=>exact hq
  |goto l=>exact hq
  |panic c=>exact hq
  |outgrown=>exact hq
 |cond c x y KI ihy=>
  intro Q st h β a w hr
  unfold awp Jm at h
  split at h
  ·rename_i b hb
   have he:=hr.ev c
   rw[hb] at he
   refine wp_cond_split (t:=b) he.nJ (fun hb=>KI _ st (h.1 hb) β a w hr) (fun hb=>ihy _ st (h.2 hb) β a w hr)
  ·exact h.elim
 |block id b ih=>
  intro Q st h β a w hr
  refine wp_block (Code.wp_mono ?_ (ih _ st h β a w hr))
  intro e a' w' hq
  cases e with
  |normal=>exact hq
  |exit i=>
   simp only[Exit.inBlock]
   obtain⟨st',β',hk,hr'⟩:=hq
   cases hb:Nat.beq i id with
   |true=>
    have hk:(bif Nat.beq i id then Q .normal st' else Q (.exit i) st'):=hk
    rw[hb] at hk
    rw[if_pos (Nat.eq_of_beq_eq_true hb)]
    exact⟨st',β',hk,hr'⟩
   |false=>
    have hk:(bif Nat.beq i id then Q .normal st' else Q (.exit i) st'):=hk
    rw[hb] at hk
    rw[if_neg (fun h=>by subst h;simp at hb)]
    exact⟨st',β',hk,hr'⟩
  |ret=>exact hq
  |goto l=>exact hq
  |panic c=>exact hq
  |outgrown=>exact hq
 |exit id=>intro Q st h β a w hr;exact wp_exit ⟨st,β,h,hr⟩
 |ret=>intro Q st h β a w hr;exact wp_ret ⟨st,β,h,hr⟩
 |loop b _=>intro Q st h β a w hr;exact iP.out h β a w hr
 |scope b ih=>
  intro Q st h β a w hr
  refine wp_scope_straight (Code.wp_mono ?_ (ih _ st h β a w hr))
  intro e a' w' hq
  cases e<;>first|exact hq|exact hq.elim
 |rangeFunc=>intro Q st h;exact h.elim
 |goto=>intro Q st h;exact h.elim
 |refuse=>intro Q st h;exact h.elim
theorem iP.of{X:Ctx}{c:Code}{Q:DExit→St→Prop}{st:St}(h:awp X c Q st):iP X c Q st:=iP.mk (awp_sound X c Q st h)
theorem least{p:Nat→Prop}(h: ∃n,p n): ∃n,p n∧ ∀k,k<n→ ¬p k:=by
 obtain⟨n,hn⟩:=h
 induction n using Nat.strongRecOn with
 |_ n ih=>
  by_cases hk: ∃k,k<n∧p k
  ·obtain⟨k,hk,hp⟩:=hk;exact ih k hk hp
  ·exact⟨n,hn,fun k hkn hp=>hk ⟨k,hkn,hp⟩⟩
theorem aeI{X:Ctx}{b:Code}{Q:DExit→St→Prop}{st:St}{γ:Type}(I:γ→St)(inv:γ→Prop)(μ:γ→Nat)(g0:γ)(h0:inv g0)(hw:Weak st (I g0))
 (round: ∀g,inv g→awp X b (fun e st'=>match e with
   | .normal=> ∃g',inv g'∧μ g'<μ g∧Weak st' (I g')
   | .exit i=>Q (.exit i) st'
   | .ret=>Q .ret st') (I g)):iP X (.loop b) Q st:=by
 refine iP.mk fun β a w hr=> ?_
 let J:Nat→Act→World→Prop:=fun m a w=> ∃g β,inv g∧μ g=m∧Rel X (I g) β a w
 let Inv:Act→World→Prop:=fun a w=> ∃m,J m a w
 have hmin: ∀a w,Inv a w→ ∃m,J m a w∧ ∀k,k<m→ ¬J k a w:=fun a w h=>least h
 let M:Act→World→Nat:=fun a w=>open Classical in if h:Inv a w then(hmin a w h).choose else 0
 refine wp_loop Inv M ?_ ?_
 ·obtain⟨β',hr'⟩:=hw X β a w hr
  exact⟨μ g0,g0,β',h0,rfl,hr'⟩
 ·intro a w hI
  have hM:M a w=(hmin a w hI).choose:=by simp[M,hI]
  obtain⟨⟨g,β,hg,hμ,hr⟩,ahx⟩:=(hmin a w hI).choose_spec
  refine Code.wp_mono ?_ (awp_sound X b _ _ (round g hg) β a w hr)
  intro e a' w' hq
  cases e with
  |normal=>
   obtain⟨st',β',⟨g',hg',hlt,hwk⟩,hr'⟩:=hq
   obtain⟨β2,hr2⟩:=hwk X β' a' w' hr'
   have hI':Inv a' w':=⟨μ g',g',β2,hg',rfl,hr2⟩
   refine⟨hI',?_⟩
   have hM':M a' w'=(hmin a' w' hI').choose:=by simp[M,hI']
   have hle:M a' w'≤μ g':=by
    rw[hM']
    rcases Nat.lt_or_ge (μ g') (hmin a' w' hI').choose with h|h
    ·exact absurd ⟨g',β2,hg',rfl,hr2⟩ ((hmin a' w' hI').choose_spec.2 _ h)
    ·exact h
   rw[hM,←hμ]
   omega
  |exit i=>exact hq
  |ret=>exact hq
  |goto l=>exact hq
  |panic c=>exact hq
  |outgrown=>exact hq
end Go.Eng
namespace Go.Eng
open Go Go.RowKit
def argEnv:Nat→List D→List (Nat×D)
 |_,[]=>[]
 |i,d::r=>(i,d)::argEnv (i+1) r
theorem look_argEnv: ∀(ds:List D) (k i:Nat),look (argEnv k ds) i=if k≤i then ds.getD (i-k) .junk else .junk
 |[],k,i=>by simp[argEnv,look]
 |d::r,k,i=>by
  simp only[argEnv,look]
  cases hb:Nat.beq i k with
  |true=>
   have:=Nat.eq_of_beq_eq_true hb
   subst this
   simp
  |false=>
   have hne:i≠k:=fun h=>by subst h;simp at hb
   simp only[cond_false,look_argEnv r (k+1) i]
   by_cases h:k≤i
   ·rw[if_pos h,if_pos ah,show i-k=(i-(k+1))+1 by omega,List.getD_cons_succ]
   ·rw[if_neg h,if_neg ah]
def pos:List Nat→Nat→Option Nat
 |[],_=>none
 |x::r,o=>bif Nat.beq x o then some 0 else(pos r o).map (· +1)
def qF(ids:List Nat):D→D
 | .h o=>match pos ids o with
   |some k=> .h k
   |none=> .junk
 | .hp _ _=> .junk
 | .hr _ _ _ _=> .junk
 | .hs _ _ _ _=> .junk
 | .agg _=> .junk
 | .aN _=> .junk
 | .clo _ _=> .junk
 |d=>d
def out1(ids:List Nat):D→D
 | .agg cs=> .agg (cs.map (qF ids))
 | .clo g cs=> .clo g (cs.map (qF ids))
 | .aN _=> .junk
 |d=>qF ids d
def rD(ids:List Nat):D→D
 | .aN ds=> .aN (ds.map (out1 ids))
 |d=>out1 ids d
theorem Bf: ∀ {ids:List Nat} {o k:Nat},pos ids o=some k→ids[k]? =some o
 |x::r,o,k,h=>by
  simp only[pos] at h
  cases hb:Nat.beq x o with
  |true=>
   rw[hb] at h
   have:=Nat.eq_of_beq_eq_true hb
   subst this
   simp only[cond_true,Option.some.injEq] at h
   subst h
   rfl
  |false=>
   rw[hb] at h
   simp only[cond_false] at h
   cases hp:pos r o with
   |none=>rw[hp] at h;cases h
   |some j=>
    rw[hp] at h
    simp only[Option.map_some,Option.some.injEq] at h
    subst h
    rw[List.getElem?_cons_succ]
    exact Bf hp
section
variable {F F':Nat→Prop} {β β':Nat→Option Value} {w:World} {ids:List Nat} (hβ: ∀(o k:Nat) (x:Value),ids[k]? =some o→β o=some x→β' k=some x) (hro: ∀v d,RO F w v d→RO F' w v d)
include hβ hro
theorem Rep.L8{v:Value}{d:D}(h:Rep F β w v d):Rep F' β' w v (qF ids d):=by
 cases h with
 |ro x d h=>cases d<;>simp only[Eng.qF]<;>first|exact .ro _ _ (.junk _)|exact .ro _ _ (hro _ _ h)|cases h
 |h o x h=>
  simp only[Eng.qF]
  cases hp:pos ids o with
  |none=>exact .ro _ _ (.junk _)
  |some k=>exact .h _ _ (hβ o k _ (Bf hp) h)
 |hp=>exact .ro _ _ (.junk _)
 |hr=>exact .ro _ _ (.junk _)
 |hs=>exact .ro _ _ (.junk _)
 |agg=>exact .ro _ _ (.junk _)
 |aN=>exact .ro _ _ (.junk _)
 |clo=>exact .ro _ _ (.junk _)
theorem Rep.L9{v:Value}{d:D}(h:Rep F β w v d):Rep F' β' w v (out1 ids d):=by
 cases d with
 |agg ds=>
  obtain⟨cs,rfl,hl,h1,hr⟩:=h.jM
  refine .agg _ _ jY h1 (fun i hi=> ?_)
  rw[gy _ rfl]
  exact(hr i iI).L8 hβ hro
 |clo g ds=>
  obtain⟨cs,rfl,hl,hr⟩:=h.qR
  refine .clo _ _ _ jY (fun i hi=> ?_)
  rw[gy _ rfl]
  exact(hr i iI).L8 hβ hro
 |aN ds=>exact .ro _ _ (.junk _)
 |_=>exact h.L8 hβ hro
theorem Rep.Mc{v:Value}{d:D}(h:Rep F β w v d):Rep F' β' w v (rD ids d):=by
 cases d with
 |aN ds=>
  obtain⟨cs,rfl,hl,hr⟩:=h.pz
  refine .aN _ _ jY (fun i hi=> ?_)
  rw[gy _ rfl]
  exact(hr i iI).L9 hβ hro
 |_=>exact h.L9 hβ hro
end
@[irreducible] def gI(X:Ctx)(G:Nat→Option (List D))(pin:Nat)(st:St)(d:D)(post:D→List Obj→Prop):Prop:=
 ∀β a w v,Rel X st β a w→Rep (FX X st β w) β w v d→
  ∃d' os' β',WRel X (stOf os' G pin) β' w∧Rep (FX X (stOf os' G pin) β' w) β' w v d'∧(∀o∈os',o.plain)∧post d' os'
theorem gI.mk{X:Ctx}{G:Nat→Option (List D)}{pin:Nat}{st:St}{d:D}{post:D→List Obj→Prop}(h: ∀β a w v,Rel X st β a w→Rep (FX X st β w) β w v d→
 ∃d' os' β',WRel X (stOf os' G pin) β' w∧Rep (FX X (stOf os' G pin) β' w) β' w v d'∧(∀o∈os',o.plain)∧post d' os'):gI X G pin st d post:=by unfold gI;exact h
theorem gI.use{X:Ctx}{G:Nat→Option (List D)}{pin:Nat}{st:St}{d:D}{post:D→List Obj→Prop}(h:gI X G pin st d post): ∀β a w v,Rel X st β a w→Rep (FX X st β w) β w v d→
 ∃d' os' β',WRel X (stOf os' G pin) β' w∧Rep (FX X (stOf os' G pin) β' w) β' w v d'∧(∀o∈os',o.plain)∧post d' os':=by unfold gI at h;exact h
def U2:Obj→Bool
 | .box cs=>cs.all cZ
 | .frame _ _=>false
 | .blk _ _ _ _=>false
 | .raw _ _ _=>false
 | .map _ _ _ _ _=>false
 |_=>true
def nodupB:List Nat→Bool
 |[]=>true
 |x::r=> !r.contains x&&nodupB r
theorem D7: ∀ {l:List Nat},nodupB l=true→ ∀i j x:Nat,l[i]? =some x→l[j]? =some x→i=j
 |[],_,i,j,x,h,_=>by simp at h
 |y::r,hn,i,j,x,hi,hj=>by
  simp only[nodupB,Bool.and_eq_true,Bool.not_eq_true',List.contains_eq_mem,decide_eq_false_iff_not] at hn
  cases i with
  |zero=>
   cases j with
   |zero=>rfl
   |succ j=>
    have:y=x:=by simpa using hi
    subst this
    exact absurd (List.mem_of_getElem? qP) hn.1
  |succ i=>
   cases j with
   |zero=>
    have:y=x:=by simpa using hj
    subst this
    exact absurd (List.mem_of_getElem? iI) hn.1
   |succ j=>
    have:=D7 hn.2 i j x iI qP
    omega
theorem au{X:Ctx}{G:Nat→Option (List D)}{pin:Nat}{st:St}{d:D}{post:D→List Obj→Prop}(ids:List Nat)(hg:st.g=G)(hpn:st.pin=pin)
 (hB:(nodupB ids&&ids.all (fun o=>Nat.blt o st.n&&U2 (st.obj o))&&Nat.ble st.pin ids.length&&(List.range st.pin).all (fun k=>ids[k]? ==some k))=true)
 (hp:post (rD ids d) (ids.map st.obj)):gI X G pin st d post:=by
 subst hg hpn
 simp only[Bool.and_eq_true] at hB
 obtain⟨⟨⟨h1,h2⟩,h3⟩,h4⟩:=hB
 have h3:st.pin≤ids.length:=by simpa using h3
 have hid: ∀k o:Nat,ids[k]? =some o→o<st.n∧(st.obj o).plain:=by
  intro k o hk
  have:=List.all_eq_true.1 h2 o (List.mem_of_getElem? hk)
  simp only[Bool.and_eq_true,Nat.blt_eq] at this
  refine⟨this.1,?_⟩
  cases ho:st.obj o with
  |box cs=>rw[ho] at this;exact this.2
  |frame vs e=>rw[ho] at this;cases this.2
  |blk e s cs c=>rw[ho] at this;cases this.2
  |raw e s es=>rw[ho] at this;cases this.2
  |map P k e n f=>rw[ho] at this;cases this.2
  |_=>trivial
 refine gI.mk fun β a w v hr hv=> ?_
 let β':Nat→Option Value:=fun k=>match ids[k]? with
  |some o=>β o
  |none=>none
 have iO: ∀(k:Nat) (x:Value),β' k=some x→ ∃o:Nat,ids[k]? =some o∧β o=some x:=by
  intro k x h
  simp only[β'] at h
  cases hk:ids[k]? with
  |none=>rw[hk] at h;cases h
  |some o=>rw[hk] at h;exact⟨o,rfl,h⟩
 have nP: ∀(o k:Nat) (x:Value),ids[k]? =some o→β o=some x→β' k=some x:=by
  intro o k x hk h
  simp only[β',hk]
  exact h
 have hob: ∀k:Nat,(stOf (ids.map st.obj) st.g st.pin).obj k=match ids[k]? with|some o=>st.obj o|none=> .dead:=by
  intro k
  simp only[stOf,St.obj,List.getD_eq_getElem?_getD,List.getElem?_map]
  cases ids[k]? <;>rfl
 have hn:(stOf (ids.map st.obj) st.g st.pin).n=ids.length:=by simp[stOf,St.n]
 have hF: ∀b,FX X st β w b→FX X (stOf (ids.map st.obj) st.g st.pin) β' w b∧w.heap[b]? =w.heap[b]? :=by
  intro b hb
  refine⟨⟨hb.1,hb.2.1,fun k _ _ x hx=> ?_⟩,rfl⟩
  obtain⟨o,_,ho⟩:=iO k x hx
  exact hb.2.2 o (hr.dom o x ho).1 (hr.dom o x ho).2 x ho
 refine⟨rD ids d,ids.map st.obj,β',⟨fun k x hx=> ?_,fun k hk hl=> ?_,fun k k' x x' b hx hx' hb hb'=> ?_,fun k x b hx hb=> ?_,hr.kept,fun g cs hg=>(hr.glob g cs hg).mono hF,fun k hk=> ?_,by rw[hn];exact h3⟩,hv.Mc nP (fun v d h=>h.mono hF),fun o ho=> ?_,hp⟩
 ·obtain⟨o,hk,ho⟩:=iO k x hx
  rw[hn,hob,hk]
  exact⟨(List.getElem?_eq_some_iff.1 hk).1,(hr.dom o x ho).2⟩
 ·rw[hn] at hk
  have hk':ids[k]? =some ids[k]:=List.getElem?_eq_getElem hk
  rw[hob,hk'] at hl⊢
  obtain⟨x,hx,hw⟩:=hr.own _ (hid k _ hk').1 hl
  exact⟨x,nP _ k x hk' hx,Own.rE hF (hid k _ hk').2 (fun _ _=>rfl) hw⟩
 ·obtain⟨o,hk,ho⟩:=iO k x hx
  obtain⟨o',hk',ho'⟩:=iO k' x' hx'
  have:=hr.sep o o' x x' b ho ho' hb hb'
  subst this
  exact D7 h1 k k' o hk hk'
 ·obtain⟨o,hk,ho⟩:=iO k x hx
  exact hr.low o x b ho hb
 ·have hk':k<st.pin:=hk
  have:=List.all_eq_true.1 h4 k (List.mem_range.2 hk')
  have hkk:ids[k]? =some k:=by simpa using this
  simp only[β',hkk]
  exact hr.stay k hk'
 ·obtain⟨i,hi,rfl⟩:=List.mem_map.1 ho
  obtain⟨k,hk⟩:=List.mem_iff_getElem?.1 hi
  exact(hid k i hk).2
def En(P:Program)(st:St):List ResultVar→(List D→Prop)→Prop
 |[],K=>K []
 | .tmp t::r,K=>force (look st.env t) fun d=>En P st r fun l=>K (d::l)
 | .cell a t::r,K=>Ei P st t (look st.env a) fun d=>force d fun d=>En P st r fun l=>K (d::l)
def resD(P:Program)(st:St)(rs:List ResultVar)(K:D→Prop):Prop:=
 En P st rs fun l=>match l with
  |[d]=>K d
  |l=>K (.aN l)
def resV(tmps:Array Value):ResultVar→Sem Value
 | .tmp t=>Pure.pure (tmps.getD t undef)
 | .cell b t=>do loadVar t (←asAddr (tmps.getD b undef))
theorem agm(fn:Func)(tmps:Array Value):results fn tmps=(do
 let vs←fn.results.mapM (resV tmps)
 Pure.pure (if h:vs.size=1 then vs[0] else .tuple vs)):=by
 unfold results
 congr 2
theorem MV{X:Ctx}{st:St} : ∀ {rs:List ResultVar} {K:List D→Prop},En X.P st rs K→
 ∃ds,K ds∧ds.length=rs.length∧ ∀β a w,Rel X st β a w→ ∃vs:List Value,vs.length=ds.length∧(∀i,i<ds.length→Rep (FX X st β w) β w (vs.getD i undef) (ds.getD i .junk))∧
  (rs.mapM (resV a.tmps)).run X.P w= .ok vs w
 |[],K,h=>⟨[],h,rfl,fun β a w _=>⟨[],rfl,fun i hi=>by simp at hi,by simp⟩⟩
 | .tmp t::r,K,h=>by
   obtain⟨ds,hk,hl,hr⟩:=MV (rs:=r) (oN h)
   refine⟨_,hk,by simp[hl],fun β a w hrel=> ?_⟩
   obtain⟨vs,hvl,hrep,hrun⟩:=hr β a w hrel
   refine⟨a.tmps.getD t undef::vs,by simp[hvl],fun i hi=> ?_,?_⟩
   ·cases i with
    |zero=>exact hrel.tmps t
    |succ i=>exact hrep i iI
   ·simp only[List.mapM_cons,resV,Sem.run_bind,Sem.run_pure,Result.andThen_ok,hrun]
 | .cell b t::r,K,h=>by
   have h2:Ei X.P st t (st.ev (.tmp b)) fun d=>force d fun d=>En X.P st r fun l=>K (d::l):=h
   obtain⟨d,hd,hload⟩:=U6 h2
   obtain⟨ds,hk,hl,hr⟩:=MV (rs:=r) (oN hd)
   refine⟨_,hk,by simp[hl],fun β a w hrel=> ?_⟩
   obtain⟨vs,hvl,hrep,hrun⟩:=hr β a w hrel
   obtain⟨v,hv,ad6⟩:=hload β a w hrel
   refine⟨v::vs,by simp[hvl],fun i hi=> ?_,?_⟩
   ·cases i with
    |zero=>exact ad6
    |succ i=>exact hrep i iI
   ·have hv2:(do loadVar t (←asAddr (a.tmps.getD b undef)):Sem Value).run X.P w= .ok v w:=by
     simp only[Act.eval,Instr.loadAt,Sem.run_bind] at hv⊢
     generalize a.tmps.getD b undef=p at hv⊢
     cases p<;>simp only[Instr.sureAddr,asAddr,run_stuck,Result.andThen_halt] at hv⊢ <;>try(cases hv;done)
     rename_i q
     cases q<;>simp only[Instr.sureAddr,asAddr,run_stuck,Result.andThen_halt] at hv⊢ <;>first|(cases hv;done)|exact hv
    simp only[List.mapM_cons,resV,Sem.run_bind,Sem.run_pure] at hv2⊢
    rw[hv2]
    simp only[Result.andThen_ok,hrun]
def Og(X:Ctx)(G:Nat→Option (List D))(pin:Nat)(rs:List ResultVar)(post:D→List Obj→Prop):DExit→St→Prop
 | .normal,st=>resD X.P st rs fun d=>gI X G pin st d post
 | .ret,st=>resD X.P st rs fun d=>gI X G pin st d post
 | .exit _,_=>False
theorem callFunc_enter{P:Program}{f:FuncId}{fn:Func}(hf:P.funcs[f]? =some fn)(hb:fn.body.isNone=false)(hname:(fn.name== "runtime.NumGoroutine")=false):FnOK P f:=by
 intro args w
 simp only[callFunc,Sem.run_bind,run_program,Result.andThen_ok,hf,hname,hb,Bool.false_eq_true,if_false,Sem.run_pure]
theorem resD_out{X:Ctx}{st:St}{fn:Func}{K:D→Prop}(h:resD X.P st fn.results.toList K):
 ∃d,K d∧ ∀β a w,Rel X st β a w→ ∃v,(results fn a.tmps).run X.P w= .ok v w∧Rep (FX X st β w) β w v d:=by
 unfold resD at h
 obtain⟨ds,hk,hl,hr⟩:=MV h
 have hres: ∀(tmps:Array Value) (vs:List Value) (w:World),(fn.results.toList.mapM (resV tmps)).run X.P w= .ok vs w→
  (results fn tmps).run X.P w= .ok (if h:vs.toArray.size=1 then vs.toArray[0] else .tuple vs.toArray) w:=by
  intro tmps vs w hv
  rw[agm,Array.mapM_eq_mapM_toList,Sem.run_bind,Sem.run_map]
  rw[hv]
  rfl
 split at hk
 ·rename_i d
  refine⟨d,hk,fun β a w hrel=> ?_⟩
  obtain⟨vs,hvl,hrep,hrun⟩:=hr β a w hrel
  match vs,hvl with
  |[v],_=>
   exact⟨v,by rw[hres _ _ _ hrun];rfl,hrep 0 fB⟩
 ·rename_i l hne
  refine⟨_,hk,fun β a w hrel=> ?_⟩
  obtain⟨vs,hvl,hrep,hrun⟩:=hr β a w hrel
  have h1:vs.toArray.size≠1:=by
   intro h
   match ds,hne,hvl with
   |[d],hne,_=>exact hne d rfl
   |[],_,hvl=>simp at hvl;simp[hvl] at h
   |_::_::_,_,hvl=>simp at hvl h;omega
  exact⟨.tuple vs.toArray,by rw[hres _ _ _ hrun,dif_neg h1], .aN _ _ hvl hrep⟩
theorem aF{P:Program}{f:FuncId}{fn:Func}{c:Code}(hf:P.funcs[f]? =some fn)(hb:fn.body=some c)(hname:(fn.name== "runtime.NumGoroutine")=false)
 {G:Nat→Option (List D)}{pin:Nat}{os:List Obj}{ds:List D}{post:D→List Obj→Prop}(hlen:Nat.ble ds.length fn.ntmps=true)
 (h: ∀w0 F0 lent β0,awp ⟨P,w0,F0,lent,β0⟩ c (Og ⟨P,w0,F0,lent,β0⟩ G pin fn.results.toList post) ⟨argEnv 0 ds,fn.ntmps,os,G,pin⟩):ak P f G pin os ds post:=by
 refine⟨callFunc_enter hf (by rw[hb];rfl) hname,fun X β w vs hP hw0 hβ0 hW hl hrep=> ?_⟩
 obtain⟨P',w0,F0,lent,β0⟩:=X
 have hP:P'=P:=hP
 subst hP
 let X:Ctx:=⟨P',w0,F0,lent,β0⟩
 have hW:WRel X (stOf os G pin) β w:=hW
 have hlen:ds.length≤fn.ntmps:=by simpa using hlen
 refine calls_of_wp hf hb ?_
 have hrel:Rel X ⟨argEnv 0 ds,fn.ntmps,os,G,pin⟩ β { tmps:=vs.toArray++Array.replicate (fn.ntmps-vs.toArray.size) undef,defers:=[] } w:=by
  refine(hW.same (st':=⟨argEnv 0 ds,fn.ntmps,os,G,pin⟩) rfl rfl rfl).toRel rfl (by simp[hl];omega) (fun i=> ?_)
  have hF:FX X ⟨argEnv 0 ds,fn.ntmps,os,G,pin⟩ β w=FX X (stOf os G pin) β w:=FX.same (X:=X) rfl β w
  rw[hF]
  show Rep _ β w _ (look (argEnv 0 ds) i)
  rw[look_argEnv,if_pos (Nat.zero_le _),Nat.sub_zero]
  by_cases hi:i<ds.length
  ·have hi':i<vs.length:=by omega
   have e:(vs.toArray++Array.replicate (fn.ntmps-vs.toArray.size) undef).getD i undef=vs.getD i undef:=by
    simp[List.getD_eq_getElem?_getD,Array.getElem?_append,hi']
   show Rep _ β w ((vs.toArray++Array.replicate (fn.ntmps-vs.toArray.size) undef).getD i undef) _
   rw[e]
   exact hrep i hi
  ·have:ds.getD i .junk= .junk:=by simp[List.getD_eq_getElem?_getD,List.getElem?_eq_none (by omega:ds.length≤i)]
   rw[this]
   exact .ro _ _ (.junk _)
 have fin: ∀(st:St) (a:Act) (w':World) (β':Nat→Option Value),resD X.P st fn.results.toList (fun d=>gI X G pin st d post)→Rel X st β' a w'→
  a.defers=[]∧ ∃v,(results fn a.tmps).run X.P w'= .ok v w'∧ ∃v' d os' β',Ending.returned v= .returned v'∧WRel X (stOf os' G pin) β' w'∧Rep (FX X (stOf os' G pin) β' w') β' w' v' d∧(∀o∈os',o.plain)∧post d os':=by
  intro st a w' β' hk hr
  obtain⟨d,hd,hres⟩:=resD_out hk
  obtain⟨v,hv,hrep⟩:=hres β' a w' hr
  obtain⟨d',os',β2,g1,g2,g3,g4⟩:=gI.use hd β' a w' v hr hrep
  exact⟨hr.defers,v,hv,v,d',os',β2,rfl,g1,g2,g3,g4⟩
 refine Code.wp_mono ?_ (awp_sound X c _ _ (h w0 F0 lent β0) β _ w hrel)
 intro e a' w' hq
 cases e with
 |normal=>obtain⟨st,β',hk,hr⟩:=hq;exact fin st a' w' β' hk hr
 |ret=>obtain⟨st,β',hk,hr⟩:=hq;exact fin st a' w' β' hk hr
 |exit i=>obtain⟨st,β',hk,hr⟩:=hq;exact hk.elim
 |goto l=>exact hq.elim
 |panic c=>exact hq.elim
 |outgrown=>exact hq.elim
end Go.Eng
namespace Go.Eng
open Go Go.RowKit
theorem oQ{α β:Type}{f:α→β}(l:List α):(l.map f).length=l.length:=List.length_map ..
theorem qp{α:Type}(a b:List α):(a++b).length=a.length+b.length:=List.length_append
theorem qw{α:Type}(x:α)(l:List α):(x::l).length=l.length+1:=rfl
theorem qx{α:Type} :([]:List α).length=0:=rfl
theorem uN{α:Type}(n:Nat)(l:List α):(l.take n).length=min n l.length:=List.length_take
theorem uK{α:Type}(n:Nat)(l:List α):(l.drop n).length=l.length-n:=List.length_drop
theorem uM{α:Type}(n:Nat)(x:α):(List.replicate n x).length=n:=List.length_replicate
theorem bn.lD{n:Int}{K:Int→Prop}(h: -9223372036854775808≤n∧n≤9223372036854775807)(hk:K n):bn .i64 n K:=by
 refine bn.mk ?_
 rwa [show IntKind.i64.wrap n=n by rw[IntKind.wrap_i64];omega]
def Br(c:Bool)(A B:Prop):Prop:=(c=true→A)∧(c=false→B)
theorem Ya{c:Bool}{A B:Prop}(h:Br c A B):(c=true→A)∧(c= !true→B):=h
theorem X9{c:Bool}{A B:Prop}(h:Br c B A):(c=false→A)∧(c= !false→B):=⟨h.2,h.1⟩
theorem X8{c:Bool}{A B:Prop}(h:Br c A B):(c=true→A)∧(c=false→B):=h
theorem Br.tt{A B:Prop}(h:A):Br true A B:=⟨fun _=>h,fun h=>by cases h⟩
theorem Br.ff{A B:Prop}(h:B):Br false A B:=⟨fun h=>(by cases h),fun _=>h⟩
theorem Br.not{c:Bool}{A B:Prop}(h:Br c B A):Br (!c) A B:=⟨fun hh=>h.2 (by cases c<;>first|rfl|cases hh),fun hh=>h.1 (by cases c<;>first|rfl|cases hh)⟩
theorem Br.nt{A B:Prop}(h:B):Br (!true) A B:=Br.ff h
theorem Br.nf{A B:Prop}(h:A):Br (!false) A B:=Br.tt h
theorem Br.ae0{x y:Bool}{A B:Prop}(h:Br (!x) A B):Br (!(bif true then x else y)) A B:=h
theorem Br.aeZ{x y:Bool}{A B:Prop}(h:Br (!y) A B):Br (!(bif false then x else y)) A B:=h
theorem Br.acd{x y:Bool}{A B:Prop}(h:Br x A B):Br (bif true then x else y) A B:=h
theorem Br.ab9{x y:Bool}{A B:Prop}(h:Br y A B):Br (bif false then x else y) A B:=h
theorem Br.lt{a b:Int}{A B:Prop}(h1:a<b→A)(h2:b≤a→B):Br (decide (a<b)) A B:=⟨fun h=>h1 (of_decide_eq_true h),fun h=>h2 (Int.not_lt.1 (of_decide_eq_false h))⟩
theorem Br.le{a b:Int}{A B:Prop}(h1:a≤b→A)(h2:b<a→B):Br (decide (a≤b)) A B:=⟨fun h=>h1 (of_decide_eq_true h),fun h=>h2 (Int.not_le.1 (of_decide_eq_false h))⟩
theorem Br.eqn{a b:Nat}{A B:Prop}(h1:a=b→A)(h2: ¬a=b→B):Br (decide ((a:Int)=(b:Int))) A B:=
 ⟨fun h=>h1 (Int.ofNat.inj (of_decide_eq_true h)),fun h=>h2 fun e=>of_decide_eq_false h (congrArg _ e)⟩
theorem Br.dec{p:Prop}[Decidable p]{A B:Prop}(h1:p→A)(h2: ¬p→B):Br (decide p) A B:=⟨fun h=>h1 (of_decide_eq_true h),fun h=>h2 (of_decide_eq_false h)⟩
theorem Br.beq{α:Type}[BEq α][LawfulBEq α]{a b:α}{A B:Prop}(h1:a=b→A)(h2: ¬a=b→B):Br (a==b) A B:=⟨fun h=>h1 (eq_of_beq h),fun h=>h2 fun e=>by subst e;rw[beq_self_eq_true] at h;cases h⟩
theorem Br.sym{c:Bool}{A B:Prop}(h1:c=true→A)(h2:c=false→B):Br c A B:=⟨h1,h2⟩
theorem Br.nlt{a b:Int}{A B:Prop}(h1:b≤a→A)(h2:a<b→B):Br (!decide (a<b)) A B:=Br.not (Br.lt h2 h1)
theorem Br.nle{a b:Int}{A B:Prop}(h1:b<a→A)(h2:a≤b→B):Br (!decide (a≤b)) A B:=Br.not (Br.le h2 h1)
theorem Br.ae5{a b:Nat}{A B:Prop}(h1: ¬a=b→A)(h2:a=b→B):Br (!decide ((a:Int)=(b:Int))) A B:=Br.not (Br.eqn h2 h1)
theorem Br.ae1{p:Prop}[Decidable p]{A B:Prop}(h1: ¬p→A)(h2:p→B):Br (!decide p) A B:=Br.not (Br.dec h2 h1)
theorem Br.aeY{α:Type}[BEq α][LawfulBEq α]{a b:α}{A B:Prop}(h1: ¬a=b→A)(h2:a=b→B):Br (!(a==b)) A B:=Br.not (Br.beq h2 h1)
theorem Br.afc{c:Bool}{A B:Prop}(h1:c=false→A)(h2:c=true→B):Br (!c) A B:=Br.not (Br.sym h2 h1)
theorem dD.int{n:Nat}{K:Int→Prop}(h:(n:Int)≤9223372036854775807→K n):dD n K:=dD.mk fun h1=>h (by simp only[maxLen] at h1;omega)
theorem XY{X:Ctx}{x y:Code}{Q:DExit→St→Prop}{st:St}
 (h: ∀Q':DExit→St→Prop,(∀st,awp X y Q st→Q' .normal st)→(∀i st,Q (.exit i) st→Q' (.exit i) st)→(∀st,Q .ret st→Q' .ret st)→awp X x Q' st):awp X (.seq x y) Q st:=by
 unfold awp
 exact h _ (fun _ h=>h) (fun _ _ h=>h) (fun _ h=>h)
theorem XM{X:Ctx}{id:Nat}{b:Code}{Q:DExit→St→Prop}{st:St}
 (h: ∀Q':DExit→St→Prop,(∀st,Q .normal st→Q' .normal st)→(∀i st,(bif Nat.beq i id then Q .normal st else Q (.exit i) st)→Q' (.exit i) st)→(∀st,Q .ret st→Q' .ret st)→awp X b Q' st):awp X (.block id b) Q st:=by
 unfold awp
 exact h _ (fun _ h=>h) (fun _ _ h=>h) (fun _ h=>h)
theorem XO{X:Ctx}{c:Operand}{x y:Code}{Q:DExit→St→Prop}{st:St}(h:Jm st c (awp X x Q st) (awp X y Q st)):awp X (.cond c x y) Q st:=h
theorem XU{X:Ctx}{id:Nat}{ops:Array Oper}{Q:DExit→St→Prop}{st:St}(h:lH X ops ops.toList st (Q .normal)):awp X (.region id ops false) Q st:=h
theorem XV{X:Ctx}{Q:DExit→St→Prop}{st:St}(h:Q .ret st):awp X .ret Q st:=h
theorem XZ{X:Ctx}{Q:DExit→St→Prop}{st:St}(h:Q .normal st):awp X .skip Q st:=h
theorem XR{X:Ctx}{l:Nat}{Q:DExit→St→Prop}{st:St}(h:Q .normal st):awp X (.label l) Q st:=h
theorem XQ{X:Ctx}{id:Nat}{Q:DExit→St→Prop}{st:St}(h:Q (.exit id) st):awp X (.exit id) Q st:=h
theorem XW{X:Ctx}{b:Code}{Q:DExit→St→Prop}{st:St}(h:awp X b Q st):awp X (.scope b) Q st:=h
theorem XT{X:Ctx}{b:Code}{Q:DExit→St→Prop}{st:St}(h:iP X (.loop b) Q st):awp X (.loop b) Q st:=h
theorem XP{X:Ctx}{id:Nat}{ops:Array Oper}{Q:DExit→St→Prop}{st:St}(h:jf X ops (Q .normal) st):awp X (.region id ops true) Q st:=h
theorem aJ.map{α:Type}{enc:α→List D}{l:List α}{i:Int}{K:List D→Prop}(h0:0≤i∧i<l.length)(h: ∀x,l[i.toNat]? =some x→K (enc x)):aJ (l.map enc) i K:=by
 refine aJ.mk ⟨h0.1,by simpa using h0.2,fun e he=> ?_⟩
 rw[List.getElem?_map] at he
 cases hx:l[i.toNat]? with
 |none=>rw[hx] at he;cases he
 |some x=>rw[hx] at he;cases he;exact h x hx
theorem aJ.nat{α:Type}{enc:α→List D}{l:List α}{k:Nat}{K:List D→Prop}(h0:k<l.length)(h: ∀x,l[k]? =some x→K (enc x)):aJ (l.map enc) (k:Int) K:=
 aJ.map ⟨by omega,by omega⟩ (by simpa using h)
theorem aJ.the{α:Type}{enc:α→List D}{l:List α}{k:Nat}{x:α}{K:List D→Prop}(hx:l[k]? =some x)(h:K (enc x)):aJ (l.map enc) (k:Int) K:=
 aJ.nat (List.getElem?_eq_some_iff.1 hx).1 fun y hy=>by rw[hx] at hy;cases hy;exact h
theorem iJ.nat{l:List UInt8}{k:Nat}{K:UInt8→Prop}(h0:k<l.length)(h: ∀c,l[k]? =some c→K c):iJ l (k:Int) K:=
 iJ.mk ⟨by omega,by omega,by simpa using h⟩
theorem iJ.the{l:List UInt8}{k:Nat}{c:UInt8}{K:UInt8→Prop}(hx:l[k]? =some c)(h:K c):iJ l (k:Int) K:=
 iJ.nat (List.getElem?_eq_some_iff.1 hx).1 fun y hy=>by rw[hx] at hy;cases hy;exact h
theorem iw.nn{a b n:Nat}{K:Nat→Nat→Prop}(h1:a≤b)(h2:b≤n)(h:K a b):iw (a:Int) (b:Int) n K:=iw.mk ⟨by omega,by omega,by omega,by simpa using h⟩
theorem iw.zn{b n:Nat}{K:Nat→Nat→Prop}(h2:b≤n)(h:K 0 b):iw 0 (b:Int) n K:=iw.mk ⟨by omega,by omega,by omega,by simpa using h⟩
theorem iw.at{lo hi:Int}{n:Nat}{K:Nat→Nat→Prop}(h:0≤lo∧lo≤hi∧hi≤n)(hk: ∀a b:Nat,(a:Int)=lo→(b:Int)=hi→a≤b→b≤n→K a b):iw lo hi n K:=
 iw.mk ⟨h.1,h.2.1,h.2.2,hk _ _ ah ah ah ah⟩
theorem aW.nat{n k:Nat}{K:Nat→Prop}(h0:k<n)(h:K k):aW (k:Int) n K:=aW.mk ⟨by omega,by omega,by simpa using h⟩
theorem aC{env env':List (Nat×D)}{nt:Nat}{objs jd:List Obj}{g:Nat→Option (List D)}{pin:Nat}(hm:Nat.ble jd.length objs.length=true)(hp:Nat.ble pin jd.length=true)
 (ho:jd=(objs.take jd.length).map (lF (Nat.ble jd.length)))(he:zM jd.length env env'):Weak ⟨env,nt,objs,g,pin⟩ ⟨env',nt,jd,g,pin⟩:=
 Weak.drop ⟨env,nt,objs,g,pin⟩ jd.length env' jd (by simpa using hm) (by simpa using hp) ho he
end Go.Eng
namespace Go.Eng
open Go Go.RowKit
theorem aQ{X:Ctx}{b:Code}{Q:DExit→St→Prop}{lU:List (Nat×D)}{nt:Nat}{lX:List Obj}{g:Nat→Option (List D)}{pin:Nat}{γ:Type}
 (E:γ→List (Nat×D))(O:γ→List Obj)(inv:γ→Prop)(μ:γ→Nat)(g0:γ)(h0:inv g0)(hw:Weak ⟨lU,nt,lX,g,pin⟩ ⟨E g0,nt,O g0,g,pin⟩)
 (round: ∀k,inv k→ ∀Q':DExit→St→Prop,(∀st',(∃k',inv k'∧μ k'<μ k∧Weak st' ⟨E k',nt,O k',g,pin⟩)→Q' .normal st')→(∀i st',Q (.exit i) st'→Q' (.exit i) st')→
   (∀st',Q .ret st'→Q' .ret st')→awp X b Q' ⟨E k,nt,O k,g,pin⟩):iP X (.loop b) Q ⟨lU,nt,lX,g,pin⟩:=
 aeI (fun k=>⟨E k,nt,O k,g,pin⟩) inv μ g0 h0 hw (fun k hk=>round k hk _ (fun _ h=>h) (fun _ _ h=>h) (fun _ h=>h))
theorem acB{P:Program}{w0:World}{F0 lent:Nat→Prop}{β0:Nat→Option Value}{ops:Array Oper}{K:St→Prop}{st:St}(hm:P.follows .mixedOrders=true)(hB:yO ops (Fz ops.toList)=true)
 (h:ny ⟨P,w0,F0,lent,β0⟩ ops (ops.toList.take (Fz ops.toList)) st fun st=>lH ⟨P,w0,F0,lent,β0⟩ ops (ops.toList.drop (Fz ops.toList)) st K):jf ⟨P,w0,F0,lent,β0⟩ ops K st:=
 Jw (X:=⟨P,w0,F0,lent,β0⟩) _ hm hB h
theorem acC{P:Program}{w0:World}{F0 lent:Nat→Prop}{β0:Nat→Option Value}{ops:Array Oper}{K:St→Prop}{st:St}(hm:P.follows .mixedOrders=true)(hB:yO ops (FB ops.toList)=true)
 (h:ny ⟨P,w0,F0,lent,β0⟩ ops (ops.toList.take (FB ops.toList)) st fun st=>lH ⟨P,w0,F0,lent,β0⟩ ops (ops.toList.drop (FB ops.toList)) st K):jf ⟨P,w0,F0,lent,β0⟩ ops K st:=
 Jw (X:=⟨P,w0,F0,lent,β0⟩) _ hm hB h
theorem dD.map{α:Type}{enc:α→List D}{l:List α}{K:Int→Prop}(h:(l.length:Int)≤9223372036854775807→K l.length):dD (l.map enc).length K:=by
 rw[List.length_map]
 exact dD.int h
theorem nG.nat{n bytes:Nat}{K:Nat→Prop}(hb:Nat.ble bytes 65536=true)(h:(n:Int)≤4294967296)(hk:K n):nG n n bytes K:=by
 have hb:bytes≤65536:=by simpa using hb
 have h2:bytes*n≤65536*4294967296:=Nat.mul_le_mul hb ah
 refine nG.mk ⟨by omega,by omega,?_,by omega,by simpa using hk⟩
 have h3:((bytes*n:Nat):Int)≤281474976710656:=by omega
 rwa [Int.natCast_mul] at h3
def fill{α:Type}(enc:α→List D)(z:List D)(a:List α)(k:Nat):List (List D):=(a.take k).map enc++List.replicate (a.length-k) z
theorem oJ{α:Type}(enc:α→List D)(z:List D)(a:List α):fill enc z a 0=List.replicate a.length z:=by simp[fill]
theorem oH{α:Type}(enc:α→List D)(z:List D)(a:List α):fill enc z a a.length=a.map enc:=by simp[fill]
theorem QY{α:Type}(enc:α→List D)(z:List D)(a:List α){k:Nat}(h:k≤a.length):(fill enc z a k).length=a.length:=by
 simp[fill]
 omega
theorem oI{α:Type}(enc:α→List D)(z:List D)(a:List α){k:Nat}{x:α}(h:a[k]? =some x):(fill enc z a k).set k (enc x)=fill enc z a (k+1):=by
 have hk:k<a.length:=by
  have h3:k<a.length∨a.length≤k:=by omega
  rcases h3 with h3|h3
  ·exact h3
  ·rw[List.getElem?_eq_none h3] at h;cases h
 have hm:((a.take k).map enc).length=k:=by simp;omega
 unfold fill
 rw[List.set_append,if_neg ah,hm,Nat.sub_self,show a.length-k=(a.length-(k+1))+1 from by omega,List.replicate_succ,List.set_cons_zero,List.take_add_one,h]
 simp
theorem aW.fill{α:Type}{enc:α→List D}{z:List D}{a:List α}{k:Nat}{K:Nat→Prop}(h:k<a.length)(hk:K k):aW (k:Int) (fill enc z a k).length K:=
 aW.nat (by rw[QY _ _ _ ah];exact h) hk
theorem ac7{α:Type}(enc:α→List D)(z:List D)(a:List α){k:Nat}(h:k<a.length):(fill enc z a k).getD k []=z:=by
 have hm:((a.take k).map enc).length=k:=by simp;omega
 unfold fill
 rw[List.getD_eq_getElem?_getD,List.getElem?_append_right ah,hm,Nat.sub_self,show a.length-k=(a.length-(k+1))+1 from by omega,List.replicate_succ]
 rfl
theorem aJ.fill{α:Type}{enc:α→List D}{z:List D}{a:List α}{k:Nat}{K:List D→Prop}(h:k<a.length)(hk:K z):aJ (fill enc z a k) (k:Int) K:=by
 refine aJ.mk ⟨by omega,by rw[QY _ _ _ ah];omega,fun e he=> ?_⟩
 have h2:=ac7 enc z a h
 rw[show((k:Int)).toNat=k from by omega] at he
 rw[List.getD_eq_getElem?_getD,he] at h2
 simp only[Option.getD_some] at h2
 rwa [h2]
end Go.Eng
namespace Go.Eng
open Go Go.RowKit
theorem WRel.bare{X:Ctx}{os:List Obj}{G:Nat→Option (List D)}{pin:Nat}{β:Nat→Option Value}{w:World}(h:WRel X (stOf os G pin) β w):Rel X (stOf os G pin) β { tmps:= #[],defers:=[] } w:=
 h.toRel rfl rfl (fun i=>by
  have e:look (stOf os G pin).env i= .junk:=rfl
  rw[e]
  exact .ro _ _ (.junk _))
theorem ku{X:Ctx}{f:FuncId}{ds:List D}{st:St}{K:D→Prop}{post:D→List Obj→Prop}(d:D)(hc:ak X.P f st.g 0 [] ds post)(hn:ds.all noH=true)
 (hd: ∀d' os,post d' os→view (stOf os st.g 0) d'=d)(hk:K d):kQ X f ds st K:=by
 refine kQ.mk hc.1 d hk fun β a w vs hr hl hrep=> ?_
 let Xc:Ctx:=⟨X.P,w,FX X st β w,fun _=>False,fun _=>none⟩
 have hF0: ∀b,FX X st β w b→FX Xc (stOf [] st.g 0) (fun _=>none) w b∧w.heap[b]? =w.heap[b]? :=fun b hb=>⟨⟨hb.1, .inl hb,fun o ho=>absurd ho lM⟩,rfl⟩
 have hW:WRel Xc (stOf [] st.g 0) (fun _=>none) w:=by
  refine⟨fun o x hx=>jX,fun o ho=>absurd ho lM,fun o o' x x' b hx=>jX,fun o x b hx=>jX,KeptL.refl _ _ _,fun g cs hg=>(hr.glob g cs hg).mono hF0,fun o ho=>absurd ho wE,Nat.zero_le _⟩
 refine(hc.2 Xc (fun _=>none) w vs rfl rfl rfl hW hl (fun i hi=> ?_)).mono ?_
 ·exact .ro _ _ (((hrep i hi).noH (List.all_eq_true.1 hn _ (getD_mem hi))).mono hF0)
 ·rintro e w' ⟨v,d',os,β',rfl,hw',hrd,hp,hpost⟩
  have hk0:=hr.kept.size
  have hkk:KeptL w.heap.size (fun _=>False) w w':=hw'.kept
  refine⟨v,rfl,⟨hkk.os,hkk.tape,hkk.output,hkk.size,fun b hb _=>hkk.block b hb (fun f=>f)⟩,?_⟩
  have hv:=G7 hw'.bare hrd
  rw[hd d' os hpost] at hv
  refine .ro _ _ (hv.mono fun b hb=>⟨⟨hb.1,?_,fun o ho hl y hy=> ?_⟩,rfl⟩)
  ·rcases hb.2 with h1|h1|h1
   ·exact h1.2.1
   ·exact .inr (.inl (Nat.le_trans hk0 h1))
   ·exact h1.elim
  ·rcases hb.2 with h1|h1|h1
   ·exact h1.2.2 o ho hl y hy
   ·intro hbb
    have:=hr.lt hy hbb
    have h1:w.heap.size≤b:=h1
    omega
   ·exact h1.elim
theorem aH{X:Ctx}{f:FuncId}{ds:List D}{st:St}{K:D→St→Prop}(h:CallS X f ds st K):CallS X f ds st K:=h
theorem aZ{X:Ctx}{f:FuncId}{ds:List D}{st:St}{K:D→Prop}(h:kQ X f ds st K):kQ X f ds st K:=h
theorem bP{X:Ctx}{G:Nat→Option (List D)}{pin:Nat}{st:St}{d:D}{post:D→List Obj→Prop}(h:gI X G pin st d post):gI X G pin st d post:=h
def yK:D→Bool
 | .agg cs=>cs.all kJ
 |d=>kJ d
theorem Rep.yK{F F':Nat→Prop}{β:Nat→Option Value}{w w':World}{v:Value}{d:D}(hd:Eng.yK d=true)(h:Rep F β w v d):RO F' w' v d:=by
 cases d with
 |agg ds=>
  obtain⟨cs,rfl,hl,h1,hr⟩:=h.jM
  refine .agg _ _ hl h1 (fun i hi=> ?_)
  have hc:=List.all_eq_true.1 hd _ (getD_mem (z:= .junk) hi)
  refine((hr i hi).cZ ?_).kJ hc
  revert hc
  cases ds.getD i .junk<;>intro hc<;>first|rfl|cases hc
 |junk=>exact(h.cZ rfl).kJ rfl
 |int=>exact(h.cZ rfl).kJ rfl
 |bool=>exact(h.cZ rfl).kJ rfl
 |str=>exact(h.cZ rfl).kJ rfl
 |v=>exact(h.cZ rfl).kJ rfl
 |sl s es=>
  cases es with
  |nil=>exact(h.cZ rfl).kJ rfl
  |cons e r=>cases hd
 |_=>cases hd
def bare:D→Bool
 | .aN ds=>ds.all yK
 |d=>yK d
theorem Rep.bare{F F':Nat→Prop}{β:Nat→Option Value}{w w':World}{v:Value}{d:D}(hd:Eng.bare d=true)(h:Rep F β w v d):RO F' w' v d:=by
 cases d with
 |aN ds=>
  obtain⟨cs,rfl,hl,hr⟩:=h.pz
  exact .aN _ _ hl (fun i hi=>(hr i hi).yK (List.all_eq_true.1 hd _ (getD_mem (z:= .junk) hi)))
 |_=>exact h.yK hd
theorem abX{X:Ctx}{f:FuncId}{ds:List D}{st:St}{K:D→Prop}{post:D→List Obj→Prop}(d:D)(hc:ak X.P f st.g 0 [] (ds.map (view st)) post)
 (hd: ∀d' os,post d' os→d'=d)(hb:bare d=true)(hk:K d):kQ X f ds st K:=by
 refine kQ.mk hc.1 d hk fun β a w vs hr hl hrep=> ?_
 let Xc:Ctx:=⟨X.P,w,FAll X w,fun _=>False,fun _=>none⟩
 have hF0: ∀b,FAll X w b→FX Xc (stOf [] st.g 0) (fun _=>none) w b∧w.heap[b]? =w.heap[b]? :=fun b hb=>⟨⟨hb.1, .inl hb,fun o ho=>absurd ho lM⟩,rfl⟩
 have hW:WRel Xc (stOf [] st.g 0) (fun _=>none) w:=by
  refine⟨fun o x hx=>jX,fun o ho=>absurd ho lM,fun o o' x x' b hx=>jX,fun o x b hx=>jX,KeptL.refl _ _ _,fun g cs hg=>(hr.glob g cs hg).mono (fun b hb=>hF0 b (yG hb)),fun o ho=>absurd ho wE,Nat.zero_le _⟩
 refine(hc.2 Xc (fun _=>none) w vs rfl rfl rfl hW pI (fun i hi=> ?_)).mono ?_
 ·have hi':i<ds.length:=by simpa using hi
  have e:(ds.map (view st)).getD i .junk=view st (ds.getD i .junk):=gy _ rfl _ _
  rw[e]
  exact .ro _ _ ((G7 hr (hrep i hi')).mono hF0)
 ·rintro e w' ⟨v,d',os,β',rfl,hw',hrd,hp,hpost⟩
  have hkk:KeptL w.heap.size (fun _=>False) w w':=hw'.kept
  obtain rfl:=hd d' os hpost
  exact⟨v,rfl,⟨hkk.os,hkk.tape,hkk.output,hkk.size,fun b hb _=>hkk.block b hb (fun f=>f)⟩, .ro _ _ (hrd.bare hb)⟩
theorem agh{f:Nat→Nat}{d:D}(h:cZ d=true):uS f d=d:=by cases d<;>first|rfl|cases h
theorem MQ{f:Nat→Nat}{d:D}(h:noH d=true):ren f d=d:=by
 have hm: ∀cs:List D,cs.all cZ=true→cs.map (uS f)=cs:=by
  intro cs hc
  induction cs with
  |nil=>rfl
  |cons c r ih=>
   simp only[List.all_cons,Bool.and_eq_true] at hc
   rw[List.map_cons,ih hc.2,agh hc.1]
 cases d with
 |agg cs=>show D.agg (cs.map (uS f))=_;rw[hm cs h]
 |clo g cs=>show D.clo g (cs.map (uS f))=_;rw[hm cs h]
 |aN cs=>cases h
 |junk=>rfl
 |int=>rfl
 |bool=>rfl
 |str=>rfl
 |v=>rfl
 |sl=>rfl
 |rp=>rfl
 |h=>cases h
 |hp=>cases h
 |hr=>cases h
 |hs=>cases h
def AX:D→Bool
 | .aN ds=>ds.all noH
 |d=>noH d
theorem MR{f:Nat→Nat}{d:D}(h:AX d=true):ren f d=d:=by
 cases d with
 |aN ds=>
  have hc:ds.all noH=true:=h
  show D.aN (ds.map (Bl f))= .aN ds
  rw[show ds.map (Bl f)=ds from by
   conv=>rhs;rw[←List.map_id ds]
   exact List.map_congr_left fun c hm=>by
    have h1:=List.all_eq_true.1 hc c hm
    have h2:=MQ (f:=f) h1
    cases c<;>first|exact h2|cases h1]
 |_=>exact MQ h
theorem join_nil(st:St):st.join []=st:=by
 cases st
 simp[St.join]
theorem aG{X:Ctx}{f:FuncId}{ds:List D}{st:St}{K:D→St→Prop}{d:D}(hc:ak X.P f st.g 0 [] ds (fun d' os=>d'=d∧os=[]))(hn:ds.all noH=true)(hd:AX d=true)
 (hk:K d st):CallS X f ds st K:=by
 refine Fb hc hn ?_
 rintro d' os ⟨rfl,rfl⟩
 rw[MR hd,join_nil]
 exact hk
theorem lS{X:Ctx}{f:FuncId}{ds:List D}{st:St}{K:D→St→Prop}{post:D→Prop}(hc:ak X.P f st.g 0 [] ds (fun d os=>post d∧os=[]))(hn:ds.all noH=true)
 (hk: ∀d,post d→AX d=true∧K d st):CallS X f ds st K:=by
 refine Fb hc hn ?_
 rintro d' os ⟨h,rfl⟩
 obtain⟨hd,hk⟩:=hk d' h
 rw[MR hd,join_nil]
 exact hk
theorem jq{X:Ctx}{f:FuncId}{ds:List D}{st:St}{K:D→St→Prop}{d:D}(hc:ak X.P f st.g 0 [] (ds.map (view st)) (fun d' os=>d'=d∧os=[]))(hd:bare d=true)
 (hk:K d st):CallS X f ds st K:=by
 refine P5 hc ?_
 have hf0: ∀c,kJ c=true→cZ c=true:=by intro c h;cases c<;>first|rfl|cases h
 have hfA: ∀d,yK d=true→FI d=true∧noH d=true:=by
  intro d hd
  cases d with
  |agg cs=>exact⟨hd,List.all_eq_true.2 fun c hc=>hf0 c (List.all_eq_true.1 hd c hc)⟩
  |junk=>exact⟨rfl,rfl⟩
  |int=>exact⟨rfl,rfl⟩
  |bool=>exact⟨rfl,rfl⟩
  |str=>exact⟨rfl,rfl⟩
  |v=>exact⟨rfl,rfl⟩
  |sl s es=>
   cases es with
   |nil=>exact⟨rfl,rfl⟩
   |cons e r=>cases hd
  |_=>cases hd
 have hf:flat d=true∧AX d=true:=by
  cases d with
  |aN ds=>exact⟨List.all_eq_true.2 fun c hc=>(hfA c (List.all_eq_true.1 hd c hc)).1,List.all_eq_true.2 fun c hc=>(hfA c (List.all_eq_true.1 hd c hc)).2⟩
  |junk=>exact hfA (.junk) hd
  |int k n=>exact hfA (.int k n) hd
  |bool b=>exact hfA (.bool b) hd
  |str l=>exact hfA (.str l) hd
  |v x=>exact hfA (.v x) hd
  |agg cs=>exact hfA (.agg cs) hd
  |sl s es=>exact hfA (.sl s es) hd
  |rp cs=>exact hfA (.rp cs) hd
  |h o=>exact hfA (.h o) hd
  |hp o k=>exact hfA (.hp o k) hd
  |hr o s i k=>exact hfA (.hr o s i k) hd
  |hs o s a b=>exact hfA (.hs o s a b) hd
  |clo f cs=>exact hfA (.clo f cs) hd
 rintro d' os ⟨rfl,rfl⟩
 rw[MR hf.2,join_nil]
 exact⟨hf.1,fun o ho=>(by cases ho),hk⟩
theorem Aa{P:Program}{w0:World}{F0 lent:Nat→Prop}{β0:Nat→Option Value}{env:List (Nat×D)}{nt:Nat}{objs:List Obj}{g:Nat→Option (List D)}{pin:Nat}{f:FuncId}{ds:List D}{K:D→St→Prop}{o:Obj}{n:Nat}
 (hc:ak P f g 0 [] ds (fun d os=>d= .h 0∧os=[o]))(hn:ds.all noH=true)(hl:objs.length=n)(hk:K (.h n) ⟨env,nt,objs++[o],g,pin⟩):CallS ⟨P,w0,F0,lent,β0⟩ f ds ⟨env,nt,objs,g,pin⟩ K:=by
 refine Fb (X:=⟨P,w0,F0,lent,β0⟩) hc hn ?_
 rintro d os ⟨rfl,rfl⟩
 subst hl
 exact hk
end Go.Eng
namespace Go.Eng
open Go Go.RowKit
def gX{α:Type}(e:α→α→Bool)(a b:List α):Bool:=decide (a.length=b.length)&&(a.zip b).all fun p=>e p.1 p.2
theorem pX{α:Type}{e:α→α→Bool}{a b:List α}(h:a.length≠b.length):gX e a b=false:=by simp[gX,h]
theorem pW{α:Type}{e:α→α→Bool}{a b:List α}{k:Nat}{x y:α}(hx:a[k]? =some x)(hy:b[k]? =some y)(h:e x y=false):gX e a b=false:=by
 have hm:(x,y)∈a.zip b:=List.mem_of_getElem? (i:=k) (by rw[List.getElem?_zip_eq_some];exact⟨hx,hy⟩)
 unfold gX
 have h2:((a.zip b).all fun p=>e p.1 p.2)=false:=by
  rw[List.all_eq_false]
  exact⟨(x,y),hm,by simp[h]⟩
 rw[h2,Bool.and_false]
theorem oC{α:Type}{e:α→α→Bool}{a b:List α}(hl:a.length=b.length)(h: ∀j x y,j<a.length→a[j]? =some x→b[j]? =some y→e x y=true):gX e a b=true:=by
 unfold gX
 rw[decide_eq_true hl,Bool.true_and,List.all_eq_true]
 intro p hp
 obtain⟨j,hj⟩:=List.getElem?_of_mem hp
 rw[List.getElem?_zip_eq_some] at hj
 have h3:j<a.length:=by
  have h3:j<a.length∨a.length≤j:=by omega
  rcases h3 with h3|h3
  ·exact h3
  ·rw[List.getElem?_eq_none h3] at hj;cases hj.1
 exact h j p.1 p.2 h3 hj.1 hj.2
def mM{α:Type}(e:α→α→Bool)(a b:List α)(k:Nat):Prop:= ∀j x y,j<k→a[j]? =some x→b[j]? =some y→e x y=true
theorem qc{α:Type}{e:α→α→Bool}{a b:List α} :mM e a b 0:=fun j _ _ h=>absurd h ah
theorem pY{α:Type}{e:α→α→Bool}{a b:List α}{k:Nat}{x y:α}(h:mM e a b k)(hx:a[k]? =some x)(hy:b[k]? =some y)(he:e x y=true):mM e a b (k+1):=by
 intro j x' y' hj hx' hy'
 have h2:j<k∨j=k:=by omega
 rcases h2 with h2|rfl
 ·exact h j x' y' h2 hx' hy'
 ·rw[hx] at hx';rw[hy] at hy';cases hx';cases hy';exact he
theorem oD{α:Type}{e:α→α→Bool}(he: ∀x,e x x=true)(a:List α):gX e a a=true:=
 oC rfl fun j x y _ hx hy=>by rw[hx] at hy;cases hy;exact he x
def fJ{α:Type}(f:α→Nat)(a:List α)(k:Nat):Nat:=a.length+((a.take k).map f).sum
def dG{α:Type}(f:α→Nat)(a:List α):Nat:=fJ f a a.length
theorem wz{α:Type}(f:α→Nat)(a:List α):fJ f a 0=a.length:=by simp[fJ]
theorem lK{α:Type}{f:α→Nat}{a:List α}{k:Nat}{x:α}(h:a[k]? =some x):fJ f a (k+1)=fJ f a k+f x:=by
 unfold fJ
 rw[List.take_add_one,h]
 simp[Nat.add_assoc]
theorem wu{α:Type}(f:α→Nat){a:List α}{k:Nat}(h:k≤a.length):fJ f a k≤dG f a:=by
 unfold dG fJ
 have h1:a=a.take k++a.drop k:=(List.take_append_drop k a).symm
 have h2:(a.map f).sum=((a.take k).map f).sum+((a.drop k).map f).sum:=by
  conv=>lhs;rw[h1]
  rw[List.map_append,List.sum_append]
 rw[List.take_length,h2]
 omega
theorem rO{α:Type}(f:α→Nat)(a:List α):a.length≤dG f a:=by unfold dG fJ;omega
theorem wo{α:Type}(f:α→Nat)(a:List α):dG f a=fJ f a a.length:=rfl
def nT{α:Type}(_:α):Nat:=0
theorem NH{α:Type}(a:List α):dG nT a=a.length:=by
 have h: ∀l:List α,(l.map nT).sum=0:=by
  intro l
  induction l with
  |nil=>rfl
  |cons x r ih=>simp[nT,ih]
 unfold dG fJ
 rw[h,Nat.add_zero]
def encI(n:Int):List D:=[.int .i64 n]
def encS(l:List UInt8):List D:=[.str l]
def bF{α:Type}(f:α→Int→α)(s:Nat)(q:Int)(a:List α)(k:Nat):List α:=(a.take k).mapIdx (fun j x=>f x (q+s*j))++a.drop k
def jk{α:Type}(f:α→Int→α)(s:Nat)(q:Int)(a:List α):List α:=bF f s q a a.length
theorem qB{α:Type}(f:α→Int→α)(s:Nat)(q:Int)(a:List α):bF f s q a 0=a:=by simp[bF]
theorem mY{α:Type}(f:α→Int→α)(s:Nat)(q:Int)(a:List α)(k:Nat):(bF f s q a k).length=a.length:=by
 simp[bF]
 omega
theorem aeV{α:Type}(f:α→Int→α)(s:Nat)(q:Int)(a:List α):(jk f s q a).length=a.length:=mY ..
theorem aeW{α:Type}{f:α→Int→α}{s:Nat}{q:Int}{a:List α}{k:Nat}{x:α}(h:a[k]? =some x):(bF f s q a k)[k]? =some x:=by
 have hk:k<a.length:=(List.getElem?_eq_some_iff.1 h).1
 unfold bF
 rw[List.getElem?_append_right nX]
 simp[Nat.min_eq_left (Nat.le_of_lt hk),h]
theorem qA{α:Type}{f:α→Int→α}{s:Nat}{q:Int}{a:List α}{k:Nat}{x:α}(h:a[k]? =some x):(bF f s q a k).set k (f x (q+s*k))=bF f s q a (k+1):=by
 have hk:k<a.length:=(List.getElem?_eq_some_iff.1 h).1
 apply List.ext_getElem?
 intro i
 have hl1:((a.take k).mapIdx (fun j x=>f x (q+s*j))).length=k:=by simp;omega
 have hl2:((a.take (k+1)).mapIdx (fun j x=>f x (q+s*j))).length=k+1:=by simp;omega
 rw[List.getElem?_set]
 by_cases hik:k=i
 ·subst hik
  rw[if_pos rfl,if_pos (by rw[mY];exact hk)]
  unfold bF
  rw[List.getElem?_append_left ah]
  simp[List.getElem?_mapIdx,h]
 ·rw[if_neg hik]
  unfold bF
  by_cases hi:i<k
  ·rw[List.getElem?_append_left ah,List.getElem?_append_left ah]
   simp[List.getElem?_mapIdx,List.getElem?_take,hi,show i<k+1 from by omega]
  ·rw[List.getElem?_append_right ah,List.getElem?_append_right ah,hl1,hl2]
   simp only[List.getElem?_drop]
   congr 1
   omega
theorem aeU{α:Type}{f:α→Int→α}{s:Nat}{q:Int}{a:List α}{k:Nat}{x:α}(h:(jk f s q a)[k]? =some x): ∃y,a[k]? =some y∧x=f y (q+s*k):=by
 unfold jk bF at h
 rw[List.take_length,List.drop_length,List.append_nil,List.getElem?_mapIdx] at h
 cases hy:a[k]? with
 |none=>rw[hy] at h;cases h
 |some y=>rw[hy] at h;exact⟨y,rfl,(Option.some.inj h).symm⟩
def bG(a b:Int):Bool:=a==b
def eqStr(a b:List UInt8):Bool:=a==b
theorem acH(x:Int):bG x x=true:=by simp[bG]
theorem QT(x:List UInt8):eqStr x x=true:=by simp[eqStr]
def gW(a b:Bool):Bool:=a==b
theorem dD.bF{α:Type}{enc:α→List D}{f:α→Int→α}{s:Nat}{q:Int}{a:List α}{k:Nat}{K:Int→Prop}(h:(a.length:Int)≤9223372036854775807→K a.length):dD ((bF f s q a k).map enc).length K:=by
 rw[List.length_map,mY]
 exact dD.int h
theorem dD.jk{α:Type}{enc:α→List D}{f:α→Int→α}{s:Nat}{q:Int}{a:List α}{K:Int→Prop}(h:(a.length:Int)≤9223372036854775807→K a.length):dD ((jk f s q a).map enc).length K:=dD.bF h
theorem aW.bF{α:Type}{enc:α→List D}{f:α→Int→α}{s:Nat}{q:Int}{a:List α}{k i:Nat}{K:Nat→Prop}(h:i<a.length)(hk:K i):aW (i:Int) ((bF f s q a k).map enc).length K:=by
 rw[List.length_map,mY]
 exact aW.nat h hk
theorem aW.set{α:Type}{l:List α}{j:Nat}{x:α}{i:Int}{K:Nat→Prop}(h:aW i l.length K):aW i (l.set j x).length K:=by
 rw[List.length_set]
 exact h
theorem aJ.bF{α:Type}{enc:α→List D}{f:α→Int→α}{s:Nat}{q:Int}{a:List α}{k:Nat}{K:List D→Prop}(h:k<a.length)(hk: ∀x,a[k]? =some x→K (enc x)):aJ ((bF f s q a k).map enc) (k:Int) K:=by
 refine aJ.nat (by rw[mY];exact h) fun x hx=>hk x ?_
 have h2:a[k]? =some a[k]:=List.getElem?_eq_getElem h
 rw[aeW h2] at hx
 rw[h2,hx]
theorem aJ.set{l:List (List D)}{k:Nat}{c:List D}{K:List D→Prop}(h:k<l.length)(hk:K c):aJ (l.set k c) (k:Int) K:=by
 refine aJ.mk ⟨by omega,by rw[List.length_set];omega,fun e he=> ?_⟩
 have h2:(l.set k c)[((k:Int)).toNat]? =some c:=by simp[List.getElem?_set,h]
 rw[h2] at he
 cases he
 exact hk
theorem aJ.jk{α:Type}{enc:α→List D}{f:α→Int→α}{s:Nat}{q:Int}{a:List α}{k:Nat}{K:List D→Prop}(h:k<a.length)(hk: ∀y,a[k]? =some y→K (enc (f y (q+s*k)))):aJ ((jk f s q a).map enc) (k:Int) K:=by
 refine aJ.nat (by rw[aeV];exact h) fun x hx=> ?_
 obtain⟨y,hy,rfl⟩:=aeU hx
 exact hk y hy
def jr:Nat→Nat→List UInt8→List UInt8
 |0,_,l=>l
 |f+1,n,l=>if n=0 then l else jr f (n/10) (UInt8.ofNat (48+n % 10)::l)
def kN(k:Int):List UInt8:=if k≤0 then [109,48] else 109::jr 20 k.toNat []
theorem bn.to{k:IntKind}{n:Int}{K:Int→Prop}(m:Int)(h:n=m)(hk:k.wrap m=m)(hK:K m):bn k n K:=by
 subst h
 refine bn.mk ?_
 rwa [hk]
theorem wrap64{m:Int}(h: -9223372036854775808≤m∧m≤9223372036854775807):IntKind.i64.wrap m=m:=by
 rw[IntKind.wrap_i64]
 omega
theorem Hg{m:Int}(h:0≤m∧m<256):IntKind.u8.wrap m=m:=by
 rw[IntKind.wrap_u8]
 omega
theorem nG.lit(n:Nat){bytes:Nat}{l c:Int}{K:Nat→Prop}(hl:l=(n:Int))(hc:c=(n:Int))(hb:Nat.ble bytes 65536=true)(h:Nat.ble n 4294967296=true)(hk:K n):nG l c bytes K:=by
 subst hl hc
 exact nG.nat hb (by have:n≤4294967296:=by simpa using h
                     omega) hk
theorem aW.lit(k:Nat){i:Int}{n:Nat}{K:Nat→Prop}(hi:i=(k:Int))(h:Nat.blt k n=true)(hk:K k):aW i n K:=by
 subst hi
 exact aW.nat (by simpa[Nat.blt_eq] using h) hk
theorem aJ.lit(k:Nat){i:Int}{l:List (List D)}{c:List D}{K:List D→Prop}(hi:i=(k:Int))(h:l[k]? =some c)(hk:K c):aJ l i K:=by
 subst hi
 exact aJ.mk ⟨by omega,by have:=(List.getElem?_eq_some_iff.1 h).1;omega,fun e he=>by rw[show((k:Int)).toNat=k from by omega,h] at he;cases he;exact hk⟩
end Go.Eng
namespace Go.Eng
open Go Go.RowKit
theorem one1{v:Value}(h:v.oneCell'=true): ∀u∈[v],u.oneCell'=true:=by
 intro u hu
 cases hu with
 |head=>exact h
 |tail _ h=>cases h
def Opens{α:Type}(P:Program)(t:TypeId)(enc:α→List D)(ok:α→Prop):Prop:=
 ∀ {H:Type} (e:TypeId×Value→H) (w:World) (fuel:Nat) (cs:List Value) (d:DataW H×List MemPlace),DataW.trod e P w 0 (fun _=>true) true fuel t cs=some d→
  ∃x:α,ok x∧cs.length=(enc x).length∧(∀u∈cs,u.oneCell'=true)∧ ∀i,i<cs.length→RO (fun b=>b<w.heap.size) w (cs.getD i undef) ((enc x).getD i .junk)
section
variable {P:Program} {t:TypeId}
theorem Opens.int{k:IntKind}(ht:P.underlying t=some (.int k)):Opens P t (fun n:Int=>[.int k n]) (fun n=>(Lit.int k n).wf=true):=by
 intro H e w fuel cs d h
 obtain⟨n,rfl,_,hw⟩:=DataW.trod_int ht h
 refine⟨n,hw,rfl,one1 rfl,fun i hi=> ?_⟩
 have:i=0:=by simpa using hi
 subst this
 exact .int _ _
theorem Opens.bool(ht:P.underlying t=some .bool):Opens P t (fun b:Bool=>[.bool b]) (fun _=>True):=by
 intro H e w fuel cs d h
 obtain⟨n,rfl,_⟩:=DataW.trod_bool ht h
 refine⟨n,trivial,rfl,one1 rfl,fun i hi=> ?_⟩
 have:i=0:=by simpa using hi
 subst this
 exact .bool _
theorem Opens.string(ht:P.underlying t=some .string):Opens P t (fun l:List UInt8=>[.str l]) (fun l=>l.length≤maxLen):=by
 intro H e w fuel cs d h
 obtain⟨s,rfl,_,hs⟩:=DataW.trod_string ht h
 have hl:s.data.toList.length=s.size:=Array.length_toList
 refine⟨s.data.toList,by omega,rfl,one1 rfl,fun i hi=> ?_⟩
 have:i=0:=by simpa using hi
 subst this
 have h2:=RO.str (F:=fun b=>b<w.heap.size) (w:=w) s.data.toList ah
 simpa using h2
theorem Opens.slice{α:Type}{u:TypeId}{enc:α→List D}{ok:α→Prop}(s:Nat)(ht:P.underlying t=some (.slice u))(hs:P.cellsOf u=s)(h0:0<s)(hu:Opens P u enc ok):
 Opens P t (fun l:List α=>[.sl s (l.map enc)]) (fun l=> ∀x∈l,ok x):=by
 subst hs
 intro H e w fuel cs d h
 rcases DataW.trod_slice ht h with⟨rfl,_⟩|⟨a,len,cap,elems,rest,n,_,rfl,_,_,hl,hm,hlen,hel,_,_⟩
 ·refine⟨[],by simp,rfl,one1 rfl,fun i hi=> ?_⟩
  have:i=0:=by simpa using hi
  subst this
  exact .slnil _ _ _
 ·have each: ∀i:Fin len, ∃x:α,ok x∧(enc x).length=P.cellsOf u∧ ∃c:Nat→Value,(∀j,j<P.cellsOf u→w.cell? ((a.add (i*P.cellsOf u)).add j)=some (c j)∧(c j).oneCell'=true∧RO (fun b=>b<w.heap.size) w (c j) ((enc x).getD j .junk)):=by
   intro i
   have hi:elems[i.1]? =some (elems[i.1]'(by rw[hlen];exact i.2)):=List.getElem?_eq_getElem _
   have hb:=hel i.1 i.2
   rw[hi,Option.bind_eq_some_iff] at hb
   obtain⟨cs',hcs,hy⟩:=hb
   obtain⟨_,hcl,hcell⟩:=World.cells?_some hcs
   obtain⟨x,hok,hxl,h1,hr⟩:=hu e w n cs' _ hy
   refine⟨x,hok,by omega,fun j=>cs'.getD j undef,fun j hj=> ?_⟩
   have hj':j<cs'.length:=by omega
   have hg:cs'[j]? =some (cs'.getD j undef):=by simp[List.getD_eq_getElem?_getD,hj']
   refine⟨by rw[hcell j hj];exact hg,h1 _ (getD_mem hj'),hr j hj'⟩
  cases hz:len with
  |zero=>
   subst hz
   refine⟨[],by simp,rfl,one1 rfl,fun i hi=> ?_⟩
   have:i=0:=by simpa using hi
   subst this
   exact .slnil _ _ _
  |succ m=>
   obtain⟨x,hx1⟩:=Classical.skolem.1 each
   have hok:=fun i=>(hx1 i).1
   have hxl:=fun i=>(hx1 i).2.1
   obtain⟨c,hc⟩:=Classical.skolem.1 (fun i=>(hx1 i).2.2)
   have hx: ∀i (hi:i<len),(List.ofFn x)[i]? =some (x ⟨i,hi⟩):=by intro i hi;simp[hi]
   have hxe: ∀i (hi:i<len),((List.ofFn x).map enc).getD i []=enc (x ⟨i,hi⟩):=by intro i hi;simp[List.getD_eq_getElem?_getD,hi]
   obtain⟨b,off,spot⟩:=a
   have h00:=(hc ⟨0,by omega⟩ 0 h0).1
   rw[Nat.zero_mul,show((⟨b,off,spot⟩:Addr).add 0).add 0=⟨b,off,spot⟩ from rfl] at h00
   obtain rfl:spot=none:=World.cell?_spot h00
   have hlt:b<w.heap.size:=World.block_lt_of_cell? w _ h00
   refine⟨List.ofFn x,fun y hy=> ?_,rfl,one1 rfl,fun i hi=> ?_⟩
   ·obtain⟨i,rfl⟩:=(List.mem_ofFn).1 hy
    exact hok i
   ·have:i=0:=by simpa using hi
    subst this
    have hlen2:((List.ofFn x).map enc).length=len:=by simp
    refine .sl (P.cellsOf u) ((List.ofFn x).map enc) b off (m+1) cap (fun i j=>if hi:i<len then c ⟨i,hi⟩ j else undef) (by rw[hlen2,hz]) hlt ah hm (fun i hi=> ?_) (fun i j hi hj=> ?_) (fun i j hi hj=> ?_)
    ·rw[hlen2] at hi
     rw[hxe i hi]
     exact hxl _
    ·rw[hlen2] at hi
     rw[dif_pos hi]
     obtain⟨g1,g2,_⟩:=hc ⟨i,hi⟩ j hj
     rw[add_lit,add_lit] at g1
     exact⟨g1,g2⟩
    ·rw[hlen2] at hi
     rw[dif_pos hi,hxe i hi]
     exact(hc ⟨i,hi⟩ j hj).2.2
def bf{α:Type}(P:Program)(fs:List Field)(off:Nat)(enc:α→List D)(ok:α→Prop):Prop:=
 ∀ {H:Type} (e:TypeId×Value→H) (w:World) (n:Nat) (cs:List Value),(∀f∈fs, ∃d,DataW.trod e P w 0 (fun _=>true) true n f.type ((cs.drop f.offset).take (P.cellsOf f.type))=some d)→
  ∃x:α,ok x∧(∀i,i<(enc x).length→off+i<cs.length∧(cs.getD (off+i) undef).oneCell'=true∧RO (fun b=>b<w.heap.size) w (cs.getD (off+i) undef) ((enc x).getD i .junk))
theorem bf.nil{off:Nat} :bf P [] off (fun _:Unit=>[]) (fun _=>True):=fun e w n cs _=>⟨(),trivial,fun i hi=>absurd hi fB⟩
theorem bf.cons{α β:Type}{f:Field}{fs:List Field}{off k:Nat}{enc:α→List D}{ok:α→Prop}{enc':β→List D}{ok':β→Prop}(hf:f.offset=off)(hk: ∀x,(enc x).length=k)(h:Opens P f.type enc ok)(hs:bf P fs (off+k) enc' ok'):
 bf P (f::fs) off (fun x:α×β=>enc x.1++enc' x.2) (fun x=>ok x.1∧ok' x.2):=by
 intro H e w n cs hh
 obtain⟨d,hd⟩:=hh f (List.mem_cons_self ..)
 obtain⟨x,hok,hxl,h1,hr⟩:=h e w n _ _ hd
 obtain⟨y,hok',hy⟩:=hs e w n cs (fun g hg=>hh g (List.mem_cons_of_mem _ hg))
 refine⟨(x,y),⟨hok,hok'⟩,fun i hi=> ?_⟩
 have hkx:=hk x
 by_cases hik:i<k
 ·have hlen:((cs.drop f.offset).take (P.cellsOf f.type)).length=k:=by omega
  have hil:i<((cs.drop f.offset).take (P.cellsOf f.type)).length:=by omega
  have hgo:((cs.drop f.offset).take (P.cellsOf f.type)).getD i undef=cs.getD (off+i) undef:=by
   simp only[List.length_take,List.length_drop] at hil
   simp only[List.getD_eq_getElem?_getD,List.getElem?_take,List.getElem?_drop,hf]
   rw[if_pos ah]
  have h1':=h1 _ (getD_mem (z:=undef) hil)
  have hr':=hr i hil
  rw[hgo] at h1' hr'
  refine⟨?_,h1',?_⟩
  rotate_left
  ·show RO _ w _ ((enc x++enc' y).getD i .junk)
   rw[List.getD_eq_getElem?_getD (l:=enc x++enc' y),List.getElem?_append_left ah,←List.getD_eq_getElem?_getD]
   exact hr'
  ·simp only[List.length_take,List.length_drop] at hil
   omega
 ·have hi2:i-k<(enc' y).length:=by
   simp only[List.length_append] at hi
   omega
  obtain⟨g1,g2,g3⟩:=hy (i-k) hi2
  have e1:off+k+(i-k)=off+i:=by omega
  rw[e1] at g1 g2 g3
  refine⟨g1,g2,?_⟩
  show RO _ w _ ((enc x++enc' y).getD i .junk)
  rw[List.getD_eq_getElem?_getD (l:=enc x++enc' y),List.getElem?_append_right ah,hkx,←List.getD_eq_getElem?_getD]
  exact g3
theorem Opens.struct{α:Type}{fs:Array Field}{enc:α→List D}{ok:α→Prop}(k:Nat)(ht:P.underlying t=some (.struct fs))(hk:P.cellsOf t=k)(he: ∀x,(enc x).length=k)(h:bf P fs.toList 0 enc ok):Opens P t enc ok:=by
 subst hk
 intro H e w fuel cs d hd
 obtain⟨xs,n,_,_,hcl,hxl,hf⟩:=DataW.trod_struct ht hd
 obtain⟨x,hok,hx⟩:=h e w n cs (fun f hf'=>by
  obtain⟨i,hi⟩:=List.getElem?_of_mem hf'
  rw[Array.getElem?_toList] at hi
  have hi2:i<xs.length:=by
   rw[hxl]
   exact(Array.getElem?_eq_some_iff.1 hi).1
  exact⟨_,(hf i f hi).trans (List.getElem?_eq_getElem hi2)⟩)
 have hex:=he x
 refine⟨x,hok,by omega,fun u hu=> ?_,fun i hi=> ?_⟩
 ·obtain⟨i,hi⟩:=List.getElem?_of_mem hu
  have hi2:i<cs.length:=(List.getElem?_eq_some_iff.1 hi).1
  have:=(hx i ah).2.1
  rw[Nat.zero_add,List.getD_eq_getElem?_getD,hi] at this
  exact this
 ·have:=(hx i ah).2.2
  rwa [Nat.zero_add] at this
theorem Opens.turn{α β:Type}{enc:α→List D}{ok:α→Prop}{enc':β→List D}{ok':β→Prop}(g:α→β)(he: ∀x,enc' (g x)=enc x)(hk: ∀x,ok x→ok' (g x))(h:Opens P t enc ok):Opens P t enc' ok':=by
 intro H e w fuel cs d hd
 obtain⟨x,h1,h2,h3,h4⟩:=h e w fuel cs d hd
 exact⟨g x,hk x h1,by rw[he];exact h2,h3,by rw[he];exact h4⟩
theorem Opens.one{α:Type}{enc:α→D}{ok:α→Prop}(h:Opens P t (fun x=>[enc x]) ok){H:Type}{e:TypeId×Value→H}{w:World}{v:Value}{d:DataW H}{ps:List MemPlace}(hv:v.cells.toList=[v])
 (hd:DataW.Trod e P w 0 (fun _=>true) true t v d ps): ∃x,ok x∧RO (fun b=>b<w.heap.size) w v (enc x):=by
 obtain⟨fuel,hd⟩:=hd
 obtain⟨x,h1,_,_,h4⟩:=h e w fuel _ _ hd
 rw[hv] at h4
 exact⟨x,h1,h4 0 fB⟩
theorem Opens.many{α:Type}{enc:α→List D}{ok:α→Prop}(h:Opens P t enc ok){H:Type}{e:TypeId×Value→H}{w:World}{cs:Array Value}{d:DataW H}{ps:List MemPlace}
 (hd:DataW.Trod e P w 0 (fun _=>true) true t (.agg cs) d ps): ∃x,ok x∧RO (fun b=>b<w.heap.size) w (.agg cs) (.agg (enc x)):=by
 obtain⟨fuel,hd⟩:=hd
 obtain⟨x,h1,h2,h3,h4⟩:=h e w fuel _ _ hd
 refine⟨x,h1,?_⟩
 have:=RO.agg (F:=fun b=>b<w.heap.size) (w:=w) cs.toList (enc x) h2 h3 (fun i hi=>h4 i (by rw[h2];exact hi))
 simpa using this
end
def G0:Nat→Option (List D):=fun _=>none
theorem ak.done{P:Program}{f:FuncId}{ds:List D}{d:D}(h:ak P f G0 0 [] ds (fun d' os=>d'=d∧os=[])){w:World}{vs:List Value}(hl:vs.length=ds.length)
 (hr: ∀i,i<ds.length→RO (fun b=>b<w.heap.size) w (vs.getD i undef) (ds.getD i .junk)):
 Calls P f vs.toArray w fun e w'=> ∃v,e= .returned v∧Below w.heap.size w w'∧Rep (fun b=>b<w'.heap.size) (fun _=>none) w' v d:=by
 let X:Ctx:=⟨P,w,fun b=>b<w.heap.size,fun _=>False,fun _=>none⟩
 have hF0: ∀b,b<w.heap.size→FX X (stOf [] G0 0) (fun _=>none) w b∧w.heap[b]? =w.heap[b]? :=fun b hb=>⟨⟨hb, .inl hb,fun o ho=>absurd ho lM⟩,rfl⟩
 have hW:WRel X (stOf [] G0 0) (fun _=>none) w:=by
  refine⟨fun o x hx=>jX,fun o ho=>absurd ho lM,fun o o' x x' b hx=>jX,fun o x b hx=>jX,KeptL.refl _ _ _,fun g cs hg=>(by cases hg),fun o ho=>absurd ho wE,Nat.zero_le _⟩
 refine(h.2 X (fun _=>none) w vs rfl rfl rfl hW hl (fun i hi=> .ro _ _ ((hr i hi).mono hF0))).mono ?_
 rintro e w' ⟨v,d',os,β',rfl,hw',hrd,_,rfl,rfl⟩
 have hk:KeptL w.heap.size (fun _=>False) w w':=hw'.kept
 have hβ: ∀o,β' o=none:=by
  intro o
  cases ho:β' o with
  |none=>rfl
  |some x=>exact absurd (hw'.dom o x ho).1 lM
 have iO:β'=fun _=>none:=funext hβ
 subst iO
 exact⟨v,rfl,hk.below,hrd.mono (fun b hb=>⟨hb.1,rfl⟩) (fun _ _ h=>h)⟩
theorem ak.truth{P:Program}{f:FuncId}{ds:List D}{b:Bool}(h:ak P f G0 0 [] ds (fun d' os=>d'= .bool b∧os=[])){w:World}{vs:List Value}(hl:vs.length=ds.length)
 (hr: ∀i,i<ds.length→RO (fun b=>b<w.heap.size) w (vs.getD i undef) (ds.getD i .junk)):
 Calls P f vs.toArray w fun e w'=>e= .returned (.bool b)∧Below w.heap.size w w':=
 (h.done hl hr).mono fun e w' ⟨v,he,hb,hv⟩=>⟨by rw[he,hv.nJ],hb⟩
end Go.Eng
namespace Go.Eng
open Go Go.RowKit
def rowB:Obj→Bool
 | .row _ _ _=>true
 | .box cs=>cs.all cZ
 |_=>false
def F7(o:Nat):D→D
 | .h p=>bif Nat.beq p o then .h 0 else .junk
 | .hp p k=>bif Nat.beq p o then .hp 0 k else .junk
 | .hr _ _ _ _=> .junk
 | .hs _ _ _ _=> .junk
 | .agg cs=>bif cs.all cZ then .agg cs else .junk
 | .clo f cs=>bif cs.all cZ then .clo f cs else .junk
 | .aN _=> .junk
 |d=>d
def Oq(o n j:Nat):Nat:=match j with
 |0=>o
 |j+1=>n+j
def og(n:Nat)(β β':Nat→Option Value):Nat→Option Value:=fun p=>if p<n then β p else β' (p-n+1)
theorem St.afd{objs:List Obj}{o p:Nat}{x:Obj}{r:List Obj}(ho:o<objs.length)(hp:p<objs.length):
 (objs.set o x++r).getD p .dead=if p=o then x else objs.getD p .dead:=by
 rw[List.getD_eq_getElem?_getD,List.getElem?_append_left (by simpa using hp),List.getElem?_set]
 by_cases h:p=o
 ·subst h
  rw[if_pos rfl,if_pos rfl,if_pos ho]
  rfl
 ·rw[if_neg (fun e=>h e.symm),if_neg h,List.getD_eq_getElem?_getD]
theorem Ja{X:Ctx}{f:FuncId}{ds:List D}{env:List (Nat×D)}{nt:Nat}{objs:List Obj}{g:Nat→Option (List D)}{pin:Nat}{K:D→St→Prop}{post:D→List Obj→Prop}(o:Nat)
 (ho:(Nat.blt o objs.length&&rowB (objs.getD o .dead))=true)(hc:ak X.P f g 1 [objs.getD o .dead] (ds.map (F7 o)) post)
 (hk: ∀d os,post d os→ ∃o' r,os=o'::r∧K (ren (Oq o objs.length) d) ⟨env,nt,objs.set o o'++r,g,pin⟩):CallS X f ds ⟨env,nt,objs,g,pin⟩ K:=by
 refine CallS.mk hc.1 fun β a w vs hr hl hrep=> ?_
 obtain⟨ho1,ho2⟩:=jZ ho
 have hol:o<objs.length:=by simpa[Nat.blt_eq] using ho1
 let st:St:=⟨env,nt,objs,g,pin⟩
 have hon:o<st.n:=hol
 have hob:st.obj o=objs.getD o .dead:=rfl
 have hpl:(st.obj o).plain∧(st.obj o).live:=by
  rw[hob]
  revert ho2
  cases objs.getD o .dead<;>intro h<;>first|exact⟨trivial,trivial⟩|exact⟨h,trivial⟩|cases h
 obtain⟨xo,hxo,Kw⟩:=hr.own o hon hpl.2
 let L:Nat→Prop:=fun b=>blk xo=some b
 let β0:Nat→Option Value:=fun j=>if j=0 then some xo else none
 let Xc:Ctx:=⟨X.P,w,FX X st β w,L,β0⟩
 have hF0: ∀b,FX X st β w b→FX Xc (stOf [st.obj o] g 1) β0 w b∧w.heap[b]? =w.heap[b]? :=by
  intro b hb
  refine⟨⟨hb.1, .inl hb,fun p hp hl x hx=> ?_⟩,rfl⟩
  have hp0:p=0:=by have:p<1:=hp;omega
  subst hp0
  have:x=xo:=(Option.some.inj hx).symm
  subst this
  exact hb.2.2 o hon hpl.2 x hxo
 have hW:WRel Xc (stOf [st.obj o] g 1) β0 w:=by
  have one: ∀p x,β0 p=some x→p=0∧x=xo:=by
   intro p x hx
   by_cases hp:p=0
   ·subst hp
    exact⟨rfl,(Option.some.inj hx).symm⟩
   ·simp[β0,hp] at hx
  refine⟨fun p x hx=> ?_,fun p hp hl=> ?_,fun p p' x x' b hx hx' _ _=> ?_,fun p x b hx hb=> ?_,KeptL.refl _ _ _,fun gg cs hg=>(hr.glob gg cs hg).mono hF0,fun _ _=>rfl,Nat.le_refl 1⟩
  ·obtain⟨rfl,rfl⟩:=one p x hx
   exact⟨Nat.zero_lt_one,hpl.2⟩
  ·have hp0:p=0:=by have:p<1:=hp;omega
   subst hp0
   exact⟨xo,rfl,Own.rE hF0 hpl.1 (fun _ _=>rfl) Kw⟩
  ·rw[(one p x hx).1,(one p' x' hx').1]
  ·obtain⟨rfl,rfl⟩:=one p x hx
   exact .inr hb
 refine(hc.2 Xc β0 w vs rfl rfl rfl hW pI (fun i hi=> ?_)).mono ?_
 ·have hi':i<ds.length:=by simpa using hi
  have e:(ds.map (F7 o)).getD i .junk=F7 o (ds.getD i .junk):=gy _ rfl _ _
  rw[e]
  have hv:=hrep i hi'
  revert hv
  have ro: ∀ {v:Value} {d:D},RO (FX X st β w) w v d→Rep (FX Xc (stOf [st.obj o] g 1) β0 w) β0 w v d:=fun h=> .ro _ _ (h.mono hF0)
  cases ds.getD i .junk with
  |h p=>
   intro hv
   show Rep _ _ _ _ (bif Nat.beq p o then .h 0 else .junk)
   cases hb:Nat.beq p o with
   |false=>exact .ro _ _ (.junk _)
   |true=>
    have:=Nat.eq_of_beq_eq_true hb
    subst this
    have:=hv.iM
    rw[hxo] at this
    exact .h _ _ this
  |hp p k=>
   intro hv
   show Rep _ _ _ _ (bif Nat.beq p o then .hp 0 k else .junk)
   cases hb:Nat.beq p o with
   |false=>exact .ro _ _ (.junk _)
   |true=>
    have:=Nat.eq_of_beq_eq_true hb
    subst this
    obtain⟨b,x,hx,hbk,he⟩:=hv.xX
    rw[hxo] at hx
    cases hx
    rw[he]
    exact .hp _ _ _ _ rfl hbk
  |hr p s i k=>intro _;exact .ro _ _ (.junk _)
  |hs p s a b=>intro _;exact .ro _ _ (.junk _)
  |aN l=>intro _;exact .ro _ _ (.junk _)
  |agg cs=>
   intro hv
   show Rep _ _ _ _ (bif cs.all cZ then .agg cs else .junk)
   cases hb:cs.all cZ with
   |false=>exact .ro _ _ (.junk _)
   |true=>exact ro (hv.noH hb)
  |clo f cs=>
   intro hv
   show Rep _ _ _ _ (bif cs.all cZ then .clo f cs else .junk)
   cases hb:cs.all cZ with
   |false=>exact .ro _ _ (.junk _)
   |true=>exact ro (hv.noH hb)
  |junk=>intro hv;exact ro (hv.noH rfl)
  |int=>intro hv;exact ro (hv.noH rfl)
  |bool=>intro hv;exact ro (hv.noH rfl)
  |str=>intro hv;exact ro (hv.noH rfl)
  |v=>intro hv;exact ro (hv.noH rfl)
  |sl=>intro hv;exact ro (hv.noH rfl)
  |rp=>intro hv;exact ro (hv.noH rfl)
 ·rintro e w' ⟨v,d,os,β',rfl,hw',hrd,Ky,hpost⟩
  obtain⟨o',r,rfl,hkk⟩:=hk d os hpost
  have hkc:KeptL w.heap.size L w w':=hw'.kept
  have h0:β' 0=some xo:=hw'.stay 0 Nat.zero_lt_one
  have hnew: ∀j x b,β' j=some x→blk x=some b→w.heap.size≤b∨blk xo=some b:=fun j x b hx hb=>hw'.low j x b hx hb
  have hβ: ∀p x,β p=some x→og objs.length β β' p=some x:=by
   intro p x hx
   unfold og
   rw[if_pos (show p<objs.length from(hr.dom p x hx).1)]
   exact hx
  have hlo: ∀ {b:Nat},blk xo=some b→b<w.heap.size:=fun hb=>hr.lt hxo hb
  have hsame: ∀b,b<w.heap.size→blk xo≠some b→w'.heap[b]? =w.heap[b]? :=fun b hb hn=>hkc.block b hb hn
  let st':St:=⟨env,nt,objs.set o o'++r,g,pin⟩
  have hn':st'.n=objs.length+r.length:=by simp[st',St.n]
  have Kr: ∀p,p<objs.length→st'.obj p=if p=o then o' else st.obj p:=fun p hp'=>St.afd hol hp'
  have Si: ∀p,objs.length≤p→st'.obj p=r.getD (p-objs.length) .dead:=by
   intro p hp'
   show(objs.set o o'++r).getD p .dead=_
   rw[List.getD_eq_getElem?_getD,List.getElem?_append_right (by simpa using hp'),List.getD_eq_getElem?_getD]
   simp
  have hc0: ∀j,(stOf (o'::r) g 1).obj j=(o'::r).getD j .dead:=fun _=>rfl
  have hFn: ∀b,FX Xc (stOf (o'::r) g 1) β' w' b→FX X st' (og objs.length β β') w' b:=by
   intro b hb
   refine⟨hb.1,?_,fun p hp hl y hy=> ?_⟩
   ·rcases hb.2.1 with h1|h1|h1
    ·exact h1.2.1
    ·exact .inr (.inl (Nat.le_trans hr.kept.size h1))
    ·exact absurd h1 (hb.2.2 0 (Nat.zero_lt_succ _) (hw'.dom 0 xo h0).2 xo h0)
   ·unfold og at hy
    split at hy
    ·rename_i hlt
     by_cases hpo:p=o
     ·subst hpo
      rw[hxo] at hy
      cases hy
      rw[Kr p hlt,if_pos rfl] at hl
      exact hb.2.2 0 (Nat.zero_lt_succ _) hl xo h0
     ·rcases hb.2.1 with h1|h1|h1
      ·exact h1.2.2 p hlt (hr.dom p y hy).2 y hy
      ·intro hbb
       have:=hr.lt hy hbb
       have h1:w.heap.size≤b:=h1
       omega
      ·exact absurd h1 (hb.2.2 0 (Nat.zero_lt_succ _) (hw'.dom 0 xo h0).2 xo h0)
    ·exact hb.2.2 _ (hw'.dom _ _ hy).1 (hw'.dom _ _ hy).2 y hy
  have hFX: ∀b,FX X st β w b→FX X st' (og objs.length β β') w' b∧w'.heap[b]? =w.heap[b]? :=by
   intro b hb
   have qm:blk xo≠some b:=hb.2.2 o hon hpl.2 xo hxo
   refine⟨⟨Nat.lt_of_lt_of_le hb.1 hkc.size,hb.2.1,fun p hp hl y hy=> ?_⟩,hsame b hb.1 qm⟩
   unfold og at hy
   split at hy
   ·rename_i hlt
    exact hb.2.2 p hlt (hr.dom p y hy).2 y hy
   ·intro hbb
    rcases hnew _ _ _ hy hbb with h1|h1
    ·have:=hb.1
     omega
    ·exact qm h1
  have hrel:Rel X st' (og objs.length β β') a w':=by
   refine⟨hr.defers,hr.size,fun i=>(hr.tmps i).mono hFX hβ,?_,?_,?_,?_,?_,fun gg cs hg=>(hr.glob gg cs hg).mono hFX,?_,?_⟩
   ·intro p x hx
    unfold og at hx
    split at hx
    ·rename_i hlt
     refine⟨by rw[hn'];omega,?_⟩
     rw[Kr p hlt]
     split
     ·exact(hw'.dom 0 xo h0).2
     ·exact(hr.dom p x hx).2
    ·rename_i hge
     have hd:=hw'.dom _ _ hx
     have hlt:p-objs.length+1<r.length+1:=hd.1
     refine⟨by rw[hn'];omega,?_⟩
     rw[Si p ah]
     exact hd.2
   ·intro p hp hl
    by_cases hlt:p<objs.length
    ·rw[Kr p hlt] at hl⊢
     by_cases hpo:p=o
     ·subst hpo
      rw[if_pos rfl] at hl⊢
      obtain⟨x,hx,hw⟩:=hw'.own 0 (Nat.zero_lt_succ _) hl
      rw[h0] at hx
      cases hx
      exact⟨xo,hβ _ _ hxo,Own.rE (fun b hb=>⟨hFn b hb,rfl⟩) (Ky _ (List.mem_cons_self ..)) (fun _ _=>rfl) hw⟩
     ·rw[if_neg hpo] at hl⊢
      obtain⟨x,hx,hw⟩:=hr.own p hlt hl
      refine⟨x,hβ p x hx,hw.mono hFX hβ (fun b hb=>hsame b (Own.lt hl hw b hb) (fun qm=> ?_))⟩
      exact hpo (hr.sep p o x xo b hx hxo hb qm)
    ·rw[Si p ah] at hl⊢
     have hin:p-objs.length<r.length:=by rw[hn'] at hp;omega
     obtain⟨x,hx,hw⟩:=hw'.own (p-objs.length+1) (Nat.succ_lt_succ hin) hl
     refine⟨x,by unfold og;rw[if_neg hlt];exact hx,?_⟩
     exact Own.rE (fun b hb=>⟨hFn b hb,rfl⟩) (Ky _ (List.mem_cons_of_mem _ (getD_mem hin))) (fun _ _=>rfl) hw
   ·intro p p' x x' b hx hx' hb hb'
    unfold og at hx hx'
    split at hx<;>split at hx'
    ·exact hr.sep p p' x x' b hx hx' hb hb'
    ·rename_i h1 h2
     rcases hnew _ _ _ hx' hb' with h3|h3
     ·have:=hr.lt hx hb
      omega
     ·have hpo:=hr.sep p o x xo b hx hxo hb h3
      have:=hw'.sep _ _ xo x' b h0 hx' h3 hb'
      omega
    ·rename_i h1 h2
     rcases hnew _ _ _ hx hb with h3|h3
     ·have:=hr.lt hx' hb'
      omega
     ·have:=hw'.sep _ _ xo x b h0 hx h3 hb
      omega
    ·have:=hw'.sep _ _ x x' b hx hx' hb hb'
     omega
   ·intro p x b hx hb
    unfold og at hx
    split at hx
    ·exact hr.low p x b hx hb
    ·rcases hnew _ _ _ hx hb with h3|h3
     ·exact .inl (Nat.le_trans hr.kept.size h3)
     ·exact hr.low o xo b hxo h3
   ·refine hr.kept.trans ⟨hkc.os,hkc.tape,hkc.output,hkc.size,fun k hk hl=>hsame k (Nat.lt_of_lt_of_le hk hr.kept.size) (fun qm=> ?_)⟩
    rcases hr.low o xo k hxo qm with h3|h3
    ·omega
    ·exact hl h3
   ·intro p hp'
    have hpn:st.pin≤st.n:=hr.pinned
    have hp2:p<st.pin:=hp'
    unfold og
    rw[if_pos (show p<objs.length from Nat.lt_of_lt_of_le hp2 hpn)]
    exact hr.stay p hp2
   ·have hpn:st.pin≤st.n:=hr.pinned
    rw[hn']
    exact Nat.le_trans hpn (Nat.le_add_right _ _)
  refine⟨v,_,st',_,rfl,hrel,?_,hkk⟩
  refine hrd.ren' (f:=Oq o objs.length) (fun j x hx=> ?_) (fun v d h=>h.mono (fun b hb=>⟨hFn b hb,rfl⟩))
  cases j with
  |zero=>
   rw[h0] at hx
   cases hx
   exact hβ o xo hxo
  |succ j=>
   show og objs.length β β' (objs.length+j)=some x
   unfold og
   rw[if_neg ah,show objs.length+j-objs.length+1=j+1 from by omega]
   exact hx
theorem iY{X:Ctx}{f:FuncId}{ds:List D}{env:List (Nat×D)}{nt:Nat}{objs:List Obj}{g:Nat→Option (List D)}{pin:Nat}{K:D→St→Prop}{d:D}{o':Obj}(o:Nat)
 (ho:(Nat.blt o objs.length&&rowB (objs.getD o .dead))=true)(hc:ak X.P f g 1 [objs.getD o .dead] (ds.map (F7 o)) (fun d' os=>d'=d∧os=[o']))(hd:noH d=true)
 (hk:K d ⟨env,nt,objs.set o o',g,pin⟩):CallS X f ds ⟨env,nt,objs,g,pin⟩ K:=by
 refine Ja o ho hc ?_
 rintro d' os ⟨rfl,rfl⟩
 refine⟨o',[],rfl,?_⟩
 rw[MQ hd,List.append_nil]
 exact hk
theorem iV.map{α:Type}{enc:α→List D}{l:List α}{e:TypeId}{s:Nat}(h: ∀x,(enc x).all kJ=true):iV (.row e s (l.map enc)):=by
 intro c hc d hd
 obtain⟨x,_,rfl⟩:=List.mem_map.1 hc
 exact List.all_eq_true.1 (h x) d hd
end Go.Eng
namespace Go.Eng
open Go Go.RowKit
theorem acW{X:Ctx}{f:FuncId}{fn:Func}{e:Array Value→Sem Value}{ds:List D}{st:St}{K:D→Prop}(hf:X.P.funcs[f]? =some fn)(hname:(fn.name== "runtime.NumGoroutine")=false)
 (hb:fn.body.isNone=true)(hn:Extern.findNext fn=none)(he:Extern.find fn=some e)(d:D)(hk:K d)
 (h: ∀(w:World) (F:Nat→Prop) (β:Nat→Option Value) (vs:List Value),vs.length=ds.length→(∀i,i<ds.length→Rep F β w (vs.getD i undef) (ds.getD i .junk))→
   ∃v,(e vs.toArray).run X.P w= .ok v w∧Rep F β w v d):wF X f ds st K:=by
 refine⟨d,hk,fun β a w vs hr hl hrep=> ?_⟩
 obtain⟨v,hv,hd⟩:=h w _ _ vs hl hrep
 exact⟨v,by rw[run_callFunc_extern hf hname hb hn he,hv];rfl,hd⟩
theorem La{vs:List Value}(h:vs.length=2):vs=[vs.getD 0 undef,vs.getD 1 undef]:=by
 match vs,h with
 |[a,b],_=>rfl
theorem iJ.lit(k:Nat){i:Int}{l:List UInt8}{c:UInt8}{K:UInt8→Prop}(hi:i=(k:Int))(hx:l[k]? =some c)(h:K c):iJ l i K:=by
 subst hi
 exact iJ.the hx h
def uF{α:Type}(p:α→Bool)(l:List α)(k:Nat):Prop:= ∀j x,j<k→l[j]? =some x→p x=true
theorem Cj{α:Type}{p:α→Bool}{l:List α} :uF p l 0:=fun j _ h=>absurd h ah
theorem Ci{α:Type}{p:α→Bool}{l:List α}{k:Nat}{x:α}(h:uF p l k)(hx:l[k]? =some x)(hp:p x=true):uF p l (k+1):=by
 intro j y hj hy
 have h2:j<k∨j=k:=by omega
 rcases h2 with h2|rfl
 ·exact h j y h2 hy
 ·rw[hx] at hy;cases hy;exact hp
theorem CB{α:Type}{p:α→Bool}{l:List α}{k:Nat}(h:uF p l k)(hk:l.length≤k):l.all p=true:=by
 rw[List.all_eq_true]
 intro x hx
 obtain⟨j,hj⟩:=List.getElem?_of_mem hx
 have h2:=(List.getElem?_eq_some_iff.1 hj).1
 exact h j x ah hj
theorem Cm{α:Type}{p:α→Bool}{l:List α}{k:Nat}{x:α}(hx:l[k]? =some x)(hp:p x=false):l.all p=false:=by
 rw[List.all_eq_false]
 exact⟨x,List.mem_of_getElem? hx,by simp[hp]⟩
end Go.Eng
namespace Go.Eng
open Go Go.RowKit
theorem agR{H:Type}{enc:TypeId×Value→H}{P:Program}{w:World}{base:Nat}{sp:Nat→Bool}{held:Bool}{fuel:Nat}{t e:TypeId}{n:Nat}{cs:List Value}{ls:List (List UInt8)}{p:List MemPlace}
 (ht:P.underlying t=some (.array n e))(he:P.underlying e=some .string)(hce:P.cellsOf e=1)(hct:P.cellsOf t=n)
 (h:DataW.trod enc P w base sp held fuel t cs=some (.agg (ls.map fun l=> .lit (.string l)),p)):cs.length=ls.length∧ ∀j,j<ls.length→ ∃l:List UInt8,ls[j]? =some l∧l.length≤maxLen∧cs[j]? =some (.string ⟨l.toArray⟩):=by
 obtain⟨xs,m,_,hx,hcl,hxl,hel⟩:=DataW.trod_array ht h
 have h1:xs.map (·.1)=ls.map fun l=>(DataW.lit (.string l):DataW H):=by
  have:=congrArg Prod.fst hx
  simpa using this.symm
 have hln:ls.length=n:=by
  have:=congrArg List.length h1
  simp at this
  omega
 refine⟨by omega,fun j hj=> ?_⟩
 have hjn:j<n:=by omega
 have hxj:xs[j]? =some (xs[j]' ah):=List.getElem?_eq_getElem _
 have hb:=hel j hjn
 rw[hce,Nat.mul_one,hxj] at hb
 obtain⟨s,hcs,hxe,hs⟩:=DataW.trod_string he hb
 have h2:(xs.map (·.1))[j]? =(ls.map fun l=>(DataW.lit (.string l):DataW H))[j]? :=by rw[h1]
 rw[List.getElem?_map,List.getElem?_map,hxj,hxe,List.getElem?_eq_getElem hj] at h2
 simp only[Option.map_some,Option.some.injEq,DataW.lit.injEq,Lit.string.injEq] at h2
 refine⟨ls[j],List.getElem?_eq_getElem hj,?_,?_⟩
 ·rw[←h2]
  have:s.data.toList.length=s.size:=Array.length_toList
  omega
 ·have h3:((cs.drop j).take 1)[0]? =some (.string s):=by rw[hcs];rfl
  rw[List.getElem?_take,if_pos ah,List.getElem?_drop,Nat.add_zero] at h3
  rw[h3,←h2]
theorem Tn{H:Type}{enc:TypeId×Value→H}{P:Program}{w:World}{base:Nat}{sp:Nat→Bool}{held:Bool}{fuel:Nat}{t e:TypeId}{n:Nat}{k:IntKind}{cs:List Value}{ls:List Int}{p:List MemPlace}
 (ht:P.underlying t=some (.array n e))(he:P.underlying e=some (.int k))(hce:P.cellsOf e=1)(hct:P.cellsOf t=n)
 (h:DataW.trod enc P w base sp held fuel t cs=some (.agg (ls.map fun z=> .lit (.int k z)),p)):cs=ls.map fun z=>Value.int k z:=by
 obtain⟨xs,m,_,hx,hcl,hxl,hel⟩:=DataW.trod_array ht h
 have h1:xs.map (·.1)=ls.map fun z=>(DataW.lit (.int k z):DataW H):=by
  have:=congrArg Prod.fst hx
  simpa using this.symm
 have hln:ls.length=n:=by
  have:=congrArg List.length h1
  simp at this
  omega
 apply List.ext_getElem nX
 intro j hj hj2
 have hjl:j<ls.length:=by simpa using hj2
 have hxj:xs[j]? =some (xs[j]' ah):=List.getElem?_eq_getElem _
 have hb:=hel j ah
 rw[hce,Nat.mul_one,hxj] at hb
 obtain⟨z,hcs,hxe,hs⟩:=DataW.trod_int he hb
 have h2:(xs.map (·.1))[j]? =(ls.map fun z=>(DataW.lit (.int k z):DataW H))[j]? :=by rw[h1]
 rw[List.getElem?_map,List.getElem?_map,hxj,hxe,List.getElem?_eq_getElem hjl] at h2
 simp only[Option.map_some,Option.some.injEq,DataW.lit.injEq,Lit.int.injEq,true_and] at h2
 have h3:((cs.drop j).take 1)[0]? =some (.int k z):=by rw[hcs];rfl
 rw[List.getElem?_take,if_pos ah,List.getElem?_drop,Nat.add_zero,List.getElem?_eq_getElem hj] at h3
 rw[Option.some.inj h3,List.getElem_map,h2]
theorem adJ{P:Program}{w:World}{name:String}{g:Nat}{cs:Array Value}(hg:P.globalNamed name=some g)(hv:w.var? P name=some cs): ∃T fr,w.heap[g]? =some (.cells cs T fr):=by
 simp only[World.var?,hg,Option.bind_some] at hv
 split at hv
 ·rename_i c t fr hb
  simp only[Option.some.injEq] at hv
  subst hv
  exact⟨_,_,hb⟩
 ·cases hv
theorem Rz{P:Program}{w:World}{name:String}{g:Nat}{cs:Array Value}{ds:List D}(hg:P.globalNamed name=some g)(hv:w.var? P name=some cs)(hl:cs.toList.length=ds.length)
 (h: ∀j,j<ds.length→ ∃v,cs.toList[j]? =some v∧v.oneCell'=true∧RO (fun b=>b<w.heap.size) w v (ds.getD j .junk)):nY (fun b=>b<w.heap.size) w g ds:=by
 have hcell: ∀j,w.cell? ⟨g,j,none⟩=cs[j]? :=fun j=>World.var?_cell hg hv j
 obtain⟨T,fr,hb⟩:=adJ hg hv
 have hlt:g<w.heap.size:=(Array.getElem?_eq_some_iff.1 hb).1
 refine⟨.rp _ g 0 (fun j=>cs.toList.getD j undef) hlt (fun j hj=> ?_) (fun j hj=> ?_),hlt,cs,T,fr,hb,by simpa using hl⟩
 ·obtain⟨v,h1,h2,h3⟩:=h j hj
  rw[Nat.zero_add,hcell,List.getD_eq_getElem?_getD,h1]
  rw[Array.getElem?_toList] at h1
  exact⟨h1,h2⟩
 ·obtain⟨v,h1,h2,h3⟩:=h j hj
  rw[List.getD_eq_getElem?_getD,h1]
  exact h3
theorem adw{P:Program}{w:World}{name:String}{g:Nat}{cs:Array Value}{ls:List (List UInt8)}(hg:P.globalNamed name=some g)(hv:w.var? P name=some cs)(hl:cs.toList.length=ls.length)
 (h: ∀j,j<ls.length→ ∃l:List UInt8,ls[j]? =some l∧l.length≤maxLen∧cs.toList[j]? =some (.string ⟨l.toArray⟩)):nY (fun b=>b<w.heap.size) w g (ls.map .str):=by
 refine Rz hg hv pI (fun j hj=> ?_)
 rw[List.length_map] at hj
 obtain⟨l,h1,h2,h3⟩:=h j hj
 refine⟨_,h3,rfl,?_⟩
 have e1:(ls.map D.str).getD j .junk= .str l:=by rw[List.getD_eq_getElem?_getD,List.getElem?_map,h1];rfl
 rw[e1]
 exact .str l h2
theorem Ry{P:Program}{w:World}{name:String}{g:Nat}{cs:Array Value}{k:IntKind}{ls:List Int}(hg:P.globalNamed name=some g)(hv:w.var? P name=some cs)(h:cs.toList=ls.map fun z=>Value.int k z):
 nY (fun b=>b<w.heap.size) w g (ls.map fun z=> .int k z):=by
 refine Rz hg hv (by rw[h];simp) (fun j hj=> ?_)
 rw[List.length_map] at hj
 refine⟨.int k ls[j],by rw[h];simp[hj],rfl,?_⟩
 have e1:(ls.map fun z=>D.int k z).getD j .junk= .int k ls[j]:=by simp[List.getD_eq_getElem?_getD,hj]
 rw[e1]
 exact .int _ _
theorem ak.Lm{P:Program}{f:FuncId}{G1 G:Nat→Option (List D)}{pin:Nat}{os:List Obj}{ds:List D}{post:D→List Obj→Prop}(hsub: ∀g cs,G1 g=some cs→G g=some cs)(h:ak P f G1 pin os ds post):ak P f G pin os ds post:=by
 refine⟨h.1,fun X β w vs hP hw0 hβ0 hW hl hrep=> ?_⟩
 subst hw0
 let X':Ctx:= { X with F0:=fun b=>X.F0 b∨X.lent b,lent:=fun b=>X.lent b∧ ∃o x,o<os.length∧(os.getD o .dead).live∧β o=some x∧blk x=some b }
 have hFX: ∀b,FX X (stOf os G pin) β X.w0 b→FX X' (stOf os G1 pin) β X.w0 b∧X.w0.heap[b]? =X.w0.heap[b]? :=fun b hb=>by
  refine⟨⟨hb.1,?_,hb.2.2⟩,rfl⟩
  rcases hb.2.1 with h1|h1|h1
  ·exact .inl (.inl h1)
  ·exact .inr (.inl h1)
  ·exact .inl (.inr h1)
 have hback: ∀os' β' w' b,FX X' (stOf os' G1 pin) β' w' b→FX X (stOf os' G pin) β' w' b∧w'.heap[b]? =w'.heap[b]? :=fun os' β' w' b hb=>by
  refine⟨⟨hb.1,?_,hb.2.2⟩,rfl⟩
  rcases hb.2.1 with(h1|h1)|h1|h1
  ·exact .inl h1
  ·exact .inr (.inr h1)
  ·exact .inr (.inl h1)
  ·exact .inr (.inr h1.1)
 have hW':WRel X' (stOf os G1 pin) β X.w0:=by
  refine⟨hW.dom,fun o ho hlv=>let⟨x,hx,hw⟩:=hW.own o ho hlv;⟨x,hx,hw.mono hFX (fun _ _ h=>h) (fun _ _=>rfl)⟩,hW.sep,fun o x b hx hb=> ?_,KeptL.refl _ _ _,fun g cs hg=>(hW.glob g cs (hsub g cs hg)).mono hFX,hW.stay,hW.pinned⟩
  rcases hW.low o x b hx hb with h1|h1
  ·exact .inl h1
  ·exact .inr ⟨h1,o,x,(hW.dom o x hx).1,(hW.dom o x hx).2,hx,hb⟩
 refine(h.2 X' β X.w0 vs hP rfl hβ0 hW' hl (fun i hi=>(hrep i hi).mono hFX (fun _ _ h=>h))).mono ?_
 rintro e w' ⟨v,d,os',β',rfl,hw',hrd,hp,hpost⟩
 have hk:KeptL X.w0.heap.size X'.lent X.w0 w':=hw'.kept
 have hold: ∀b,FX X (stOf os G pin) β X.w0 b→FX X (stOf os' G pin) β' w' b∧w'.heap[b]? =X.w0.heap[b]? :=by
  intro b hb
  have hnl: ¬X'.lent b:=by
   rintro⟨_,o,x,ho,hlv,hx,hbx⟩
   exact hb.2.2 o ho hlv x hx hbx
  refine⟨⟨Nat.lt_of_lt_of_le hb.1 hk.size,hb.2.1,fun o ho hlv x hx hbx=> ?_⟩,hk.block b hb.1 hnl⟩
  rcases hw'.low o x b hx hbx with h1|h1
  ·have:=hb.1
   have h1:X.w0.heap.size≤b:=h1
   omega
  ·exact hnl h1
 refine⟨v,d,os',β',rfl,⟨hw'.dom,fun o ho hlv=>let⟨x,hx,hw⟩:=hw'.own o ho hlv;⟨x,hx,hw.mono (hback os' β' w') (fun _ _ h=>h) (fun _ _=>rfl)⟩,hw'.sep,fun o x b hx hb=>(hw'.low o x b hx hb).imp id (fun h=>h.1),⟨hk.os,hk.tape,hk.output,hk.size,fun k hk1 hk2=>hk.block k hk1 (fun h=>hk2 h.1)⟩,fun g cs hg=>(hW.glob g cs hg).mono hold,hw'.stay,hw'.pinned⟩,hrd.mono (hback os' β' w') (fun _ _ h=>h),hp,hpost⟩
theorem ak.aU{P:Program}{f:FuncId}{G:Nat→Option (List D)}{pin:Nat}{os:List Obj}{ds:List D}{post:D→List Obj→Prop}(h:ak P f G0 pin os ds post):ak P f G pin os ds post:=
 h.Lm fun _ _ h=>by cases h
def G1(g:Nat)(cs:List D):Nat→Option (List D):=fun i=>if i=g then some cs else none
theorem ak.acz{P:Program}{f:FuncId}{G:Nat→Option (List D)}{ds:List D}{d:D}(h:ak P f G 0 [] ds (fun d' os=>d'=d∧os=[])){w:World}{vs:List Value}(hl:vs.length=ds.length)
 (hG: ∀g cs,G g=some cs→nY (fun b=>b<w.heap.size) w g cs)
 (hr: ∀i,i<ds.length→RO (fun b=>b<w.heap.size) w (vs.getD i undef) (ds.getD i .junk)):
 Calls P f vs.toArray w fun e w'=> ∃v,e= .returned v∧Below w.heap.size w w'∧Rep (fun b=>b<w'.heap.size) (fun _=>none) w' v d:=by
 let X:Ctx:=⟨P,w,fun b=>b<w.heap.size,fun _=>False,fun _=>none⟩
 have hF0: ∀b,b<w.heap.size→FX X (stOf [] G 0) (fun _=>none) w b∧w.heap[b]? =w.heap[b]? :=fun b hb=>⟨⟨hb, .inl hb,fun o ho=>absurd ho lM⟩,rfl⟩
 have hW:WRel X (stOf [] G 0) (fun _=>none) w:=by
  refine⟨fun o x hx=>jX,fun o ho=>absurd ho lM,fun o o' x x' b hx=>jX,fun o x b hx=>jX,KeptL.refl _ _ _,fun g cs hg=>(hG g cs hg).mono hF0,fun o ho=>absurd ho wE,Nat.zero_le _⟩
 refine(h.2 X (fun _=>none) w vs rfl rfl rfl hW hl (fun i hi=> .ro _ _ ((hr i hi).mono hF0))).mono ?_
 rintro e w' ⟨v,d',os,β',rfl,hw',hrd,_,rfl,rfl⟩
 have hk:KeptL w.heap.size (fun _=>False) w w':=hw'.kept
 have hβ: ∀o,β' o=none:=by
  intro o
  cases ho:β' o with
  |none=>rfl
  |some x=>exact absurd (hw'.dom o x ho).1 lM
 have iO:β'=fun _=>none:=funext hβ
 subst iO
 exact⟨v,rfl,hk.below,hrd.mono (fun b hb=>⟨hb.1,rfl⟩) (fun _ _ h=>h)⟩
theorem ak.ag1{P:Program}{f:FuncId}{G:Nat→Option (List D)}{ds:List D}{b:Bool}(h:ak P f G 0 [] ds (fun d' os=>d'= .bool b∧os=[])){w:World}{vs:List Value}(hl:vs.length=ds.length)
 (hG: ∀g cs,G g=some cs→nY (fun b=>b<w.heap.size) w g cs)
 (hr: ∀i,i<ds.length→RO (fun b=>b<w.heap.size) w (vs.getD i undef) (ds.getD i .junk)):
 Calls P f vs.toArray w fun e w'=>e= .returned (.bool b)∧Below w.heap.size w w':=
 (h.acz hl hG hr).mono fun e w' ⟨v,he,hb,hv⟩=>⟨by rw[he,hv.nJ],hb⟩
end Go.Eng
namespace Go.Eng
open Go Go.RowKit
@[irreducible] def vg(vs vs':List Value)(K:Prop):Prop:=vs=vs'∧K
theorem vg.mk{vs:List Value}{K:Prop}(h:K):vg vs vs K:=by unfold vg;exact⟨rfl,h⟩
theorem vg.out{vs vs':List Value}{K:Prop}(h:vg vs vs' K):vs=vs'∧K:=by unfold vg at h;exact h
def EM(vs:List Value)(n nt:Nat)(d:D)(K:D→St→Prop)(st:St):Prop:=
 match st with
 |⟨_,_,objs,g,pin⟩=>match objs.getD n .dead with
  | .frame vs' e=>vg vs vs' (zC objs n (.frame [] []) fun l=>K d ⟨e,nt,l,g,pin⟩)
  |_=>False
def Xv(P:Program)(vs:List Value)(n nt:Nat)(rs:List ResultVar)(K:D→St→Prop):DExit→St→Prop
 | .normal,st=>resD P st rs fun d=>EF d st fun d st=>EM vs n nt d K st
 | .ret,st=>resD P st rs fun d=>EF d st fun d st=>EM vs n nt d K st
 | .exit _,_=>False
theorem Rel.afT{X:Ctx}{st:St}{β:Nat→Option Value}{a:Act}{w:World}(h:Rel X st β a w):
 WRel X ⟨[],0,st.objs++[.frame a.tmps.toList st.env],st.g,st.pin⟩ (dY β st.n (.bool true)) w:=by
 let st':St:=⟨[],0,st.objs++[.frame a.tmps.toList st.env],st.g,st.pin⟩
 have hn:st'.n=st.n+1:=Bh st _
 have hsame:st'.obj st.n= .frame a.tmps.toList st.env:=MK st _
 have hne: ∀o,o≠st.n→st'.obj o=st.obj o:=fun o ho=>Ej st _ ho
 have KG: ∀o x,β o=some x→o≠st.n:=fun o x hx=>by have:=(h.dom o x hx).1;omega
 have hβ: ∀o x,β o=some x→dY β st.n (.bool true) o=some x:=fun o x hx=>by simp[dY,KG o x hx,hx]
 have hinv: ∀o x b,dY β st.n (.bool true) o=some x→blk x=some b→β o=some x:=by
  intro o x b hx hb
  unfold dY at hx
  split at hx
  ·cases hx;simp[blk] at hb
  ·exact hx
 have hF: ∀b,FX X st β w b→FX X st' (dY β st.n (.bool true)) w b:=by
  intro b hb
  refine⟨hb.1,hb.2.1,fun o ho hl x hx hxb=> ?_⟩
  have:=hinv o x b hx hxb
  exact hb.2.2 o (h.dom o x this).1 (h.dom o x this).2 x this hxb
 refine⟨fun o x hx=> ?_,fun o ho hl=> ?_,fun o o' x x' b hx hx' hb hb'=>h.sep o o' x x' b (hinv o x b hx hb) (hinv o' x' b hx' hb') hb hb',fun o x b hx hb=>h.low o x b (hinv o x b hx hb) hb,h.kept,
  fun g cs hg=>(h.glob g cs hg).mono (fun b hb=>⟨hF b hb,rfl⟩),fun o ho=> ?_,?_⟩
 ·unfold dY at hx
  split at hx
  ·rename_i e
   subst e
   show st.n<st'.n∧(st'.obj st.n).live
   rw[hn,hsame]
   exact⟨Nat.lt_succ_self _,trivial⟩
  ·rename_i e
   show o<st'.n∧(st'.obj o).live
   rw[hn,hne o e]
   have:=h.dom o x hx
   exact⟨by omega,this.2⟩
 ·by_cases e:o=st.n
  ·subst e
   refine⟨.bool true,by simp[dY],?_⟩
   show Own (FX X st' _ w) _ w (st'.obj st.n) _
   rw[hsame]
   refine⟨rfl,fun i=> ?_⟩
   have:=(h.tmps i).mono (F':=FX X st' (dY β st.n (.bool true)) w) (w':=w) (fun b hb=>⟨hF b hb,rfl⟩) hβ
   simpa[List.getD_eq_getElem?_getD,Array.getD_eq_getD_getElem?] using this
  ·have hl':(st'.obj o).live:=hl
   rw[hne o e] at hl'
   have ho':o<st'.n:=ho
   obtain⟨x,hx,hw⟩:=h.own o ah hl'
   refine⟨x,hβ o x hx,?_⟩
   show Own (FX X st' _ w) _ w (st'.obj o) _
   rw[hne o e]
   exact hw.mono (fun b hb=>⟨hF b hb,rfl⟩) hβ (fun _ _=>rfl)
 ·have ho':o<st.pin:=ho
  have:=h.pinned
  have e:o≠st.n:=by omega
  simp only[dY,if_neg e]
  exact h.stay o ho'
 ·show st.pin≤st'.n
  have:=h.pinned
  omega
theorem Rel.afR{X:Ctx}{st:St}{β:Nat→Option Value}{a a0:Act}{w:World}(h:Rel X st β a w){n nt:Nat}{e:List (Nat×D)}(ho:st.obj n= .frame a0.tmps.toList e)(hd:a0.defers=[])(hs:a0.tmps.size=nt):
 Rel X ⟨e,nt,st.objs.set n (.frame [] []),st.g,st.pin⟩ β a0 w∧ ∀v d,Rep (FX X st β w) β w v d→Rep (FX X ⟨e,nt,st.objs.set n (.frame [] []),st.g,st.pin⟩ β w) β w v d:=by
 have hlive:(st.obj n).live:=by rw[ho];trivial
 by_cases hnn:n<st.n
 case neg=>
  exfalso
  have:st.obj n= .dead:=by
   simp only[St.obj,List.getD_eq_getElem?_getD,List.getElem?_eq_none (show st.objs.length≤n by have: ¬n<st.objs.length:=hnn;omega)]
   rfl
  rw[this] at hlive
  exact hlive
 obtain⟨x,hx,hown⟩:=h.own n hnn hlive
 rw[ho] at hown
 obtain⟨hxt,hrep⟩:=hown
 subst hxt
 let st':St:=⟨e,nt,st.objs.set n (.frame [] []),st.g,st.pin⟩
 have hn:st'.n=st.n:=by simp[st',St.n]
 have hso:st'.obj n= .frame [] []:=by
  simp only[st',St.obj,List.getD_eq_getElem?_getD]
  rw[List.getElem?_set_self hnn]
  rfl
 have hsn: ∀p,p≠n→st'.obj p=st.obj p:=by
  intro p hp
  simp only[st',St.obj,List.getD_eq_getElem?_getD]
  rw[List.getElem?_set_ne (Ne.symm hp)]
 have hF: ∀b,FX X st β w b→FX X st' β w b∧w.heap[b]? =w.heap[b]? :=by
  intro b hb
  exact⟨⟨hb.1,hb.2.1,fun p _ _ y hy=>hb.2.2 p (h.dom p y hy).1 (h.dom p y hy).2 y hy⟩,rfl⟩
 refine⟨⟨hd,hs,fun i=> ?_,fun p y hy=> ?_,fun p hp hl=> ?_,h.sep,h.low,h.kept,fun g cs hg=>(h.glob g cs hg).mono hF,h.stay,by rw[hn];exact h.pinned⟩,fun v d hv=>hv.mono hF (fun _ _ h=>h)⟩
 ·have:=(hrep i).mono hF (fun _ _ h=>h)
  simpa[List.getD_eq_getElem?_getD,Array.getD_eq_getD_getElem?] using this
 ·show p<st'.n∧(st'.obj p).live
  rw[hn]
  refine⟨(h.dom p y hy).1,?_⟩
  by_cases e:p=n
  ·subst e;rw[hso];trivial
  ·rw[hsn p e];exact(h.dom p y hy).2
 ·by_cases e:p=n
  ·subst e
   refine⟨_,hx,?_⟩
   show Own (FX X st' β w) β w (st'.obj p) _
   rw[hso]
   refine⟨rfl,fun i=> ?_⟩
   exact .ro _ _ (.junk _)
  ·have hl':(st'.obj p).live:=hl
   rw[hsn p e] at hl'
   obtain⟨y,hy,hw⟩:=h.own p (hn▸hp) hl'
   refine⟨y,hy,?_⟩
   show Own (FX X st' β w) β w (st'.obj p) y
   rw[hsn p e]
   exact hw.mono hF (fun _ _ h=>h) (fun _ _=>rfl)
theorem Fa{X:Ctx}{f:FuncId}{fn:Func}{c:Code}{ds:List D}{env:List (Nat×D)}{nt:Nat}{objs:List Obj}{g:Nat→Option (List D)}{pin:Nat}{K:D→St→Prop}{n:Nat}(hf:X.P.funcs[f]? =some fn)(hb:fn.body=some c)(hname:(fn.name== "runtime.NumGoroutine")=false)
 (hlen:Nat.ble ds.length fn.ntmps=true)(hn:objs.length=n)
 (h: ∀vs:List Value,awp X c (Xv X.P vs n nt fn.results.toList K) ⟨argEnv 0 ds,fn.ntmps,objs++[.frame vs env],g,pin⟩):CallS X f ds ⟨env,nt,objs,g,pin⟩ K:=by
 subst hn
 refine CallS.mk (callFunc_enter hf (by rw[hb];rfl) hname) fun β a w vs hr hl hrep=> ?_
 let st:St:=⟨env,nt,objs,g,pin⟩
 have hlen:ds.length≤fn.ntmps:=by simpa using hlen
 refine calls_of_wp hf hb ?_
 have hW:=hr.afT
 have hrel:Rel X ⟨argEnv 0 ds,fn.ntmps,objs++[.frame a.tmps.toList env],g,pin⟩ (dY β st.n (.bool true)) { tmps:=vs.toArray++Array.replicate (fn.ntmps-vs.toArray.size) undef,defers:=[] } w:=by
  refine(hW.same (st':=⟨argEnv 0 ds,fn.ntmps,objs++[.frame a.tmps.toList env],g,pin⟩) rfl rfl rfl).toRel (a:= { tmps:=vs.toArray++Array.replicate (fn.ntmps-vs.toArray.size) undef,defers:=[] }) rfl (by simp[hl];omega) (fun i=> ?_)
  show Rep _ _ w _ (look (argEnv 0 ds) i)
  rw[look_argEnv,if_pos (Nat.zero_le _),Nat.sub_zero]
  have hβ: ∀o x,β o=some x→dY β st.n (.bool true) o=some x:=fun o x hx=>by
   have h1:o<st.n:=(hr.dom o x hx).1
   have:o≠st.n:=by omega
   simp[dY,this,hx]
  have hF: ∀b,FX X st β w b→FX X ⟨argEnv 0 ds,fn.ntmps,objs++[.frame a.tmps.toList env],g,pin⟩ (dY β st.n (.bool true)) w b∧w.heap[b]? =w.heap[b]? :=by
   intro b hb
   refine⟨⟨hb.1,hb.2.1,fun o ho hl x hx hxb=> ?_⟩,rfl⟩
   have hx':β o=some x:=by
    unfold dY at hx
    split at hx
    ·cases hx;simp[blk] at hxb
    ·exact hx
   exact hb.2.2 o (hr.dom o x hx').1 (hr.dom o x hx').2 x hx' hxb
  by_cases hi:i<ds.length
  ·have hi':i<vs.length:=by omega
   have e:(vs.toArray++Array.replicate (fn.ntmps-vs.toArray.size) undef).getD i undef=vs.getD i undef:=by
    simp[List.getD_eq_getElem?_getD,Array.getElem?_append,hi']
   show Rep _ _ w ((vs.toArray++Array.replicate (fn.ntmps-vs.toArray.size) undef).getD i undef) _
   rw[e]
   exact(hrep i hi).mono hF hβ
  ·have:ds.getD i .junk= .junk:=by simp[List.getD_eq_getElem?_getD,List.getElem?_eq_none (by omega:ds.length≤i)]
   rw[this]
   exact .ro _ _ (.junk _)
 have fin: ∀(st1:St) (a':Act) (w':World) (β':Nat→Option Value),resD X.P st1 fn.results.toList (fun d=>EF d st1 fun d st1=>EM a.tmps.toList objs.length nt d K st1)→Rel X st1 β' a' w'→
  a'.defers=[]∧ ∃v,(results fn a'.tmps).run X.P w'= .ok v w'∧ ∃v' d st' β',Ending.returned v= .returned v'∧Rel X st' β' a w'∧Rep (FX X st' β' w') β' w' v' d∧K d st':=by
  intro st1 a' w' β' hk hr1
  obtain⟨d,hd,hres⟩:=resD_out hk
  obtain⟨v,hv,KC⟩:=hres β' a' w' hr1
  obtain⟨d,st1,β',hd,hr1,KC⟩:=ag0 hd hr1 KC
  obtain⟨ahq,nt1,ahK,g1,ahL⟩:=st1
  simp only[EM] at hd
  split at hd
  ·rename_i vs' e hob
   obtain⟨hvs,hk2⟩:=vg.out hd
   subst hvs
   obtain⟨hp1,hp2⟩:=hr1.afR (n:=objs.length) (nt:=nt) (a0:=a) (e:=e) hob hr.defers hr.size
   exact⟨hr1.defers,v,hv,v,d,_,β',rfl,hp1,hp2 v d KC,zD hk2⟩
  ·exact hd.elim
 refine Code.wp_mono ?_ (awp_sound X c _ _ (h a.tmps.toList) _ _ w hrel)
 intro e a' w' hq
 cases e with
 |normal=>obtain⟨st,β',hk,hr⟩:=hq;exact fin st a' w' β' hk hr
 |ret=>obtain⟨st,β',hk,hr⟩:=hq;exact fin st a' w' β' hk hr
 |exit i=>obtain⟨st,β',hk,hr⟩:=hq;exact hk.elim
 |goto l=>exact hq.elim
 |panic c=>exact hq.elim
 |outgrown=>exact hq.elim
def Gm(ids:List Nat)(e:List (Nat×D)):List (Nat×D)→Prop
 |[]=>True
 |(k,d)::r=>d=rD ids (look e k)∧Gm ids e r
theorem Md{ids:List Nat}{e:List (Nat×D)} : ∀ {e':List (Nat×D)},Gm ids e e'→ ∀i,look e' i= .junk∨look e' i=rD ids (look e i)
 |[],_,_=> .inl rfl
 |(k,d)::r,h,i=>by
  simp only[look]
  cases hb:Nat.beq i k with
  |true=>
   have:=Nat.eq_of_beq_eq_true hb
   subst this
   exact .inr h.1
  |false=>exact Md h.2 i
def Ed(ids:List Nat):Obj→Obj→Prop
 | .dead, .dead=>True
 | .row e s es, .row e' s' es'=>e=e'∧s=s'∧es=es'
 | .box cs, .box cs'=>cs=cs'.map (out1 ids)
 | .frame vs e, .frame vs' e'=>vs=vs'∧Gm ids e' e
 | .blk e s cs c, .blk e' s' cs' c'=>e=e'∧s=s'∧cs=cs'∧c=c'
 | .raw e s es, .raw e' s' es'=>e=e'∧s=s'∧es=es'
 | .map P k e n f, .map P' k' e' n' f'=>P=P'∧k=k'∧e=e'∧n=n'∧f=f'
 |_,_=>False
def Me(ids:List Nat)(objs:List Obj):List Nat→List Obj→Prop
 |[],[]=>True
 |i::r,ob::l=>Ed ids ob (objs.getD i .dead)∧Me ids objs r l
 |_,_=>False
theorem UQ{ids:List Nat}{objs:List Obj} : ∀ {is:List Nat} {l:List Obj},Me ids objs is l→l.length=is.length∧ ∀k o,is[k]? =some o→Ed ids (l.getD k .dead) (objs.getD o .dead)
 |[],[],_=>⟨rfl,fun k o h=>by simp at h⟩
 |i::r,ob::l,h=>by
  obtain⟨h1,h2⟩:=UQ h.2
  refine⟨by simp[h1],fun k o hk=> ?_⟩
  cases k with
  |zero=>
   have:i=o:=by simpa using hk
   subst this
   exact h.1
  |succ k=>
   have:=h2 k o (by simpa using hk)
   simpa[List.getD_eq_getElem?_getD] using this
 |[],_::_,h=>h.elim
 |_::_,[],h=>h.elim
theorem afL(ids:List Nat):out1 ids .junk= .junk:=rfl
theorem zH{env env':List (Nat×D)}{nt:Nat}{objs jd:List Obj}{g:Nat→Option (List D)}{pin:Nat}(ids:List Nat)
 (hB:(nodupB ids&&ids.all (fun o=>Nat.blt o objs.length)&&Nat.ble pin ids.length&&(List.range pin).all (fun k=>ids[k]? ==some k))=true)
 (ho:Me ids objs ids jd)(he:Gm ids env env'):Weak ⟨env,nt,objs,g,pin⟩ ⟨env',nt,jd,g,pin⟩:=by
 intro X β a w h
 simp only[Bool.and_eq_true] at hB
 obtain⟨⟨⟨h1,h2⟩,h3⟩,h4⟩:=hB
 have h3:pin≤ids.length:=by simpa using h3
 obtain⟨hol,hog⟩:=UQ ho
 let st:St:=⟨env,nt,objs,g,pin⟩
 let st':St:=⟨env',nt,jd,g,pin⟩
 let β':Nat→Option Value:=fun k=>match ids[k]? with
  |some o=>β o
  |none=>none
 have hn:st'.n=ids.length:=hol
 have iO: ∀(k:Nat) (x:Value),β' k=some x→ ∃o:Nat,ids[k]? =some o∧β o=some x:=by
  intro k x hx
  simp only[β'] at hx
  cases hk:ids[k]? with
  |none=>rw[hk] at hx;cases hx
  |some o=>rw[hk] at hx;exact⟨o,rfl,hx⟩
 have nP: ∀(o k:Nat) (x:Value),ids[k]? =some o→β o=some x→β' k=some x:=by
  intro o k x hk hx
  simp only[β',hk]
  exact hx
 have DJ: ∀k o:Nat,ids[k]? =some o→((st'.obj k).live↔(st.obj o).live):=by
  intro k o hk
  have:=hog k o hk
  have e1:st'.obj k=jd.getD k .dead:=rfl
  have e2:st.obj o=objs.getD o .dead:=rfl
  rw[e1,e2]
  revert this
  cases jd.getD k .dead<;>cases objs.getD o .dead<;>simp[Ed,Obj.live]
 have hF: ∀b,FX X st β w b→FX X st' β' w b∧w.heap[b]? =w.heap[b]? :=by
  intro b hb
  refine⟨⟨hb.1,hb.2.1,fun k _ _ x hx=> ?_⟩,rfl⟩
  obtain⟨o,_,ho⟩:=iO k x hx
  exact hb.2.2 o (h.dom o x ho).1 (h.dom o x ho).2 x ho
 have hown: ∀ob' ob x,Ed ids ob' ob→Own (FX X st β w) β w ob x→Own (FX X st' β' w) β' w ob' x:=by
  intro ob' ob x nN hw
  cases ob'<;>cases ob<;>simp only[Ed] at nN
  ·trivial
  ·obtain⟨rfl,rfl,rfl⟩:=nN
   exact Own.rE (o:= .row _ _ _) hF trivial (fun _ _=>rfl) hw
  ·subst nN
   obtain⟨b,c,T,rfl,hg,hs,h1,hr⟩:=hw
   refine⟨b,c,T,rfl,hg,by simp[hs],h1,fun j hj=> ?_⟩
   rw[gy _ (afL ids)]
   exact(hr j qP).L9 nP (fun v d h=>h.mono hF)
  ·obtain⟨rfl,hoe⟩:=nN
   obtain⟨rfl,hr⟩:=hw
   refine⟨rfl,fun i=> ?_⟩
   rcases Md hoe i with e|e
   ·rw[e];exact .ro _ _ (.junk _)
   ·rw[e];exact(hr i).Mc nP (fun v d h=>h.mono hF)
  ·obtain⟨rfl,rfl,rfl,rfl⟩:=nN
   obtain⟨g,cur,h1,hg,h2,h3,h4,h5,h6⟩:=hw
   exact⟨g,cur,h1,hg,h2,h3,h4,h5,fun i j hi hj=>⟨(h6 i j hi hj).1,(h6 i j hi hj).2.mono hF⟩⟩
  ·obtain⟨rfl,rfl,rfl⟩:=nN
   obtain⟨g,cap,cur,m,h1,hg,h2,h3,h4,h5,h6⟩:=hw
   exact⟨g,cap,cur,m,h1,hg,h2,h3,h4,h5,fun i j hi hj=>⟨(h6 i j hi hj).1,(h6 i j hi hj).2.mono hF⟩⟩
  ·obtain⟨rfl,rfl,rfl,rfl,rfl⟩:=nN
   exact hw
 refine⟨β',h.defers,h.size,fun i=> ?_,fun k x hx=> ?_,fun k hk hl=> ?_,fun k k' x x' b hx hx' hb hb'=> ?_,fun k x b hx hb=> ?_,h.kept,fun g cs hg=>(h.glob g cs hg).mono hF,fun k hk=> ?_,by rw[hn];exact h3⟩
 ·rcases Md he i with e|e
  ·show Rep _ β' w _ (look env' i)
   rw[e];exact .ro _ _ (.junk _)
  ·show Rep _ β' w _ (look env' i)
   rw[e];exact(h.tmps i).Mc nP (fun v d h=>h.mono hF)
 ·obtain⟨o,hk,ho⟩:=iO k x hx
  refine⟨?_,(DJ k o hk).2 (h.dom o x ho).2⟩
  show k<st'.n
  rw[hn]
  exact(List.getElem?_eq_some_iff.1 hk).1
 ·have hk0:k<ids.length:=by rw[←hn];exact hk
  have hk':ids[k]? =some ids[k]:=List.getElem?_eq_getElem hk0
  have hl':=(DJ k _ hk').1 hl
  have hlt:ids[k]<st.n:=by
   have:=List.all_eq_true.1 h2 ids[k] (List.getElem_mem hk0)
   show ids[k]<objs.length
   simpa[Nat.blt_eq] using this
  obtain⟨x,hx,hw⟩:=h.own _ hlt hl'
  exact⟨x,nP _ k x hk' hx,hown _ _ x (hog k _ hk') hw⟩
 ·obtain⟨o,hk,ho⟩:=iO k x hx
  obtain⟨o',hk',ho'⟩:=iO k' x' hx'
  have:=h.sep o o' x x' b ho ho' hb hb'
  subst this
  exact D7 h1 k k' o hk hk'
 ·obtain⟨o,hk,ho⟩:=iO k x hx
  exact h.low o x b ho hb
 ·have hk':k<pin:=hk
  have:=List.all_eq_true.1 h4 k (List.mem_range.2 hk')
  have hkk:ids[k]? =some k:=by simpa using this
  simp only[β',hkk]
  exact h.stay k hk'
theorem yA{env:List (Nat×D)}{nt:Nat}{objs:List Obj}{g:Nat→Option (List D)}{pin:Nat}(t:Nat)(e:TypeId)(s:Nat)(ht:look env t= .v (.slice none 0 0))(hn:Nat.blt t nt=true):
 Weak ⟨env,nt,objs,g,pin⟩ ⟨(t, .h objs.length)::env,nt,objs++[.row e s []],g,pin⟩:=by
 intro X β a w h
 let st:St:=⟨env,nt,objs,g,pin⟩
 have h1:Rel X (st.push (.row e s [])) (dY β st.n (.slice none 0 0)) a w:=by
  refine h.zu (grownBy_refl w) (fun b hb=>by simp[blk] at hb) (fun F' _=> ?_)
  exact⟨Nat.zero_le _,fun i hi=>by simp at hi,[],⟨by simp, .inl ⟨rfl,rfl⟩⟩,fun u hu=>by simp at hu,fun i j hi=>by simp at hi⟩
 have h2:Rel X st β a w:=h
 have hv:=h2.tmps t
 rw[show look st.env t= .v (.slice none 0 0) from ht] at hv
 have hv:=hv.kZ
 have h3:=h1.put (some t) (v:= .slice none 0 0) (d:= .h st.n) (.h _ _ (by simp[dY]))
 refine⟨dY β st.n (.slice none 0 0),?_⟩
 have e1:a.put (some t) (.slice none 0 0)=a:=by
  unfold Act.put
  have:a.tmps.setIfInBounds t (.slice none 0 0)=a.tmps:=by
   apply Array.ext fB
   intro i h1 h2
   rw[Array.getElem_setIfInBounds]
   split
   ·rename_i e
    subst e
    rw[←hv]
    simp[Array.getD_eq_getD_getElem?,h2]
   ·rfl
  simp only[this]
 rw[e1] at h3
 have e2:(st.push (.row e s [])).put (some t) (.h st.n)=⟨(t, .h objs.length)::env,nt,objs++[.row e s []],g,pin⟩:=by
  simp only[St.put,St.push,st,hn,cond_true]
  rfl
 rw[e2] at h3
 exact h3
end Go.Eng
namespace Go.Eng
open Go Go.RowKit
theorem zi(a:List UInt8):Op.bytesLess a a=false:=by
 induction a with
 |nil=>rfl
 |cons c r ih=>simp[Op.bytesLess,ih]
theorem KZ: ∀ {a b:List UInt8},Op.bytesLess a b=false→a≠b→Op.bytesLess b a=true
 |[],[],_,h=>absurd rfl h
 |[],_::_,h,_=>by simp[Op.bytesLess] at h
 |_::_,[],_,_=>by simp[Op.bytesLess]
 |a::x,b::y,h,hn=>by
  simp only[Op.bytesLess,Bool.or_eq_false_iff,decide_eq_false_iff_not,Bool.and_eq_false_iff,beq_eq_false_iff_ne] at h
  simp only[Op.bytesLess,Bool.or_eq_true,decide_eq_true_eq,Bool.and_eq_true,beq_iff_eq]
  by_cases e:a=b
  ·subst e
   refine .inr ⟨rfl,KZ (h.2.resolve_left (fun h=>h rfl)) (fun e=>hn (by rw[e]))⟩
  ·rcases UInt8.lt_or_lt_of_ne e with h1|h1
   ·exact absurd h1 h.1
   ·exact .inl h1
theorem DU: ∀ {a b c:List UInt8},Op.bytesLess a b=true→Op.bytesLess b c=true→Op.bytesLess a c=true
 |_,[],_,h,_=>by cases h':(‹List UInt8›:List UInt8)<;>simp_all[Op.bytesLess]
 |[],_::_,[],_,h=>by simp[Op.bytesLess] at h
 |[],_::_,_::_,_,_=>by simp[Op.bytesLess]
 |_::_,_::_,[],_,h=>by simp[Op.bytesLess] at h
 |a::x,b::y,c::z,h,k=>by
  simp only[Op.bytesLess,Bool.or_eq_true,decide_eq_true_eq,Bool.and_eq_true,beq_iff_eq] at h k⊢
  rcases h with h|⟨rfl,h⟩<;>rcases k with k|⟨rfl,k⟩
  ·exact .inl (UInt8.lt_trans h k)
  ·exact .inl h
  ·exact .inl k
  ·exact .inr ⟨rfl,DU h k⟩
end Go.Eng
namespace Go.Eng
open Go Go.RowKit
def chain{α:Type}(lt:α→α→Bool):List α→Bool
 |x::y::r=>lt x y&&chain lt (y::r)
 |_=>true
def jG{α:Type}(p:α→Bool)(lt:α→α→Bool)(a:List α):Bool:=a.all p&&chain lt a
def jT{α:Type}(p:α→Bool)(lt:α→α→Bool)(a:List α)(k:Nat):Prop:= ∀j x,j<k→a[j]? =some x→p x=true∧ ∀i y,i+1=j→a[i]? =some y→lt y x=true
theorem Ac{α:Type}{lt:α→α→Bool} : ∀ {l:List α},chain lt l=true↔ ∀j x y,l[j]? =some x→l[j+1]? =some y→lt x y=true
 |[]=>by simp[chain]
 |[a]=>by
  simp only[chain,true_iff]
  intro j x y _ h
  simp at h
 |a::b::r=>by
  simp only[chain,Bool.and_eq_true]
  rw[Ac (l:=b::r)]
  constructor
  ·rintro⟨h1,h2⟩ j x y hx hy
   cases j with
   |zero=>
    simp at hx hy
    subst hx hy
    exact h1
   |succ j=>exact h2 j x y EL (by simpa using hy)
  ·intro h
   exact⟨h 0 a b rfl rfl,fun j x y hx hy=>h (j+1) x y EL (by simpa using hy)⟩
theorem ng{α:Type}{p:α→Bool}{lt:α→α→Bool}{a:List α} :jT p lt a 0:=fun _ _ h=>absurd h (Nat.not_lt_zero _)
theorem mZ{α:Type}{p:α→Bool}{lt:α→α→Bool}{a:List α}{k:Nat}{x:α}(h:jT p lt a k)(hx:a[k]? =some x)(hp:p x=true)(hl: ∀i y,i+1=k→a[i]? =some y→lt y x=true):jT p lt a (k+1):=by
 intro j y hj hy
 by_cases e:j=k
 ·subst e
  rw[hx] at hy
  cases hy
  exact⟨hp,hl⟩
 ·exact h j y ah hy
theorem iF{α:Type}{p:α→Bool}{lt:α→α→Bool}{a:List α}{k:Nat}(h:jT p lt a k)(hk:a.length≤k):jG p lt a=true:=by
 simp only[jG,Bool.and_eq_true,List.all_eq_true,Ac]
 refine⟨fun x hx=> ?_,fun j x y hx hy=> ?_⟩
 ·obtain⟨j,hj⟩:=List.mem_iff_getElem?.1 hx
  exact(h j x (by have:=(List.getElem?_eq_some_iff.1 hj).1;omega) hj).1
 ·exact(h (j+1) y (by have:=(List.getElem?_eq_some_iff.1 hy).1;omega) hy).2 j x rfl hx
theorem mW{α:Type}{p:α→Bool}{lt:α→α→Bool}{a:List α}{k:Nat}{x:α}(hx:a[k]? =some x)(hp:p x=false):jG p lt a=false:=by
 rw[jG,Cm hx hp]
 rfl
theorem mX{α:Type}{p:α→Bool}{lt:α→α→Bool}{a:List α}{k i:Nat}{x y:α}(hx:a[k]? =some x)(hi:i+1=k)(hy:a[i]? =some y)(hl:lt y x=false):jG p lt a=false:=by
 cases h:jG p lt a with
 |false=>rfl
 |true=>
  simp only[jG,Bool.and_eq_true,Ac] at h
  have:=h.2 i y x hy (by rw[hi];exact hx)
  rw[hl] at this
  cases this
theorem AP{α:Type}{p:α→Bool}{lt:α→α→Bool}{a:List α}(h:jG p lt a=true){k:Nat}{x:α}(hx:a[k]? =some x):p x=true:=by
 simp only[jG,Bool.and_eq_true,List.all_eq_true] at h
 exact h.1 x (List.mem_of_getElem? hx)
theorem Je{α:Type}{lt:α→α→Bool}(ht: ∀ {x y z},lt x y=true→lt y z=true→lt x z=true){a:List α}(h:chain lt a=true): ∀ {j i:Nat} {x y:α},i<j→a[i]? =some x→a[j]? =some y→lt x y=true:=by
 rw[Ac] at h
 intro j
 induction j with
 |zero=>intro i x y hi;omega
 |succ j ih=>
  intro i x y hi hx hy
  by_cases e:i=j
  ·subst e
   exact h i x y hx hy
  ·have hlt:j<a.length:=by have:=(List.getElem?_eq_some_iff.1 hy).1;omega
   have hm:a[j]? =some a[j]:=List.getElem?_eq_getElem hlt
   exact ht (ih ah hx hm) (h j _ y hm hy)
def firstAt{α:Type}(q:α→Bool):List α→Nat
 |[]=>0
 |x::r=>if q x=true then 0 else firstAt q r+1
theorem JI{α:Type}(q:α→Bool): ∀(a:List α),firstAt q a≤a.length
 |[]=>Nat.le_refl _
 |x::r=>by
  unfold firstAt
  split
  ·exact Nat.zero_le _
  ·have:=JI q r;simp;omega
theorem JH{α:Type}{q:α→Bool} : ∀ {a:List α} {k:Nat},k≤a.length→(∀j x,j<k→a[j]? =some x→q x=false)→(∀x,a[k]? =some x→q x=true)→firstAt q a=k
 |[],k,hk,_,_=>by simp at hk;subst hk;rfl
 |x::r,0,_,_,h=>by unfold firstAt;rw[if_pos (h x rfl)]
 |x::r,k+1,hk,h1,h2=>by
  unfold firstAt
  rw[if_neg (by rw[h1 0 x (Nat.zero_lt_succ _) rfl];simp),JH (k:=k) (by simpa using hk) (fun j y hj hy=>h1 (j+1) y ah hy) (fun y hy=>h2 y hy)]
theorem xK{α:Type}(q:α→Bool): ∀(a:List α),(∀j x,j<firstAt q a→a[j]? =some x→q x=false)∧(∀x,a[firstAt q a]? =some x→q x=true)
 |[]=>⟨fun j x h=>absurd h (Nat.not_lt_zero _),fun x h=>by simp at h⟩
 |y::r=>by
  obtain⟨h1,h2⟩:=xK q r
  unfold firstAt
  by_cases hq:q y=true
  ·rw[if_pos hq]
   exact⟨fun j x h=>absurd h (Nat.not_lt_zero _),fun x hx=>by simp at hx;subst hx;exact hq⟩
  ·rw[if_neg hq]
   refine⟨fun j x hj hx=> ?_,fun x hx=>h2 x EL⟩
   cases j with
   |zero=>simp at hx;subst hx;simpa using hq
   |succ j=>exact h1 j x ah EL
def jB{α:Type}(q:α→Bool)(a:List α)(k:Nat):Prop:= ∀j x,j<k→a[j]? =some x→q x=false
theorem qE{α:Type}{q:α→Bool}{a:List α} :jB q a 0:=fun _ _ h=>absurd h (Nat.not_lt_zero _)
theorem qC{α:Type}{q:α→Bool}{a:List α}{k:Nat}{x:α}(h:jB q a k)(hx:a[k]? =some x)(hp:q x=false):jB q a (k+1):=by
 intro j y hj hy
 by_cases e:j=k
 ·subst e
  rw[hx] at hy
  cases hy
  exact hp
 ·exact h j y ah hy
theorem Dw{α:Type}{q:α→Bool}{a:List α}{k:Nat}{x:α}(h:jB q a k)(hx:a[k]? =some x)(hq:q x=true):firstAt q a=k:=
 JH (by have:=(List.getElem?_eq_some_iff.1 hx).1;omega) h (fun y hy=>by rw[hx] at hy;cases hy;exact hq)
theorem JJ{α:Type}{q:α→Bool}{a:List α}{k:Nat}(h:jB q a k)(hk:a.length≤k):firstAt q a=a.length:=
 JH (Nat.le_refl _) (fun j x hj hx=>h j x ah hx) (fun x hx=>by simp at hx)
theorem aJ.at{α:Type}{enc:α→List D}{l:List α}{i:Int}{K:List D→Prop}(h:0≤i∧i<l.length)(hk: ∀(j:Nat) x,(j:Int)=i→l[j]? =some x→K (enc x)):aJ (l.map enc) i K:=by
 obtain⟨k,rfl⟩:=Int.eq_ofNat_of_zero_le h.1
 exact aJ.nat ah fun x hx=>hk k x rfl hx
theorem aW.at{i:Int}{n:Nat}{K:Nat→Prop}(h:0≤i∧i<n)(hk: ∀j:Nat,(j:Int)=i→K j):aW i n K:=by
 obtain⟨k,rfl⟩:=Int.eq_ofNat_of_zero_le h.1
 exact aW.nat ah (hk k rfl)
theorem iJ.at{l:List UInt8}{i:Int}{K:UInt8→Prop}(h:0≤i∧i<l.length)(hk: ∀(j:Nat) c,(j:Int)=i→l[j]? =some c→K c):iJ l i K:=by
 obtain⟨k,rfl⟩:=Int.eq_ofNat_of_zero_le h.1
 exact iJ.nat ah fun x hx=>hk k x rfl hx
theorem WW{st:St}{d:D}(h:cZ d=true):mD st d=d:=by cases d<;>first|rfl|cases h
theorem qK{st:St}{d:D}(h:noH d=true):wC st d=d:=by
 cases d with
 |agg cs=>
  show D.agg (cs.map (mD st))= .agg cs
  have hc:cs.all cZ=true:=h
  rw[show cs.map (mD st)=cs from by
   conv=>rhs;rw[←List.map_id cs]
   exact List.map_congr_left fun c hm=>WW (List.all_eq_true.1 hc c hm)]
 |clo f cs=>
  show D.clo f (cs.map (mD st))= .clo f cs
  have hc:cs.all cZ=true:=h
  rw[show cs.map (mD st)=cs from by
   conv=>rhs;rw[←List.map_id cs]
   exact List.map_congr_left fun c hm=>WW (List.all_eq_true.1 hc c hm)]
 |_=>first|rfl|cases h
theorem aha{st:St}{d:D}(h:AX d=true):view st d=d:=by
 cases d with
 |aN ds=>
  have hc:ds.all noH=true:=h
  show D.aN (ds.map (wC st))= .aN ds
  rw[show ds.map (wC st)=ds from by
   conv=>rhs;rw[←List.map_id ds]
   exact List.map_congr_left fun c hm=>qK (List.all_eq_true.1 hc c hm)]
 |junk=>rfl
 |int k n=>exact qK (st:=st) (d:= .int k n) h
 |bool b=>exact qK (st:=st) (d:= .bool b) h
 |str l=>exact qK (st:=st) (d:= .str l) h
 |v x=>exact qK (st:=st) (d:= .v x) h
 |agg cs=>exact qK (st:=st) (d:= .agg cs) h
 |sl s es=>exact qK (st:=st) (d:= .sl s es) h
 |rp cs=>exact qK (st:=st) (d:= .rp cs) h
 |h o=>exact qK (st:=st) (d:= .h o) h
 |hp o k=>exact qK (st:=st) (d:= .hp o k) h
 |hr o s i k=>exact qK (st:=st) (d:= .hr o s i k) h
 |hs o s a b=>exact qK (st:=st) (d:= .hs o s a b) h
 |clo f cs=>exact qK (st:=st) (d:= .clo f cs) h
theorem XB{α:Type}{a:List α}{q:α→Bool}{k:Nat}(h:(a[k]?).any q=true):k<a.length:=by
 rcases Nat.lt_or_ge k a.length with h1|h1
 ·exact h1
 ·rw[List.getElem?_eq_none h1] at h;cases h
theorem aT{X:Ctx}{f:FuncId}{ds:List D}{st:St}{K:D→Prop}{d:D}(hc:ak X.P f st.g 0 [] ds (fun d' os=>d'=d∧os=[]))(hn:ds.all noH=true)(hd:AX d=true)(hk:K d):kQ X f ds st K:=
 ku d hc hn (by rintro d' os ⟨rfl,rfl⟩;exact aha hd) hk
theorem lu{X:Ctx}{f:FuncId}{ds:List D}{st:St}{K:D→Prop}{d:D}(hc:ak X.P f st.g 0 [] (ds.map (view st)) (fun d' os=>d'=d∧os=[]))(hb:bare d=true)(hk:K d):kQ X f ds st K:=
 abX d hc (by rintro d' os ⟨rfl,rfl⟩;rfl) hb hk
theorem AU{X:Ctx}{b:Code}{Q:DExit→St→Prop}{lU:List (Nat×D)}{nt:Nat}{lX:List Obj}{g:Nat→Option (List D)}{pin:Nat}{γ δ:Type}
 (E:γ→δ→List (Nat×D))(O:γ→δ→List Obj)(inv:γ→δ→Prop)(μ:γ→δ→Nat)(g0:γ)(d0:δ)(h0:inv g0 d0)(hw:Weak ⟨lU,nt,lX,g,pin⟩ ⟨E g0 d0,nt,O g0 d0,g,pin⟩)
 (round: ∀k l,inv k l→ ∀Q':DExit→St→Prop,(∀st',(∃k' l',inv k' l'∧μ k' l'<μ k l∧Weak st' ⟨E k' l',nt,O k' l',g,pin⟩)→Q' .normal st')→(∀i st',Q (.exit i) st'→Q' (.exit i) st')→
   (∀st',Q .ret st'→Q' .ret st')→awp X b Q' ⟨E k l,nt,O k l,g,pin⟩):iP X (.loop b) Q ⟨lU,nt,lX,g,pin⟩:=
 aQ (γ:=γ×δ) (fun x=>E x.1 x.2) (fun x=>O x.1 x.2) (fun x=>inv x.1 x.2) (fun x=>μ x.1 x.2) (g0,d0) h0 hw
  (fun x hx Q' hn he hr=>round x.1 x.2 hx Q' (fun st' ⟨k',l',h1,h2,h3⟩=>hn st' ⟨(k',l'),h1,h2,h3⟩) he hr)
theorem qY{X:Ctx}{b:Code}{Q:DExit→St→Prop}{lU:List (Nat×D)}{nt:Nat}{lX:List Obj}{g:Nat→Option (List D)}{pin:Nat}{γ δ ε:Type}
 (E:γ→δ→ε→List (Nat×D))(O:γ→δ→ε→List Obj)(inv:γ→δ→ε→Prop)(μ:γ→δ→ε→Nat)(g0:γ)(d0:δ)(e0:ε)(h0:inv g0 d0 e0)(hw:Weak ⟨lU,nt,lX,g,pin⟩ ⟨E g0 d0 e0,nt,O g0 d0 e0,g,pin⟩)
 (round: ∀k l m,inv k l m→ ∀Q':DExit→St→Prop,(∀st',(∃k' l' m',inv k' l' m'∧μ k' l' m'<μ k l m∧Weak st' ⟨E k' l' m',nt,O k' l' m',g,pin⟩)→Q' .normal st')→(∀i st',Q (.exit i) st'→Q' (.exit i) st')→
   (∀st',Q .ret st'→Q' .ret st')→awp X b Q' ⟨E k l m,nt,O k l m,g,pin⟩):iP X (.loop b) Q ⟨lU,nt,lX,g,pin⟩:=
 aQ (γ:=γ×δ×ε) (fun x=>E x.1 x.2.1 x.2.2) (fun x=>O x.1 x.2.1 x.2.2) (fun x=>inv x.1 x.2.1 x.2.2) (fun x=>μ x.1 x.2.1 x.2.2) (g0,d0,e0) h0 hw
  (fun x hx Q' hn he hr=>round x.1 x.2.1 x.2.2 hx Q' (fun st' ⟨k',l',m',h1,h2,h3⟩=>hn st' ⟨(k',l',m'),h1,h2,h3⟩) he hr)
end Go.Eng
namespace Go.Eng
open Go Go.RowKit
def yJ(s:Nat):D→D
 | .v (.slice none 0 0)=> .sl s []
 |d=>d
def CJ(s:Nat):D→D
 | .aN ds=> .aN (ds.map (yJ s))
 |d=>yJ s d
theorem Rep.yJ{F:Nat→Prop}{β:Nat→Option Value}{w:World}{v:Value}{d:D}{s:Nat}(h:Rep F β w v d):Rep F β w v (yJ s d):=by
 unfold Eng.yJ
 split
 ·rw[h.kZ]
  exact .ro _ _ (.slnil _ _ _)
 ·exact h
theorem Rep.CJ{F:Nat→Prop}{β:Nat→Option Value}{w:World}{v:Value}{d:D}{s:Nat}(h:Rep F β w v d):Rep F β w v (CJ s d):=by
 unfold Eng.CJ
 split
 ·obtain⟨cs,rfl,hl,hr⟩:=h.pz
  refine .aN _ _ jY (fun i hi=> ?_)
  rw[gy _ rfl]
  exact(hr i iI).yJ
 ·exact h.yJ
theorem Vz{X:Ctx}{G:Nat→Option (List D)}{pin:Nat}{st:St}{d:D}{post:D→List Obj→Prop}(s:Nat)(h:gI X G pin st (CJ s d) post):gI X G pin st d post:=
 gI.mk fun β a w v hr hv=>h.use β a w v hr hv.CJ
theorem ahM{X:Ctx}{G:Nat→Option (List D)}{pin:Nat}{st:St}{post:D→List Obj→Prop}(e:TypeId)(s:Nat)(h:gI X G pin (st.push (.row e s [])) (.h st.n) post):gI X G pin st (.v (.slice none 0 0)) post:=by
 refine gI.mk fun β a w v hr hv=> ?_
 have h1:Rel X (st.push (.row e s [])) (dY β st.n (.slice none 0 0)) a w:=by
  refine hr.zu (grownBy_refl w) (fun b hb=>by simp[blk] at hb) (fun F' _=> ?_)
  exact⟨Nat.zero_le _,fun i hi=>by simp at hi,[],⟨by simp, .inl ⟨rfl,rfl⟩⟩,fun u hu=>by simp at hu,fun i j hi=>by simp at hi⟩
 rw[hv.kZ]
 exact h.use _ a w _ h1 (zx hr (.row e s []) _ _ _)
theorem jP{P:Program}{w0:World}{F0 lent:Nat→Prop}{β0:Nat→Option Value}{env:List (Nat×D)}{nt:Nat}{objs:List Obj}{g:Nat→Option (List D)}{pin:Nat}{f:FuncId}{ds:List D}{K:D→St→Prop}{d:D}{oo:List Obj}{n:Nat}
 (hc:ak P f g 0 [] ds (fun d' os=>d'=d∧os=oo))(hn:ds.all noH=true)(hl:objs.length=n)(hk:K (ren (n+ ·) d) ⟨env,nt,objs++oo,g,pin⟩):CallS ⟨P,w0,F0,lent,β0⟩ f ds ⟨env,nt,objs,g,pin⟩ K:=by
 subst hl
 refine Fb (X:=⟨P,w0,F0,lent,β0⟩) hc hn ?_
 rintro d' os ⟨rfl,rfl⟩
 exact hk
theorem oq{P:Program}{w0:World}{F0 lent:Nat→Prop}{β0:Nat→Option Value}{env:List (Nat×D)}{nt:Nat}{objs:List Obj}{g:Nat→Option (List D)}{pin:Nat}{f:FuncId}{ds:List D}{K:D→St→Prop}{d:D}{oo:List Obj}{n:Nat}
 (hc:ak P f g 0 [] (ds.map (view ⟨env,nt,objs,g,pin⟩)) (fun d' os=>d'=d∧os=oo))(hd:flat d=true)(hf: ∀o∈oo,iV o)(hl:objs.length=n)(hk:K (ren (n+ ·) d) ⟨env,nt,objs++oo,g,pin⟩):
 CallS ⟨P,w0,F0,lent,β0⟩ f ds ⟨env,nt,objs,g,pin⟩ K:=by
 subst hl
 refine P5 (X:=⟨P,w0,F0,lent,β0⟩) hc ?_
 rintro d' os ⟨rfl,rfl⟩
 exact⟨hd,hf,hk⟩
theorem oM{o:Obj}(h:iV o): ∀p∈[o],iV p:=by
 intro p hp
 rw[List.mem_singleton.1 hp]
 exact h
theorem Q9: ∀p∈([]:List Obj),iV p:=fun _ h=>(by cases h)
theorem dD.one{α:Type}{x:α}{K:Int→Prop}(h:K 1):dD [x].length K:=dD.mk fun _=>h
theorem dD.nil{α:Type}{K:Int→Prop}(h:K 0):dD ([]:List α).length K:=dD.mk fun _=>h
theorem bZ.app{n b:Nat}{K:Prop}(hb:Nat.ble b 65536=true)(hn:n≤1073741824)(hk:K):bZ (n*b≤140737488355328) K:=by
 refine bZ.mk ⟨?_,hk⟩
 have hb:b≤65536:=by simpa using hb
 calc n*b≤1073741824*65536:=Nat.mul_le_mul hn hb
  _≤140737488355328:=by decide
end Go.Eng
namespace Go.Eng
open Go Go.RowKit
theorem Rep.VG{F:Nat→Prop}{w:World}{v:Value}{d:D}(h:Rep F (fun _=>none) w v d):RO F w v d:=by
 induction h with
 |ro x d h=>exact h
 |h o x h=>cases h
 |hp o off b x h hb=>cases h
 |hr o s i off b x h hb=>cases h
 |hs o s a b x v h hv=>cases h
 |agg cs ds hl h1 _ ih=>exact .agg cs ds hl h1 ih
 |aN cs ds hl _ ih=>exact .aN cs ds hl ih
 |clo f cs ds hl _ ih=>exact .clo f cs ds hl ih
theorem ak.LH{P:Program}{f:FuncId}{G:Nat→Option (List D)}{ds:List D}{d:D}(hok:FnOK P f)
 (h: ∀(w:World) (F:Nat→Prop) (vs:List Value),(∀b,F b→b<w.heap.size)→vs.length=ds.length→(∀i,i<ds.length→RO F w (vs.getD i undef) (ds.getD i .junk))→(∀g cs,G g=some cs→nY F w g cs)→
   Calls P f vs.toArray w fun e w'=> ∃v,e= .returned v∧w.grownBy w' none∧RO (fun b=>F b∨(w.heap.size≤b∧b<w'.heap.size)) w' v d):ak P f G 0 [] ds (fun d' os=>d'=d∧os=[]):=by
 refine⟨hok,fun X β w vs hP hw0 hβ0 hW hl hrep=> ?_⟩
 have hβ:β=fun _=>none:=by
  funext o
  cases ho:β o with
  |none=>rfl
  |some x=>exact absurd (hW.dom o x ho).1 lM
 subst hβ
 refine(h w (FX X (stOf [] G 0) (fun _=>none) w) vs (fun b hb=>hb.1) hl (fun i hi=>(hrep i hi).VG) (fun g cs hg=>hW.glob g cs hg)).mono ?_
 rintro e w' ⟨v,rfl,hg,hv⟩
 have hF: ∀b,FX X (stOf [] G 0) (fun _=>none) w b→FX X (stOf [] G 0) (fun _=>none) w' b∧w'.heap[b]? =w.heap[b]? :=fun b hb=>
  ⟨⟨Nat.lt_of_lt_of_le hb.1 hg.size,hb.2.1,hb.2.2⟩,hg.block b hb.1 fB⟩
 refine⟨v,d,[],fun _=>none,rfl,⟨fun o x hx=>jX,fun o ho=>absurd ho lM,fun o o' x x' b hx=>jX,fun o x b hx=>jX,?_,fun g cs hgl=>(hW.glob g cs hgl).mono hF,fun o ho=>absurd ho wE,Nat.zero_le _⟩,
  .ro _ _ (hv.mono fun b hb=>⟨?_,rfl⟩),fun o ho=>(by cases ho),rfl,rfl⟩
 ·subst hw0
  exact⟨hg.os,hg.tape,hg.output,hg.size,fun k hk _=>hg.block k hk fB⟩
 ·rcases hb with hb|⟨h1,h2⟩
  ·exact(hF b hb).1
  ·exact⟨h2, .inr (.inl (by rw[hw0];exact h1)),fun o ho=>absurd ho lM⟩
theorem adz(w:World)(k:Nat)(os:Array Go.Obj):w.grownBy (Go.Sort.grow (w.drewN k) os) none:=by
 refine⟨rfl,rfl,rfl,?_,fun b hb _=> ?_⟩
 ·simp[Go.Sort.grow,World.drewN]
 ·simp only[Go.Sort.grow,World.drewN]
  rw[Array.getElem?_append_left hb]
theorem agT{P:Program}{F:Nat→Prop}{w:World}{name:String}{g:Nat}{k:IntKind}{zs:List Int}(hg:P.globalNamed name=some g)(h:nY F w g (zs.map fun z=> .int k z)):Lib.TabIs P w name k zs:=by
 obtain⟨hro,_,c,T,fr,hc,hl⟩:=h
 unfold Lib.TabIs
 simp only[World.var?,hg,Option.bind_some,hc]
 congr 1
 rw[List.length_map] at hl
 apply Array.ext
 ·simp[hl]
 ·intro i h1 h2
  obtain⟨b,off,cc,hv,hF,hcell,hr⟩:=hro.Gx
  simp only[Value.pointer.injEq,Option.some.injEq,Addr.mk.injEq] at hv
  obtain⟨rfl,rfl,_⟩:=hv
  have hi:i<(zs.map fun z=>D.int k z).length:=by simp;omega
  have e1:=(hcell i hi).1
  have e2:=hr i hi
  have hi':i<zs.length:=by omega
  have e3:(zs.map fun z=>D.int k z).getD i .junk= .int k zs[i]:=by simp[List.getD_eq_getElem?_getD,hi']
  rw[e3] at e2
  have e4:cc i= .int k zs[i]:=by
   generalize cc i=x at e2
   cases e2
   rfl
  rw[e4] at e1
  have e5:w.cell? ⟨g,0+i,none⟩=c[i]? :=by
   simp[World.cell?,hc]
  rw[e5,Array.getElem?_eq_getElem h1] at e1
  rw[Option.some.inj e1]
  simp
end Go.Eng
namespace Go.Eng
open Go Go.RowKit
end Go.Eng
namespace Go.Eng
open Go Go.RowKit
section
variable {α:Type} (lt:α→α→Bool) (bV:α→α→Bool)
def dN(a:List α)(t:α):Nat:=firstAt (fun b=> !lt b t) a
def qo(a:List α)(t:α):Bool:=(a[dN lt a t]?).any (bV t)
def mQ(a:List α)(t:α):Nat:=if qo lt bV a t=true then dN lt a t+1 else dN lt a t
def insL(a:List α)(t:α):List α:=a.take (dN lt a t)++t::a.drop (mQ lt bV a t)
def kS(a:List α)(t:α)(i:Nat):List α:=if i≤dN lt a t then a.take i else a.take (dN lt a t)++t::(a.take i).drop (mQ lt bV a t)
end
section
variable {α:Type} {lt:α→α→Bool} {bV:α→α→Bool}
theorem SN(a:List α)(t:α):dN lt a t≤a.length:=JI _ _
theorem KO{a:List α}{t:α}{j:Nat}{x:α}(hj:j<dN lt a t)(hx:a[j]? =some x):lt x t=true:=by
 have:=(xK (fun b=> !lt b t) a).1 j x hj hx
 simpa using this
theorem KN{a:List α}{t x:α}(hx:a[dN lt a t]? =some x):lt x t=false:=by
 have:=(xK (fun b=> !lt b t) a).2 x hx
 simpa using this
theorem KP{a:List α}{t:α}(h:qo lt bV a t=true):dN lt a t<a.length:=XB h
theorem DN(a:List α)(t:α):mQ lt bV a t≤a.length∧dN lt a t≤mQ lt bV a t∧mQ lt bV a t≤dN lt a t+1:=by
 have h1:=SN (lt:=lt) a t
 unfold mQ
 split
 ·rename_i h
  have:=KP h
  omega
 ·omega
theorem SS(a:List α)(t:α):(insL lt bV a t).length=if qo lt bV a t=true then a.length else a.length+1:=by
 have h1:=SN (lt:=lt) a t
 simp only[insL,List.length_append,List.length_take,List.length_cons,List.length_drop,mQ]
 split
 ·rename_i h
  have:=KP h
  omega
 ·omega
theorem aee{a:List α}{t x:α}(h:x∈insL lt bV a t):x=t∨x∈a:=by
 simp only[insL,List.mem_append,List.mem_cons] at h
 rcases h with h|h|h
 ·exact .inr (List.mem_of_mem_take h)
 ·exact .inl h
 ·exact .inr (List.mem_of_mem_drop h)
theorem Jd(ht: ∀ {x y z:α},lt x y=true→lt y z=true→lt x z=true){a:List α} :chain lt a=true↔a.Pairwise fun x y=>lt x y=true:=by
 constructor
 ·intro h
  rw[List.pairwise_iff_getElem]
  intro i j hi hj hij
  exact Je (lt:=lt) ht h hij (List.getElem?_eq_getElem hi) (List.getElem?_eq_getElem hj)
 ·intro h
  rw[Ac]
  intro j x y hx hy
  rw[List.pairwise_iff_getElem] at h
  obtain⟨h1,rfl⟩:=List.getElem?_eq_some_iff.1 hx
  obtain⟨h2,rfl⟩:=List.getElem?_eq_some_iff.1 hy
  exact h j (j+1) h1 h2 (Nat.lt_succ_self j)
theorem Tc(ht: ∀ {x y z:α},lt x y=true→lt y z=true→lt x z=true){a:List α}{t:α}(htot: ∀x,lt x t=false→bV t x=false→lt t x=true)(hcon: ∀x y,bV t x=true→lt x y=true→lt t y=true)
 (h:chain lt a=true){j:Nat}{y:α}(hj:mQ lt bV a t≤j)(hy:a[j]? =some y):lt t y=true:=by
 have hjl:=(List.getElem?_eq_some_iff.1 hy).1
 have hn:=DN (lt:=lt) (bV:=bV) a t
 have hk:dN lt a t<a.length:=by omega
 obtain⟨x,hx⟩: ∃x,a[dN lt a t]? =some x:=⟨_,List.getElem?_eq_getElem hk⟩
 have hlow:=KN hx
 cases hf:qo lt bV a t with
 |true=>
  have he:bV t x=true:=by rw[qo,hx] at hf;exact hf
  have hN:mQ lt bV a t=dN lt a t+1:=by rw[mQ,if_pos hf]
  exact hcon x y he (Je (lt:=lt) ht h ah hx hy)
 |false=>
  have he:bV t x=false:=by rw[qo,hx] at hf;exact hf
  have h1:=htot x hlow he
  by_cases e:dN lt a t=j
  ·rw[e] at hx
   rw[hy] at hx
   cases hx
   exact h1
  ·exact ht h1 (Je (lt:=lt) ht h ah hx hy)
theorem aed(ht: ∀ {x y z:α},lt x y=true→lt y z=true→lt x z=true){a:List α}{t:α}(htot: ∀x,lt x t=false→bV t x=false→lt t x=true)(hcon: ∀x y,bV t x=true→lt x y=true→lt t y=true)
 (h:chain lt a=true):chain lt (insL lt bV a t)=true:=by
 have hp:=(Jd (lt:=lt) ht).1 h
 rw[Jd (lt:=lt) ht]
 have hab: ∀y∈a.drop (mQ lt bV a t),lt t y=true:=by
  intro y hy
  obtain⟨m,hm⟩:=List.getElem?_of_mem hy
  rw[List.getElem?_drop] at hm
  exact Tc (lt:=lt) (bV:=bV) ht htot hcon h (Nat.le_add_right _ _) hm
 have hbe: ∀x∈a.take (dN lt a t),lt x t=true:=by
  intro x hx
  obtain⟨m,hm⟩:=List.getElem?_of_mem hx
  have hml:=(List.getElem?_eq_some_iff.1 hm).1
  rw[List.length_take] at hml
  rw[List.getElem?_take_of_lt ah] at hm
  exact KO ah hm
 rw[insL,List.pairwise_append]
 refine⟨hp.sublist (List.take_sublist _ _),List.pairwise_cons.2 ⟨hab,hp.sublist (List.drop_sublist _ _)⟩,fun x hx y hy=> ?_⟩
 rcases List.mem_cons.1 hy with rfl|hy
 ·exact hbe x hx
 ·exact ht (hbe x hx) (hab y hy)
theorem aeh(a:List α)(t:α):(if a.length≤dN lt a t then kS lt bV a t a.length++[t] else kS lt bV a t a.length)=insL lt bV a t:=by
 have hn:=DN (lt:=lt) (bV:=bV) a t
 unfold kS insL
 by_cases h:a.length≤dN lt a t
 ·have h1:dN lt a t=a.length:=by omega
  rw[if_pos h,if_pos h,h1,List.drop_eq_nil_of_le ah]
 ·rw[if_neg h,if_neg h,List.take_length]
theorem aej{a:List α}{t x:α}{i:Nat}(h:i<dN lt a t)(hx:a[i]? =some x):kS lt bV a t (i+1)=kS lt bV a t i++[x]:=by
 unfold kS
 rw[if_pos ah,if_pos ah,List.take_add_one,hx]
 rfl
theorem aef{a:List α}{t x:α}(hx:a[dN lt a t]? =some x):kS lt bV a t (dN lt a t+1)=kS lt bV a t (dN lt a t)++t::(if bV t x=true then [] else [x]):=by
 have hl:=(List.getElem?_eq_some_iff.1 hx).1
 unfold kS
 rw[if_neg ah,if_pos ah]
 have hf:qo lt bV a t=bV t x:=by rw[qo,hx];rfl
 congr 2
 unfold mQ
 rw[hf]
 split
 ·rw[List.drop_eq_nil_of_le yD]
 ·rw[List.take_add_one,hx,List.drop_append_of_le_length yD,List.drop_eq_nil_of_le yD]
  rfl
theorem aeg{a:List α}{t x:α}{i:Nat}(h:dN lt a t<i)(hx:a[i]? =some x):kS lt bV a t (i+1)=kS lt bV a t i++[x]:=by
 have hl:=(List.getElem?_eq_some_iff.1 hx).1
 have hn:=DN (lt:=lt) (bV:=bV) a t
 unfold kS
 rw[if_neg ah,if_neg ah,List.take_add_one,hx,List.drop_append_of_le_length yD]
 simp
end
end Go.Eng
namespace Go.Eng
open Go Go.RowKit
end Go.Eng
namespace Go.Eng
open Go Go.RowKit
def St.without(st:St)(o:Nat):St:=st.grow o .dead
def Hl(X:Ctx)(w:World)(xo:Value)(β:Nat→Option Value):Ctx:=⟨X.P,w,fun b=>FAll X w b∧blk xo≠some b,fun b=>FAll X w b∧blk xo≠some b,β⟩
def jJ(o:Nat)(β:Nat→Option Value):Nat→Option Value:=fun p=>if p=o then none else β p
theorem RI(st:St)(o:Nat)(ob:Obj):(st.grow o ob).n=st.n:=by simp[St.grow,St.n]
theorem J3(st:St){o p:Nat}(ob:Obj)(h:p≠o):(st.grow o ob).obj p=lF (Nat.beq o) (st.obj p):=by
 simp only[St.grow,St.obj,List.getD_eq_getElem?_getD,List.getElem?_set_ne (Ne.symm h),List.getElem?_map]
 cases st.objs[p]? <;>rfl
theorem RJ(st:St){o:Nat}(ob:Obj)(h:o<st.n):(st.grow o ob).obj o=ob:=by
 have h':o<st.objs.length:=h
 simp[St.grow,St.obj,List.getD_eq_getElem?_getD,h']
section
variable {X:Ctx} {st:St} {β:Nat→Option Value} {a:Act} {w:World}
theorem Rel.without(hr:Rel X st β a w){o:Nat}{xo:Value}(hxo:β o=some xo):
 Rel (Hl X w xo (jJ o β)) ⟨(st.without o).env,st.nt,(st.without o).objs,st.g,0⟩ (jJ o β) a w∧
 (∀b,FX X st β w b→FX (Hl X w xo (jJ o β)) ⟨(st.without o).env,st.nt,(st.without o).objs,st.g,0⟩ (jJ o β) w b):=by
 obtain⟨hon,hol⟩:=hr.dom o xo hxo
 let Y:=Hl X w xo (jJ o β)
 let su:St:=⟨(st.without o).env,st.nt,(st.without o).objs,st.g,0⟩
 have hso:su.obj=(st.without o).obj:=rfl
 have hn:su.n=st.n:=RI st o .dead
 have hβ: ∀p x,Nat.beq o p=false→β p=some x→jJ o β p=some x:=by
  intro p x hp hx
  have:p≠o:=by intro e;subst e;simp at hp
  simp only[jJ,if_neg this]
  exact hx
 have hsub: ∀p x,jJ o β p=some x→p≠o∧β p=some x:=by
  intro p x hx
  unfold jJ at hx
  split at hx
  ·cases hx
  ·exact⟨‹_›,hx⟩
 have hF: ∀b,FX X st β w b→FX Y su (jJ o β) w b∧w.heap[b]? =w.heap[b]? :=by
  intro b hb
  refine⟨⟨hb.1, .inl ⟨yG hb,hb.2.2 o hon hol xo hxo⟩,fun p hp hl y hy=> ?_⟩,rfl⟩
  obtain⟨h1,h2⟩:=hsub p y hy
  exact hb.2.2 p (hr.dom p y h2).1 (hr.dom p y h2).2 y h2
 have hlive: ∀p,p≠o→((su.obj p).live↔(st.obj p).live):=by
  intro p hp
  rw[hso]
  show((st.grow o .dead).obj p).live↔_
  rw[J3 st .dead hp,AL]
 refine⟨⟨hr.defers,hr.size,fun i=> ?_,fun p x hx=> ?_,fun p hp hl=> ?_,fun p p' x x' b hx hx'=>hr.sep p p' x x' b (hsub p x hx).2 (hsub p' x' hx').2,fun p x b hx hb=> ?_,KeptL.refl _ _ _,fun g cs hg=>(hr.glob g cs hg).mono hF,fun p hp=>absurd hp (Nat.not_lt_zero _),Nat.zero_le _⟩,fun b hb=>(hF b hb).1⟩
 ·show Rep _ _ w _ (look (killE (Nat.beq o) st.env) i)
  rw[look_killE]
  exact(hr.tmps i).kill hF hβ
 ·obtain⟨h1,h2⟩:=hsub p x hx
  have:=hr.dom p x h2
  exact⟨by rw[hn];exact this.1,(hlive p h1).2 this.2⟩
 ·have hpo:p≠o:=by
   intro e
   subst e
   have e2:su.obj p= .dead:=by rw[hso];exact RJ st .dead hon
   rw[e2] at hl
   exact hl
  have hl2:=(hlive p hpo).1 hl
  obtain⟨x,hx,how⟩:=hr.own p (by rw[←hn];exact hp) hl2
  refine⟨x,hβ p x (by cases hb:Nat.beq o p with
   |false=>rfl
   |true=>exact absurd (Nat.eq_of_beq_eq_true hb).symm hpo) hx,?_⟩
  show Own (FX Y su (jJ o β) w) _ w ((st.grow o .dead).obj p) x
  rw[J3 st .dead hpo]
  exact how.kill hF hβ (fun _ _=>rfl)
 ·obtain⟨h1,h2⟩:=hsub p x hx
  exact .inr ⟨Ee hr h2 hb,fun e=>h1 (hr.sep p o x xo b h2 hxo hb e)⟩
end
def DT(o:Nat)(st':St):D→D
 | .h p=>bif Nat.beq p o then .h 0 else uw st' (.h p)
 |d=>mD st' (kL (Nat.beq o) d)
def F8(o:Nat)(st':St):D→D
 | .agg cs=> .agg (cs.map (DT o st'))
 | .h p=>DT o st' (.h p)
 |d=>view st' (kill (Nat.beq o) d)
def St.seen(st:St)(o:Nat):St:=⟨[],st.nt,(st.objs.map (lF (Nat.beq o))).set o .dead,st.g,0⟩
theorem ag9{s s':St}(h:s'.objs=s.objs):uw s'=uw s:=by
 have ho: ∀p,s'.obj p=s.obj p:=fun p=>by simp[St.obj,h]
 funext d
 cases d<;>simp only[uw,ho]
theorem WX{s s':St}(h:s'.objs=s.objs):mD s'=mD s:=by
 have ho: ∀p,s'.obj p=s.obj p:=fun p=>by simp[St.obj,h]
 funext d
 cases d<;>simp only[mD,ho,ag9 h]
theorem ahb{s s':St}(h:s'.objs=s.objs):view s'=view s:=by
 have hA:wC s'=wC s:=by
  funext d
  cases d<;>simp only[wC,WX h]
 funext d
 cases d<;>simp only[view,hA]
theorem abZ{X:Ctx}{f:FuncId}{ds:List D}{env:List (Nat×D)}{nt:Nat}{objs:List Obj}{g:Nat→Option (List D)}{pin:Nat}{K:D→St→Prop}{post:D→List Obj→Prop}(o:Nat)
 (ho:(Nat.blt o objs.length&&rowB (objs.getD o .dead)&&Nat.ble pin o)=true)(hc:ak X.P f g 0 [objs.getD o .dead] (ds.map (F8 o (St.seen ⟨env,nt,objs,g,pin⟩ o))) post)
 (hk: ∀d os,post d os→flat d=true∧(∀q∈os,iV q)∧FU ⟨env,nt,objs,g,pin⟩ o .dead fun st'=>K (ren (objs.length+ ·) d) (st'.join os)):CallS X f ds ⟨env,nt,objs,g,pin⟩ K:=by
 refine CallS.mk hc.1 fun β a w vs hr hl hrep=> ?_
 simp only[Bool.and_eq_true] at ho
 obtain⟨⟨ho1,ho2⟩,ho3⟩:=ho
 have hol:o<objs.length:=by simpa[Nat.blt_eq] using ho1
 have Sl:pin≤o:=by simpa using ho3
 let st:St:=⟨env,nt,objs,g,pin⟩
 have hon:o<st.n:=hol
 have hpl:(st.obj o).plain∧(st.obj o).live:=by
  show(objs.getD o .dead).plain∧(objs.getD o .dead).live
  revert ho2
  cases objs.getD o .dead<;>intro h<;>first|exact⟨trivial,trivial⟩|exact⟨h,trivial⟩|cases h
 obtain⟨xo,hxo,Kw⟩:=hr.own o hon hpl.2
 obtain⟨hY,J7⟩:=hr.without hxo
 let Y:=Hl X w xo (jJ o β)
 let su:St:=⟨(st.without o).env,st.nt,(st.without o).objs,st.g,0⟩
 have hse:(st.seen o).objs=su.objs:=rfl
 let L:Nat→Prop:=fun b=>blk xo=some b
 let β0:Nat→Option Value:=fun j=>if j=0 then some xo else none
 let Xc:Ctx:=⟨X.P,w,FAll Y w,L,β0⟩
 have one: ∀p x,β0 p=some x→p=0∧x=xo:=by
  intro p x hx
  by_cases hp:p=0
  ·subst hp
   exact⟨rfl,(Option.some.inj hx).symm⟩
  ·simp[β0,hp] at hx
 have J6: ∀b,FAll Y w b→FX Xc (stOf [st.obj o] g 0) β0 w b∧w.heap[b]? =w.heap[b]? :=by
  intro b hb
  refine⟨⟨hb.1, .inl hb,fun p hp hl x hx=> ?_⟩,rfl⟩
  obtain⟨rfl,rfl⟩:=one p x hx
  rcases hb.2 with h1|h1|h1
  ·exact h1.2
  ·have:w.heap.size≤b:=h1
   have:=hb.1
   omega
  ·exact h1.2
 have hF0: ∀b,FX X st β w b→FX Xc (stOf [st.obj o] g 0) β0 w b∧w.heap[b]? =w.heap[b]? :=fun b hb=>J6 b (yG (J7 b hb))
 have hW:WRel Xc (stOf [st.obj o] g 0) β0 w:=by
  refine⟨fun p x hx=> ?_,fun p hp hl=> ?_,fun p p' x x' b hx hx' _ _=> ?_,fun p x b hx hb=> ?_,KeptL.refl _ _ _,fun gg cs hg=>(hr.glob gg cs hg).mono hF0,fun p hp=>absurd hp (Nat.not_lt_zero _),Nat.zero_le _⟩
  ·obtain⟨rfl,rfl⟩:=one p x hx
   exact⟨Nat.zero_lt_one,hpl.2⟩
  ·have hp0:p=0:=by have:p<1:=hp;omega
   subst hp0
   exact⟨xo,rfl,Own.rE hF0 hpl.1 (fun _ _=>rfl) Kw⟩
  ·rw[(one p x hx).1,(one p' x' hx').1]
  ·obtain⟨rfl,rfl⟩:=one p x hx
   exact .inr hb
 have adQ: ∀ {v:Value} {d:D},Rep (FX X st β w) β w v d→Rep (FX Y su (jJ o β) w) (jJ o β) w v (kill (Nat.beq o) d):=fun h=>
  h.kill (fun b hb=>⟨J7 b hb,rfl⟩) (fun p x hp hx=>by
   have:p≠o:=by intro e;subst e;simp at hp
   simp only[jJ,if_neg this]
   exact hx)
 have adR: ∀ {v:Value} {d:D},Rep (FX X st β w) β w v d→Rep (FX Y su (jJ o β) w) (jJ o β) w v (kL (Nat.beq o) d):=fun h=>
  h.kL (fun b hb=>⟨J7 b hb,rfl⟩) (fun p x hp hx=>by
   have:p≠o:=by intro e;subst e;simp at hp
   simp only[jJ,if_neg this]
   exact hx)
 have hl0: ∀ {v:Value} {d:D},Rep (FX X st β w) β w v d→Rep (FX Xc (stOf [st.obj o] g 0) β0 w) β0 w v (DT o (st.seen o) d):=by
  intro v d hv
  have gen: ∀d,Rep (FX X st β w) β w v d→Rep (FX Xc (stOf [st.obj o] g 0) β0 w) β0 w v (mD (st.seen o) (kL (Nat.beq o) d)):=fun d hv=>by
   rw[WX hse]
   exact .ro _ _ ((G6 hY (adR hv)).mono J6)
  cases d with
  |h p=>
   show Rep _ _ _ _ (bif Nat.beq p o then .h 0 else uw (st.seen o) (.h p))
   cases hb:Nat.beq p o with
   |false=>
    have h1:=gen (.h p) hv
    have hb':Nat.beq o p=false:=lQ (fun e=>by subst e;simp at hb)
    simp only[kL,hb',cond_false,mD] at h1
    exact h1
   |true=>
    have:=Nat.eq_of_beq_eq_true hb
    subst this
    have:=hv.iM
    rw[hxo] at this
    exact .h _ _ this
  |_=>exact gen _ hv
 refine(hc.2 Xc β0 w vs rfl rfl rfl hW pI (fun i hi=> ?_)).mono ?_
 ·have hi':i<ds.length:=by simpa using hi
  have e:(ds.map (F8 o (st.seen o))).getD i .junk=F8 o (st.seen o) (ds.getD i .junk):=by
   rw[List.getD_eq_getElem?_getD,List.getD_eq_getElem?_getD,List.getElem?_map,List.getElem?_eq_getElem hi']
   rfl
  rw[e]
  have hv:=hrep i hi'
  revert hv
  generalize ds.getD i .junk=d
  intro hv
  have gen:Rep (FX Xc (stOf [st.obj o] g 0) β0 w) β0 w (vs.getD i undef) (view (st.seen o) (kill (Nat.beq o) d)):=by
   rw[ahb hse]
   exact .ro _ _ ((G7 hY (adQ hv)).mono J6)
  cases d with
  |agg cs=>
   obtain⟨us,hus,hlen,h1,hrr⟩:=hv.jM
   rw[hus]
   refine .agg _ _ (by simp[hlen]) h1 (fun j hj=> ?_)
   have hj':j<cs.length:=by simpa using hj
   have e2:(cs.map (DT o (st.seen o))).getD j .junk=DT o (st.seen o) (cs.getD j .junk):=by
    rw[List.getD_eq_getElem?_getD,List.getD_eq_getElem?_getD,List.getElem?_map,List.getElem?_eq_getElem hj']
    rfl
   rw[e2]
   exact hl0 (hrr j hj')
  |h p=>exact hl0 hv
  |_=>exact gen
 ·rintro e w' ⟨v,d,os,β',rfl,hw',hrd,Ky,hpost⟩
  obtain⟨hfl,hfo,hkk⟩:=hk d os hpost
  have hkk:=RH hkk
  have hkc:KeptL w.heap.size L w w':=hw'.kept
  have hnew: ∀j x b,β' j=some x→blk x=some b→w.heap.size≤b∨blk xo=some b:=fun j x b hx hb=>hw'.low j x b hx hb
  have hsame: ∀b,b<w.heap.size→blk xo≠some b→w'.heap[b]? =w.heap[b]? :=fun b hb hn=>hkc.block b hb hn
  let st':St:=(st.grow o .dead).join os
  let β3:Nat→Option Value:=jA objs.length (jJ o β) β'
  have hgn:(st.grow o .dead).n=objs.length:=RI st o .dead
  have hn':st'.n=objs.length+os.length:=by rw[show st'.n=_ from DR _ _,hgn]
  have hold: ∀p x,β3 p=some x→p<objs.length→p≠o∧β p=some x:=by
   intro p x hx hp
   simp only[β3,jA,if_pos hp,jJ] at hx
   split at hx
   ·cases hx
   ·exact⟨‹_›,hx⟩
  have hnw: ∀p x,β3 p=some x→ ¬p<objs.length→β' (p-objs.length)=some x:=by
   intro p x hx hp
   simpa only[β3,jA,if_neg hp] using hx
  have hβ: ∀p x,Nat.beq o p=false→β p=some x→β3 p=some x:=by
   intro p x hp hx
   have h1:p≠o:=by intro e;subst e;simp at hp
   have h2:p<objs.length:=(hr.dom p x hx).1
   simp only[β3,jA,if_pos h2,jJ,if_neg h1]
   exact hx
  have KG: ∀p x,p≠o→β p=some x→β3 p=some x:=fun p x h hx=>hβ p x (lQ (fun e=>h e.symm)) hx
  have hFX: ∀b,FX X st β w b→FX X st' β3 w' b∧w'.heap[b]? =w.heap[b]? :=by
   intro b hb
   have qm:blk xo≠some b:=hb.2.2 o hon hpl.2 xo hxo
   refine⟨⟨Nat.lt_of_lt_of_le hb.1 hkc.size,hb.2.1,fun p hp hl y hy=> ?_⟩,hsame b hb.1 qm⟩
   by_cases hlt:p<objs.length
   ·obtain⟨h1,h2⟩:=hold p y hy hlt
    exact hb.2.2 p hlt (hr.dom p y h2).2 y h2
   ·intro hbb
    rcases hnew _ _ _ (hnw p y hy hlt) hbb with h1|h1
    ·have:=hb.1
     omega
    ·exact qm h1
  have hob: ∀p,p<objs.length→p≠o→st'.obj p=lF (Nat.beq o) (st.obj p):=by
   intro p hp hpo
   rw[show st'.obj p=_ from F6 _ _ (by rw[hgn];exact hp),J3 st .dead hpo]
  have adU:st'.obj o= .dead:=by
   rw[show st'.obj o=_ from F6 _ _ (by rw[hgn];exact hol),RJ st .dead hon]
  have RZ: ∀p, ¬p<objs.length→st'.obj p=os.getD (p-objs.length) .dead:=by
   intro p hp
   rw[show st'.obj p=_ from KU _ _ (by rw[hgn];omega),hgn]
  have hrel:Rel X st' β3 a w':=by
   refine⟨hr.defers,hr.size,fun i=> ?_,?_,?_,?_,?_,?_,fun gg cs hg=>(hr.glob gg cs hg).mono hFX,?_,?_⟩
   ·show Rep _ _ w' _ (look (killE (Nat.beq o) env) i)
    rw[look_killE]
    exact(hr.tmps i).kill hFX hβ
   ·intro p x hx
    by_cases hlt:p<objs.length
    ·obtain⟨h1,h2⟩:=hold p x hx hlt
     refine⟨by rw[hn'];omega,?_⟩
     rw[hob p hlt h1,AL]
     exact(hr.dom p x h2).2
    ·have hd:=hw'.dom _ _ (hnw p x hx hlt)
     have h1:p-objs.length<os.length:=hd.1
     refine⟨by rw[hn'];omega,?_⟩
     rw[RZ p hlt]
     exact hd.2
   ·intro p hp hl
    by_cases hlt:p<objs.length
    ·have hpo:p≠o:=by
      intro e
      subst e
      rw[adU] at hl
      exact hl
     rw[hob p hlt hpo] at hl⊢
     rw[AL] at hl
     obtain⟨x,hx,hw⟩:=hr.own p hlt hl
     exact⟨x,KG p x hpo hx,hw.kill hFX hβ (fun b hb=>hsame b (Own.lt hl hw b hb) (fun qm=>hpo (hr.sep p o x xo b hx hxo hb qm)))⟩
    ·rw[RZ p hlt] at hl⊢
     have hin:p-objs.length<os.length:=by rw[hn'] at hp;omega
     obtain⟨x,hx,hw⟩:=hw'.own (p-objs.length) hin hl
     refine⟨x,by simp only[β3,jA,if_neg hlt];exact hx,?_⟩
     exact Own.Q8 (hfo _ (getD_mem hin)) hw
   ·intro p p' x x' b hx hx' hb hb'
    by_cases h1:p<objs.length<;>by_cases h2:p'<objs.length
    ·exact hr.sep p p' x x' b (hold p x hx h1).2 (hold p' x' hx' h2).2 hb hb'
    ·exfalso
     obtain⟨k1,k2⟩:=hold p x hx h1
     rcases hnew _ _ _ (hnw p' x' hx' h2) hb' with h3|h3
     ·have:=hr.lt k2 hb
      omega
     ·exact k1 (hr.sep p o x xo b k2 hxo hb h3)
    ·exfalso
     obtain⟨k1,k2⟩:=hold p' x' hx' h2
     rcases hnew _ _ _ (hnw p x hx h1) hb with h3|h3
     ·have:=hr.lt k2 hb'
      omega
     ·exact k1 (hr.sep p' o x' xo b k2 hxo hb' h3)
    ·have:=hw'.sep _ _ x x' b (hnw p x hx h1) (hnw p' x' hx' h2) hb hb'
     omega
   ·intro p x b hx hb
    by_cases h1:p<objs.length
    ·exact hr.low p x b (hold p x hx h1).2 hb
    ·rcases hnew _ _ _ (hnw p x hx h1) hb with h3|h3
     ·exact .inl (Nat.le_trans hr.kept.size h3)
     ·exact hr.low o xo b hxo h3
   ·refine hr.kept.trans ⟨hkc.os,hkc.tape,hkc.output,hkc.size,fun k hk hl=>hsame k (Nat.lt_of_lt_of_le hk hr.kept.size) (fun qm=> ?_)⟩
    rcases hr.low o xo k hxo qm with h3|h3
    ·omega
    ·exact hl h3
   ·intro p hp'
    have hp2:p<pin:=hp'
    have h1:p≠o:=by omega
    have h2:p<objs.length:=by omega
    simp only[β3,jA,if_pos h2,jJ,if_neg h1]
    exact hr.stay p hp2
   ·have hpn:st.pin≤st.n:=hr.pinned
    rw[hn']
    exact Nat.le_trans hpn (Nat.le_add_right _ _)
  refine⟨v,_,st',_,rfl,hrel,?_,hkk⟩
  refine hrd.Vs (f:=(objs.length+ ·)) (fun j x hx=> ?_) hfl
  simp only[β3,jA,if_neg (show ¬objs.length+j<objs.length by omega),Nat.add_sub_cancel_left]
  exact hx
theorem PZ{X:Ctx}{f:FuncId}{ds:List D}{env:List (Nat×D)}{nt:Nat}{objs:List Obj}{g:Nat→Option (List D)}{pin:Nat}{K:D→St→Prop}{d:D}{oo:List Obj}{n:Nat}(o:Nat)
 (ho:(Nat.blt o objs.length&&rowB (objs.getD o .dead)&&Nat.ble pin o)=true)(hc:ak X.P f g 0 [objs.getD o .dead] (ds.map (F8 o (St.seen ⟨env,nt,objs,g,pin⟩ o))) (fun d' os=>d'=d∧os=oo))
 (hd:flat d=true)(hf: ∀q∈oo,iV q)(hl:objs.length=n)(hk:FU ⟨env,nt,objs,g,pin⟩ o .dead fun st'=>K (ren (n+ ·) d) (st'.join oo)):CallS X f ds ⟨env,nt,objs,g,pin⟩ K:=by
 subst hl
 refine abZ o ho hc ?_
 rintro d' os ⟨rfl,rfl⟩
 exact⟨hd,hf,hk⟩
end Go.Eng
namespace Go.Eng
open Go Go.RowKit
def Aw:Op→Bool
 | .move _=>true
 | .assign _=>true
 | .extract _ _=>true
 |_=>false
def Gj:Op→Bool
 | .select _ _=>false
 |_=>true
def apartB(ops:Array Oper)(listed:Array Bool)(i:Nat)(oi:Oper):Bool:=
 (List.range ops.size).all fun j=>match ops[j]? with
   |some oj=>Nat.beq j i||listed.getD j true|| !(oj.after.all fun e=> !Region.binds .any e|| !Nat.beq e.on i)||oi.apart ops oj
   |none=>true
section
variable {X:Ctx} {K:St→Prop} {ops:Array Oper}
def jm(X:Ctx)(K:St→Prop):Exit→Act→World→Prop
 | .normal,a,w=>PostR X K a w
 |_,_,_=>False
theorem FQ{P:Program}{o:Oper}{a:Act}{w:World}{K:Act→World→Prop}{Q:Exit→Act→World→Prop}(hf:Aw o.op=true)(h:o.wp P a w K Q):
 ∃v,(∀w,(execOp a.eval o).run P w= .ok (.value v) w)∧K (a.put o.dst v) w:=by
 unfold Oper.wp at h
 obtain⟨dst,op,ty,pos,after,guard⟩:=o
 cases op with
 |move x=>exact⟨a.eval x,fun w=>rfl,h⟩
 |assign x=>exact⟨a.eval x,fun w=>rfl,h⟩
 |extract x k=>
  cases hx:a.eval x with
  |tuple cs=>
   cases hc:cs[k]? with
   |some v=>
    have e: ∀w,(execOp a.eval ⟨dst, .extract x k,ty,pos,after,guard⟩).run P w= .ok (.value v) w:=fun w=>by simp[execOp,Instr.extract,hx,hc]
    refine⟨v,e,?_⟩
    rw[e w] at h
    exact h
   |none=>exact absurd h (by simp[execOp,Instr.extract,hx,hc,Oper.upon])
  |_=>exact absurd h (by simp[execOp,Instr.extract,hx,Oper.upon])
 |_=>cases hf
theorem Dz{o:Oper}{st:St}{K':St→Prop}{β:Nat→Option Value}{a:Act}{w:World}{i:Nat}{Q:Exit→Act→World→Prop}(hi:ops[i]? =some o)(h:iE X ops o st K')(hr:Rel X st β a w):
 wpOp X.P ops Q i (PostR X K') a w∧(Aw o.op=true→ ∃v,Go.Yields X.P ops o v a∧PostR X K' (a.put o.dst v) w):=by
 unfold iE at h
 unfold wpOp
 simp only[hi]
 split at h
 ·rename_i hg
  have hw:Region.wanted o (yielded ops a.tmps)=true:=by simp[Region.wanted,hg]
  rw[if_pos hw]
  refine⟨.inl (tV h hr),fun hf=> ?_⟩
  obtain⟨v,h1,h2⟩:=FQ hf (tV (Q:=fun _ _ _=>False) h hr)
  exact⟨v, .inl ⟨hw,h1⟩,h2⟩
 ·rename_i j want hg
  split at h
  ·rename_i t hj
   split at h
   ·rename_i c ht
    have hy:=zI hr hj ht
    by_cases hc:c=want
    ·subst hc
     have hw:Region.wanted o (yielded ops a.tmps)=true:=by simp[Region.wanted,hg,hy]
     rw[if_pos hw]
     have h1:=fun Q=>tV (Q:=Q) (eX (h.1 rfl)) (hr.self ht)
     refine⟨.inl (h1 Q),fun hf=> ?_⟩
     obtain⟨v,h2,h3⟩:=FQ hf (h1 fun _ _ _=>False)
     exact⟨v, .inl ⟨hw,h2⟩,h3⟩
    ·have hc':c= !want:=by cases c<;>cases want<;>simp_all
     have hw:Region.wanted o (yielded ops a.tmps)=false:=by simp[Region.wanted,hg,hy,hc]
     rw[if_neg (by simp[hw])]
     have h2:=eX (eX (h.2 hc'))
     have h3:PostR X K' (a.put o.dst undef) w:=⟨_,β,h2,(hr.self (by rw[ht,hc'])).put _ oZ⟩
     exact⟨h3,fun _=>⟨undef, .inr ⟨hw,rfl⟩,h3⟩⟩
   ·rename_i ht
    have hy:=EH hr hj ht
    have hw:Region.wanted o (yielded ops a.tmps)=false:=by simp[Region.wanted,hg,hy]
    rw[if_neg (by simp[hw])]
    have h3:PostR X K' (a.put o.dst undef) w:=⟨_,β,eX h,hr.put _ oZ⟩
    exact⟨h3,fun _=>⟨undef, .inr ⟨hw,rfl⟩,h3⟩⟩
   ·exact h.elim
  ·exact h.elim
end
end Go.Eng
namespace Go.Eng
open Go Go.RowKit
inductive OT where
 |nil
 |cons (i:Nat) (t:OT)
 |fork (i:Nat) (t:OT) (r:OT)
def OT.line:List Nat→OT
 |[]=> .nil
 |i::r=> .cons i (OT.line r)
def OT.ins:List Nat→OT→OT
 |[],t=>t
 |i::r,t=> .cons i (OT.ins r t)
noncomputable def opsT(X:Ctx)(ops:Array Oper)(l:OT):St→(St→Prop)→Prop:=
 @OT.rec (fun _=>St→(St→Prop)→Prop) (fun st K=>K st)
  (fun i _ ih st K=>match ops[i]? with
    |some o=>iE X ops o st fun st'=>ih st' K
    |none=>False)
  (fun i _ _ ih1 ih2 st K=>(match ops[i]? with
    |some o=>iE X ops o st fun st'=>ih1 st' K
    |none=>False)∧ih2 st K) l
section
variable {X:Ctx} {K:St→Prop} {ops:Array Oper}
end
end Go.Eng
