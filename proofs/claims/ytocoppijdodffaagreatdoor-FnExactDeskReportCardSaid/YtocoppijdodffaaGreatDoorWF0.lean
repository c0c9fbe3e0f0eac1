/-
  Plain laws: the words of a text, each once, in order.
  No conditions.
-/
import Derived.Test.YtocoppijdodffaaGreatDoorED
import Derived.Lib.FieldsP
import Derived.Lib.TrimUEq
import Derived.Lib.TrimAscii
import Derived.Lib.SlicesCompact
import Derived.Lib.Case
import Derived.Sort.Walk0
set_option linter.unusedVariables false
set_option linter.unusedSimpArgs false
namespace Go.Eng
open Go Go.RowKit
def nV(c:UInt8):Bool:=(decide (97≤c.toNat)&&decide (c.toNat≤122))||(decide (48≤c.toNat)&&decide (c.toNat≤57))
def yV(r:Nat):Bool:= !((decide (97≤r)&&decide (r≤122))||(decide (48≤r)&&decide (r≤57)))
theorem adv(c:UInt8):yV c.toNat= !nV c:=rfl
def iC:List UInt8→List UInt8→List (List UInt8)
 |cur,[]=>if cur=[] then [] else [cur]
 |cur,c::r=>if nV c=true then iC (cur++[c]) r else if cur=[] then iC [] r else cur::iC [] r
theorem Au(cur:List UInt8):iC cur []=if cur=[] then [] else [cur]:=by rw[iC]
theorem yU{cur r:List UInt8}{c:UInt8}(h:nV c=true):iC cur (c::r)=iC (cur++[c]) r:=by rw[iC,if_pos h]
theorem yT{r:List UInt8}{c:UInt8}(h: ¬nV c=true):iC [] (c::r)=iC [] r:=by rw[iC,if_neg h,if_pos rfl]
theorem yS{cur r:List UInt8}{c:UInt8}(h: ¬nV c=true)(h2:cur≠ []):iC cur (c::r)=cur::iC [] r:=by rw[iC,if_neg h,if_neg h2]
theorem FM: ∀(r cur:List UInt8),((iC cur r).map List.length).sum≤cur.length+r.length
 |[],cur=>by
  rw[Au]
  split<;>simp
 |c::r,cur=>by
  by_cases hc:nV c=true
  ·rw[yU hc]
   have:=FM r (cur++[c])
   simp at this⊢
   omega
  ·by_cases h0:cur=[]
   ·rw[h0,yT hc]
    have:=FM r []
    simp at this⊢
    omega
   ·rw[yS hc h0]
    have:=FM r []
    simp at this⊢
    omega
theorem Ar: ∀(r cur:List UInt8),(iC cur r).length≤cur.length+r.length
 |[],cur=>by
  rw[Au]
  split
  ·simp
  ·rename_i h
   have:0<cur.length:=List.length_pos_iff.2 h
   simp;omega
 |c::r,cur=>by
  by_cases hc:nV c=true
  ·rw[yU hc]
   have:=Ar r (cur++[c])
   simp at this⊢
   omega
  ·by_cases h0:cur=[]
   ·rw[h0,yT hc]
    have:=Ar r []
    simp at this⊢
    omega
   ·rw[yS hc h0]
    have:=Ar r []
    have h1:0<cur.length:=List.length_pos_iff.2 h0
    simp at this⊢
    omega
def jw(a:List (List UInt8))(t:List UInt8):List (List UInt8):=insL Op.bytesLess (fun x y=>x==y) a t
def gG(s:List UInt8):List UInt8:=s.map Lib.lowerB
def yB(s:List UInt8):List (List UInt8):=(iC [] (gG s)).foldl jw []
theorem S9(x t:List UInt8)(h1:Op.bytesLess x t=false)(h2:(t==x)=false):Op.bytesLess t x=true:=
 KZ h1 fun e=>by rw[e] at h2;simp at h2
theorem SX(t x y:List UInt8)(h1:(t==x)=true)(h2:Op.bytesLess x y=true):Op.bytesLess t y=true:=by
 rw[eq_of_beq h1];exact h2
theorem SV{a:List (List UInt8)}(h:chain Op.bytesLess a=true)(t:List UInt8):chain Op.bytesLess (jw a t)=true:=
 aed (lt:=Op.bytesLess) (bV:=fun x y=>x==y) DU (fun x=>S9 x t) (fun x y=>SX t x y) h
theorem aen{a:List (List UInt8)}{t x:List UInt8} :x∈jw a t↔x=t∨x∈a:=by
 constructor
 ·exact aee
 ·intro h
  unfold jw insL
  rcases h with rfl|h
  ·simp
  ·have h0:a.take (dN Op.bytesLess a t)++a.drop (dN Op.bytesLess a t)=a:=List.take_append_drop _ _
   rw[←h0,List.mem_append] at h
   rcases h with h|h
   ·simp[h]
   ·unfold mQ
    split
    ·rename_i hf
     have hl:=KP hf
     rw[List.drop_eq_getElem_cons hl,List.mem_cons] at h
     rcases h with h|h
     ·unfold qo at hf
      rw[List.getElem?_eq_getElem hl] at hf
      have:t=a[dN Op.bytesLess a t]:=by simpa using hf
      rw[h,←this]
      simp
     ·simp[h]
    ·simp[h]
theorem adg(l:List (List UInt8)): ∀ {a:List (List UInt8)},chain Op.bytesLess a=true→chain Op.bytesLess (l.foldl jw a)=true:=by
 induction l with
 |nil=>intro a h;exact h
 |cons x r ih=>intro a h;exact ih (SV h x)
theorem adh(l:List (List UInt8)): ∀ {a:List (List UInt8)} {x:List UInt8},x∈l.foldl jw a↔x∈l∨x∈a:=by
 induction l with
 |nil=>intro a x;simp
 |cons y r ih=>
  intro a x
  rw[List.foldl_cons,ih,aen,List.mem_cons]
  constructor
  ·rintro(h|h|h)
   ·exact .inl (.inr h)
   ·exact .inl (.inl h)
   ·exact .inr h
  ·rintro((h|h)|h)
   ·exact .inr (.inl h)
   ·exact .inl h
   ·exact .inr (.inr h)
theorem Rf(l:List (List UInt8)): ∀(a:List (List UInt8)),(l.foldl jw a).length≤a.length+l.length:=by
 induction l with
 |nil=>intro a;simp
 |cons y r ih=>
  intro a
  have h1:=ih (jw a y)
  have h2:=SS (lt:=Op.bytesLess) (bV:=fun x y=>x==y) a y
  have h3:(jw a y).length≤a.length+1:=by
   show(insL Op.bytesLess (fun x y=>x==y) a y).length≤_
   rw[h2]
   split<;>omega
  rw[List.foldl_cons,List.length_cons]
  omega
theorem WB{α:Type}{lt:α→α→Bool}(hi: ∀x,lt x x=false)(ht: ∀ {x y z:α},lt x y=true→lt y z=true→lt x z=true): ∀ {a b:List α},a.Pairwise (fun x y=>lt x y=true)→b.Pairwise (fun x y=>lt x y=true)→(∀x,x∈a↔x∈b)→a=b
 |[],[],_,_,_=>rfl
 |[],y::b,_,_,h=>by have:=(h y).2 fB;cases this
 |x::a,[],_,_,h=>by have:=(h x).1 fB;cases this
 |x::a,y::b,ha,hb,h=>by
  rw[List.pairwise_cons] at ha hb
  have hxy:x=y:=by
   have h1:=(h x).1 fB
   have h2:=(h y).2 fB
   rcases List.mem_cons.1 h1 with e|h1
   ·exact e
   rcases List.mem_cons.1 h2 with e|h2
   ·exact e.symm
   have h3:=ht (ha.1 y h2) (hb.1 x h1)
   rw[hi] at h3
   cases h3
  subst hxy
  congr 1
  refine WB hi ht ha.2 hb.2 fun z=>⟨fun hz=> ?_,fun hz=> ?_⟩
  ·rcases List.mem_cons.1 ((h z).1 (by simp[hz])) with e|h1
   ·subst e
    have:=ha.1 z hz
    rw[hi] at this
    cases this
   ·exact h1
  ·rcases List.mem_cons.1 ((h z).2 (by simp[hz])) with e|h1
   ·subst e
    have:=hb.1 z hz
    rw[hi] at this
    cases this
   ·exact h1
def uniq:List UInt8→List (List UInt8)→List (List UInt8)
 |_,[]=>[]
 |y,x::r=>if x=y then uniq x r else x::uniq x r
theorem Qk(x:List UInt8)(r:List (List UInt8)):Lib.compact (x::r)=x::uniq x r:=by
 have key: ∀(r:List (List UInt8)) (p:List (List UInt8)) (y:List UInt8),p.getLast? =some y→(((List.range' p.length r.length).filter (Lib.keeps (p++r).toArray)).map ((p++r).toArray[·]!))=uniq y r:=by
  intro r
  induction r with
  |nil=>intro p y _;simp[uniq]
  |cons z r ih=>
   intro p y hy
   have hp:0<p.length:=by
    cases p with
    |nil=>cases hy
    |cons=>simp
   have ez:(p++z::r).toArray[p.length]! =z:=by
    rw[getElem!_pos _ _ fB];simp
   have ey:(p++z::r).toArray[p.length-1]! =y:=by
    rw[getElem!_pos _ _ nX,List.getElem_toArray,List.getElem_append_left ah]
    rw[List.getLast?_eq_getElem?] at hy
    exact(List.getElem?_eq_some_iff.1 hy).2
   have ih2:=ih (p++[z]) z fB
   rw[List.append_assoc,List.singleton_append,List.length_append,List.length_singleton] at ih2
   rw[List.length_cons,List.range'_succ,List.filter_cons,uniq]
   by_cases hzy:z=y
   ·have hk:Lib.keeps (p++z::r).toArray p.length=false:=Lib.keeps_neg hp (by rw[ez,ey];exact hzy)
    rw[hk,if_pos hzy,←ih2]
    rfl
   ·have hk:Lib.keeps (p++z::r).toArray p.length=true:=Lib.keeps_pos (by rw[ez,ey];exact hzy)
    rw[hk,if_neg hzy,←ih2,if_pos rfl,List.map_cons,ez]
 have h1:=key r [x] x rfl
 unfold Lib.compact Lib.compactUpTo
 rw[List.length_cons,List.range_eq_range',List.range'_succ,List.filter_cons,if_pos (by simp[Lib.keeps]),List.map_cons]
 congr 1
theorem Jl:Lib.compact ([]:List (List UInt8))=[]:=rfl
theorem EG: ∀(r:List (List UInt8)) (y x:List UInt8),x∈y::uniq y r↔x∈y::r
 |[],y,x=>by rw[uniq]
 |z::r,y,x=>by
  have ih:=EG r z x
  rw[uniq]
  by_cases h:z=y
  ·subst h
   rw[if_pos rfl,ih]
   simp
  ·rw[if_neg h,List.mem_cons,ih]
   exact List.mem_cons.symm
theorem WS: ∀(r:List (List UInt8)) (y:List UInt8),(y::r).Pairwise (fun a b=>a≤b)→(y::uniq y r).Pairwise (fun a b=>Op.bytesLess a b=true)
 |[],y,_=>by simp[uniq]
 |z::r,y,h=>by
  rw[List.pairwise_cons] at h
  have ih:=WS r z h.2
  have hyz:y≤z:=h.1 z fB
  rw[uniq]
  by_cases e:z=y
  ·subst e
   rw[if_pos rfl]
   exact ih
  ·rw[if_neg e,List.pairwise_cons]
   refine⟨fun w hw=> ?_,ih⟩
   have h1:y≤w:=h.1 w ((EG r z w).1 hw)
   have hzw:z≤w:=by
    rcases List.mem_cons.1 hw with h2|h2
    ·rw[h2];exact List.le_refl _
    ·rw[List.pairwise_cons] at ih h
     exact h.2.1 w (by
      have:=(EG r z w).1 hw
      rcases List.mem_cons.1 this with h3|h3
      ·have:=ih.1 w h2
       rw[h3,zi] at this
       cases this
      ·exact h3)
   rw[Go.Proofs.bytesLess_eq,decide_eq_true_eq]
   have hne:y≠w:=fun e2=>e (List.le_antisymm (e2▸hzw) hyz)
   rcases List.le_iff_lt_or_eq.1 h1 with h2|h2
   ·exact h2
   ·exact absurd h2 hne
theorem Xe(l:List (List UInt8)):Lib.compact (l.mergeSort fun x y=>decide (x≤y))=l.foldl jw []:=by
 have hs:(l.mergeSort fun x y=>decide (x≤y)).Pairwise (fun a b=>a≤b):=by
  have:=List.pairwise_mergeSort (le:=fun(x y:List UInt8)=>decide (x≤y)) (fun a b c h1 h2=>by
   rw[decide_eq_true_eq] at*
   exact List.le_trans h1 h2) (fun a b=>by
   simp only[Bool.or_eq_true,decide_eq_true_eq]
   exact List.le_total a b) l
  exact this.imp fun h=>by simpa using h
 have hm: ∀x,x∈(l.mergeSort fun x y=>decide (x≤y))↔x∈l:=fun x=>List.mem_mergeSort
 generalize (l.mergeSort fun x y=>decide (x≤y))=S at hs hm
 have hpw:(Lib.compact S).Pairwise (fun a b=>Op.bytesLess a b=true)∧ ∀x,x∈Lib.compact S↔x∈S:=by
  cases S with
  |nil=>rw[Jl];simp
  |cons y r=>rw[Qk];exact⟨WS r y hs,EG r y⟩
 refine WB (lt:=Op.bytesLess) zi DU hpw.1 ((Jd (lt:=Op.bytesLess) DU).1 (adg l rfl)) fun x=> ?_
 rw[hpw.2,hm,adh]
 simp
theorem Ql(l:List (List UInt8)):(Lib.compact l).length≤l.length∧ ∀t∈Lib.compact l,t∈l:=by
 have key: ∀(r:List (List UInt8)) (y:List UInt8),(uniq y r).length≤r.length:=by
  intro r
  induction r with
  |nil=>intro y;simp[uniq]
  |cons z r ih=>
   intro y
   rw[uniq]
   split
   ·have:=ih z;simp;omega
   ·have:=ih z;simp;omega
 cases l with
 |nil=>rw[Jl];simp
 |cons y r=>
  rw[Qk]
  refine⟨by have:=key r y;simp;omega,fun t ht=>(EG r y t).1 ht⟩
theorem ab7(l:List (List UInt8)):(Lib.compact l).length≤l.length:=(Ql l).1
theorem ab8(l:List (List UInt8)): ∀t∈Lib.compact l,t∈l:=(Ql l).2
theorem QV(s:ByteArray)(a b:Nat):(s.extract a b).data.toList=(s.data.toList.drop a).take (b-a):=by
 simp[ByteArray.data_extract,List.extract_eq_take_drop,Array.toList_extract]
theorem agJ(s:ByteArray)(ha: ∀c∈s.data.toList,c.toNat<128): ∀(f pos:Nat) (st:Option Nat) (acc:List (Nat×Nat)),s.size≤pos+f→pos≤s.size→(∀a,st=some a→a<pos)→
 ((Lib.closeSpans s (Lib.spansFromP yV s f pos st acc)).map fun x=>(s.extract x.1 x.2).data.toList)=(acc.map fun x=>(s.extract x.1 x.2).data.toList)++iC (match st with|some a=>(s.data.toList.drop a).take (pos-a)|none=>[]) (s.data.toList.drop pos):=by
 have hsz:s.size=s.data.toList.length:=Array.length_toList.symm
 intro f
 induction f with
 |zero=>
  intro pos st acc h1 h2 h3
  have e:pos=s.size:=by omega
  subst e
  rw[Lib.spansFromP,List.drop_of_length_le ah,Au]
  cases st with
  |none=>simp[Lib.closeSpans]
  |some a=>
   have:=h3 a rfl
   have hne:(s.data.toList.drop a).take (s.size-a)≠ []:=by
    apply List.ne_nil_of_length_pos
    rw[List.length_take,List.length_drop];omega
   simp only[Lib.closeSpans]
   rw[if_neg hne,List.map_append,List.map_singleton,QV]
 |succ f ih=>
  intro pos st acc h1 h2 h3
  by_cases hp:pos<s.size
  ·have hl:pos<s.data.toList.length:=by omega
   have hb:=ha _ (List.getElem_mem hl)
   have hdec:Utf8.decode s pos=((s.data.toList[pos]).toNat,1):=by
    rw[←Lib.decodeL_drop,List.drop_eq_getElem_cons hl,Lib.decodeL_ascii _ _ hb]
   have ed:s.data.toList.drop pos=s.data.toList[pos]::s.data.toList.drop (pos+1):=List.drop_eq_getElem_cons hl
   unfold Lib.spansFromP
   rw[if_pos hp,hdec]
   simp only
   rw[adv]
   cases hw:nV s.data.toList[pos] with
   |true=>
    simp only[Bool.not_true,Bool.false_eq_true,if_false]
    cases st with
    |none=>
     simp only
     rw[ih (pos+1) (some pos) acc ah ah (fun a h=>by cases h;omega),ed,yU hw]
     simp only
     rw[show pos+1-pos=1 by omega,ed]
     rfl
    |some a=>
     have:=h3 a rfl
     simp only
     rw[ih (pos+1) (some a) acc ah ah (fun b h=>by cases h;omega),ed,yU hw]
     simp only
     congr 2
     rw[show pos+1-a=(pos-a)+1 by omega,List.take_add_one,List.getElem?_drop,show a+(pos-a)=pos by omega,List.getElem?_eq_getElem hl]
     rfl
   |false=>
    simp only[Bool.not_false,if_true]
    cases st with
    |none=>
     simp only
     rw[ih (pos+1) none acc ah ah (fun a h=>by cases h),ed,yT (by rw[hw];simp)]
    |some a=>
     have:=h3 a rfl
     have hne:(s.data.toList.drop a).take (pos-a)≠ []:=by
      apply List.ne_nil_of_length_pos
      rw[List.length_take,List.length_drop];omega
     simp only
     rw[ih (pos+1) none (acc++[(a,pos)]) ah ah (fun b h=>by cases h),ed,yS (by rw[hw];simp) hne,List.map_append,List.map_singleton,QV,List.append_assoc]
     rfl
  ·have e:pos=s.size:=by omega
   rw[Lib.spansFromP_end _ _ _ _ _ _ hp]
   have:=ih pos st acc ah h2 h3
   rw[Lib.spansFromP_end _ _ _ _ _ _ hp] at this
   exact this
theorem adx(l:List UInt8)(ha: ∀c∈l,c.toNat<128):Lib.goFieldsP yV ⟨l.toArray⟩=(iC [] l).map fun w=>(⟨w.toArray⟩:ByteArray):=by
 have h:=agJ ⟨l.toArray⟩ (by simpa using ha) (ByteArray.size ⟨l.toArray⟩) 0 none [] ah ah (fun a h=>by cases h)
 simp only[List.map_nil,List.nil_append,List.drop_zero] at h
 have h2:=congrArg (List.map fun w:List UInt8=>(⟨w.toArray⟩:ByteArray)) h
 rw[List.map_map] at h2
 unfold Lib.goFieldsP Lib.spansOfP
 rw[show(iC [] l)=iC [] (⟨l.toArray⟩:ByteArray).data.toList by simp,←h2]
 refine List.map_congr_left fun x _=> ?_
 exact ByteArray.ext fB
end Go.Eng
