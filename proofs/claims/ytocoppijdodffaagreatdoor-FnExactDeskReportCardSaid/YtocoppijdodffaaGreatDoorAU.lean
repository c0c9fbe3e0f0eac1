/-
  All findings of a house, by the program and by the reference; whether a house passes.
  No conditions.
-/
import Derived.Test.YtocoppijdodffaaGreatDoorFE
import Derived.Test.YtocoppijdodffaaGreatDoorFU
import Derived.Test.YtocoppijdodffaaGreatDoorFQ3
import Derived.Test.YtocoppijdodffaaGreatDoorGC
set_option linter.unusedVariables false
set_option linter.unusedSimpArgs false
set_option maxHeartbeats 4000000
namespace Go.Eng
open Go Go.RowKit Go.Proofs
set_option maxRecDepth 100000
noncomputable def pK(h:bM):List gU:=sU h++sG h++uj h++tH h
theorem Om{h:bM}(hv:gB h=true):(pK h).length≤2000:=by
 have h1:=QB h
 have h2:=Qm hv
 have h3:(uj h).length≤h.dZ.length:=Ey h h.dZ.length
 have h4:(tH h).length≤h.dh.length:=DW h.dJ h.fK h.dh h.dh.length
 obtain⟨_,h5,_⟩:=FY hv
 have h6:=AV h5
 have h7:=ER hv
 unfold pK
 simp only[List.length_append]
 omega
theorem afN{h:bM}(hv:gB h=true):(sU h).length≤480∧(sG h).length≤1200∧(uj h).length≤120∧(tH h).length≤16:=by
 have h1:=QB h
 have h2:=Qm hv
 have h3:(uj h).length≤h.dZ.length:=Ey h h.dZ.length
 have h4:(tH h).length≤h.dh.length:=DW h.dJ h.fK h.dh h.dh.length
 obtain⟨_,h5,_⟩:=FY hv
 have h6:=AV h5
 have h7:=ER hv
 omega
def GA:Nat→Option (List D):=fun g=>if g=1 then some (Lib.pow10Tab.map fun z=> .int .u64 z) else if g=0 then some (Fj.map .str) else if g=2 then some (jW.map (.int .i64)) else none
theorem ak.aS{f:FuncId}{pin:Nat}{os:List Obj}{ds:List D}{post:D→List Obj→Prop}(h:ak Tryz.prog f zN pin os ds post):ak Tryz.prog f GA pin os ds post:=h.Lm fun g cs hg=>by
 unfold zN at hg
 split at hg
 ·rename_i e;subst e;cases hg;rfl
 ·split at hg
  ·rename_i e;subst e;cases hg;rfl
  ·cases hg
theorem ak.aK{f:FuncId}{pin:Nat}{os:List Obj}{ds:List D}{post:D→List Obj→Prop}(h:ak Tryz.prog f GK pin os ds post):ak Tryz.prog f GA pin os ds post:=ak.nU h rfl
theorem ak.aP{f:FuncId}{pin:Nat}{os:List Obj}{ds:List D}{post:D→List Obj→Prop}(h:ak Tryz.prog f GP pin os ds post):ak Tryz.prog f GA pin os ds post:=ak.nU h rfl
theorem Oo{h:bM} :([sU h,sG h,uj h,tH h]:List (List gU)).flatten=pK h:=by
 simp[pK]
theorem XK(h:bM): []++(sU h).map eG++(sG h).map eG++(uj h).map eG++(tH h).map eG=(pK h).map eG:=by
 simp[pK]
theorem XL{h:bM}(hv:gB h=true):ou [sU h,sG h,uj h,tH h]≤1000000:=by
 have:=Om hv
 rw[←FK,Oo]
 omega
set_option maxHeartbeats 8000000 in
theorem YK(h:bM)(hv:gB h=true):ak Tryz.prog 29 GA 0 [] [.agg (jQ h)] (fun d os=>d= .aN [.h 0, .int .i64 0]∧os=[.row 152 3 ((pK h).map eG)]):=by
 have hc:=ZI [sU h,sG h,uj h,tH h] fB (XL hv)
 rw[Oo] at hc
 refine aF Tryz.func29 rfl aB rfl (fun w0 F0 lent β0=> ?_)
 repeat'(first|refine sC ?_|((with_reducible refine aj ?_);first|(refine sS ?_;intro Q' hn he hr)|refine sA ?_)|(refine sH ?_;clear hn he hr Q')|refine sO ?_|((conv=>whnf);first|refine sK ?_|(refine sB ?_;repeat'(refine aA ?_ ?_<;>intro hb<;>try exact cls))|((with_reducible refine aH ?_);first|(refine aG ((OH h).aU) rfl rfl ?_)|(refine oq hc.aU rfl (oM (iV.map fun _=>rfl)) dQ ?_))|((with_reducible refine aZ ?_);first|(refine ku (.sl 3 ((sU h).map eG)) (Zd h hv).aS rfl lg ?_)|(refine ku (.sl 3 ((sG h).map eG)) (Y8 h hv).aK rfl lg ?_)|(refine ku (.sl 3 ((uj h).map eG)) (Zm h hv).aS rfl lg ?_)|(refine ku (.sl 3 ((tH h).map eG)) (Zi h hv).aP rfl lg ?_))|((with_reducible refine bP ?_);(refine au [2] rfl rfl rfl ⟨rfl,rfl⟩))|refine sD ?_))
set_option maxHeartbeats 8000000 in
theorem aaU(h:bM)(r:List D)(hv:gB h=true):ak Tryz.prog 61 G0 0 [] [.rp (oz h r)] (fun d os=>d= .h 0∧os=[.row 152 3 ((pK h).map eG)]):=by
 obtain⟨l1,l2,l3,l4⟩:=afN hv
 refine aF Tryz.func61 rfl aB rfl (fun w0 F0 lent β0=> ?_)
 repeat'(first|refine sC ?_|((with_reducible refine aj ?_);first|(refine sS ?_;intro Q' hn he hr)|refine sA ?_)|(refine sH ?_;clear hn he hr Q')|((conv=>whnf);first|refine sK ?_|((with_reducible refine aH ?_);first|(refine jP (aaW h r hv) rfl dQ ?_)|(refine jP (aaV h r hv) rfl dQ ?_)|(refine jP (aaZ h r hv) rfl dQ ?_)|(refine jP (aaY h r hv) rfl dQ ?_))|refine sP ?_|(refine au [0] rfl rfl rfl ⟨rfl,?_⟩)))
 all_goals exact congrArg (fun x=>[Obj.row 152 3 x]) (XK h)
theorem ZR(h:bM)(hv:gB h=true):ak Tryz.prog 20 G0 0 [] [.agg (jQ h)] (fun d os=>d= .aN [.h 0, .int .i64 0]∧os=[.row 152 3 ((pK h).map eG)]):=by
 refine aF Tryz.func20 rfl aB rfl (fun w0 F0 lent β0=> ?_)
 repeat'(first|refine sC ?_|((with_reducible refine aj ?_);first|(refine sS ?_;intro Q' hn he hr)|refine sA ?_)|(refine sH ?_;clear hn he hr Q')|refine sO ?_|((conv=>whnf);first|refine sK ?_|(refine sB ?_;repeat'(first|refine sb0 ?_|(refine aA ?_ ?_<;>intro hb<;>try exact cls)))|((with_reducible refine aH ?_);first|(refine jq (I9 h []) rfl ?_)|(refine oq (aaU h [] hv) rfl (oM (iV.map fun _=>rfl)) dQ ?_))|((with_reducible refine aZ ?_);(refine lu (I9 h []) rfl ?_))|((with_reducible refine bP ?_);(refine au [1] rfl rfl rfl ⟨rfl,rfl⟩))|refine sP ?_|(refine sE ?_;intro x hx)|(refine sF ?_;intro i y hi hy)|(refine sI ?_;intro i hi)|(refine sL ?_;intro hlen)|(refine sQ ?_;intro c hc hcm;try simp only[oQ,qp,qw,qx] at hc)|(refine sX ?_;intro i1 i2 hi1 hi2 hj1 hj2;try simp only[gJ,oQ,qp,qw,qx,uN,uK,uM] at hi1 hi2 hj2)|refine sD ?_|(refine au [] rfl rfl rfl ⟨?_,rfl⟩;conv=>lhs;whnf)|(refine au [0] rfl rfl rfl ⟨rfl,?_⟩)|(refine sH ?_;clear hn he hr Q')))
end Go.Eng
