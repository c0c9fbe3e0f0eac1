/-
  The findings of cues and script: the contracts of the program's functions and of the reference's.
  No conditions.
-/
import Derived.Test.YtocoppijdodffaaGreatDoorFQ2
import Derived.Test.YtocoppijdodffaaGreatDoorFQ4
import Derived.Test.YtocoppijdodffaaGreatDoorFM
set_option linter.unusedVariables false
set_option linter.unusedSimpArgs false
set_option maxHeartbeats 4000000
namespace Go.Eng
open Go Go.RowKit Go.Proofs
set_option maxRecDepth 100000
theorem FW{h:bM}(hv:gB h=true):mJ h.aX=true∧kV h.bD=true∧1≤h.iL∧h.iL≤20000:=by
 simp only[gB,inB,Bool.and_eq_true,decide_eq_true_eq] at hv
 exact⟨hv.2.2.2.2.2.1,hv.2.2.2.2.2.2.1,hv.2.2.2.2.2.2.2.2.2.2.2.1⟩
theorem UW{C:List aV}{i k:Nat}{a b:aV}(ha:C[i]? =some a)(hb:C[k]? =some b):Ef C [(i:Int),(k:Int)]=⟨2,a.fId,b.fId⟩:=by
 simp[Ef,List.getD_eq_getElem?_getD,ha,hb]
theorem VL{c:Int}(h:c=0):zy c=[]:=by rw[zy,if_pos h]
theorem VN{c:Int}(h: ¬c=0):zy c=[⟨3,runT,Ad c⟩]:=by rw[zy,if_neg h]
def tY(h:bM)(k:Nat):List gU:=((fA h.aX 0).take k).map (Ef h.aX)
theorem UZ{h:bM}{k:Nat}{s:List Int}(hs:(fA h.aX 0)[k]? =some s):tY h (k+1)=tY h k++[Ef h.aX s]:=by
 unfold tY
 rw[List.take_add_one,hs]
 simp
theorem UY(h:bM)(k:Nat):(tY h k).length≤(fA h.aX 0).length:=by
 simp only[tY,List.length_map,List.length_take]
 omega
theorem Jq{h:bM}(hl:h.aX.length≤32):(pO h).length≤1024:=by
 have:=Dk h.aX 0 hl
 simp only[pO,List.length_map]
 omega
theorem Nr(c:Int):(zy c).length≤1:=by unfold zy;split<;>simp
theorem zT{α:Type}{a b:List α}(h:b=[]):a++b=a:=by rw[h,List.append_nil]
set_option maxHeartbeats 16000000 in
theorem Y8(h:bM)(hv:gB h=true):ak Tryz.prog 83 GK 0 [] [.agg (jQ h)] (fun d os=>d= .h 0∧os=[.row 152 3 ((sG h).map eG)]):=by
 obtain⟨h1,h2,h3⟩:=FW hv
 have hcl:=Af h1
 have hsl:=zB h2
 have hpl:=Dk h.aX 0 hcl
 have hc1:=Jq hcl
 have hrc:=VJ h.bD h.iL
 have hrl:=Nr (lJ h.bD h.iL)
 have htl:=EC h.eF h.aX
 have hfl:=FD h.bD
 refine aF Tryz.func83 rfl aB rfl (fun w0 F0 lent β0=> ?_)
 repeat'(first|refine sC ?_|((with_reducible refine aj ?_);first|(refine sS ?_;intro Q' hn he hr)|refine sA ?_)|(refine sH ?_;clear hn he hr Q')|((conv=>whnf);first|refine sK ?_|((with_reducible refine aH ?_);(refine aG ((YL h.aX h1).aU) rfl rfl ?_))|(refine sL ?_;intro hlen)))
 refine aQ (fun k:Nat=>[(1,.hp 0 0),(3,.h 1),(22,.sl 1 ((fA h.aX 0).map jF)),(23,.int .i64 (fA h.aX 0).length),(24,.int .i64 k)]) (fun k=>[.box (jQ h), .row 152 3 ((tY h k).map eG)]) (fun k=>k≤(fA h.aX 0).length) (fun k=>(fA h.aX 0).length-k) 0 ah (by refine Weak.trans (yA 3 152 3 rfl rfl) (aC rfl rfl rfl ?_);exact⟨rfl,rfl,rfl,rfl,rfl,trivial⟩) (fun k hk Q' hn he hr=> ?_)
 have hml:=UY h k
 by_cases hkl:k<(fA h.aX 0).length
 ·obtain⟨s,hs⟩: ∃s,(fA h.aX 0)[k]? =some s:=⟨_,List.getElem?_eq_getElem hkl⟩
  obtain⟨i0,k0,rfl,hi0,hk0⟩:=Jh h.aX.length h.aX 0 ah s (List.mem_of_getElem? hs)
  obtain⟨a,ha⟩: ∃a,h.aX[i0]? =some a:=⟨_,List.getElem?_eq_getElem hi0⟩
  obtain⟨b,hb0⟩: ∃b,h.aX[k0]? =some b:=⟨_,List.getElem?_eq_getElem hk0⟩
  have hpf:=UW ha hb0
  repeat'(first|refine sC ?_|((with_reducible refine aj ?_);first|(refine sS ?_;intro Q' hn he hr)|refine sA ?_)|(refine sH ?_;clear hn he hr Q')|refine sO ?_|((conv=>whnf);first|refine sK ?_|(refine sB ?_;repeat'(refine aA ?_ ?_<;>intro hb<;>try exact cls))|(refine aJ.the hs ?_)|(refine aJ.the ha ?_)|(refine aJ.the hb0 ?_)|(refine aJ.lit 0 rfl rfl ?_)|(refine aJ.lit 1 rfl rfl ?_)|refine sP ?_|refine sD ?_))
  refine⟨k+1,by omega,by omega,?_⟩
  exact(by refine aC rfl rfl (by rw[UZ hs,hpf,List.map_append];rfl) ?_;((repeat'(first|exact trivial|refine And.intro ?_ ?_))<;>(first|rfl|(conv=>rhs;whnf)<;>(first|rfl|(refine congrArg (D.int _) ?_;omega)))))
 ·obtain rfl:k=(fA h.aX 0).length:=by omega
  have e1:tY h (fA h.aX 0).length=pO h:=by unfold tY pO;rw[List.take_length]
  rw[e1]
  repeat'(first|refine sC ?_|((with_reducible refine aj ?_);first|(refine sS ?_;intro Q' hn he hr)|refine sA ?_)|(refine sH ?_;clear hn he hr Q')|((conv=>whnf);first|refine sK ?_|(refine sB ?_;repeat'(refine aA ?_ ?_<;>intro hb<;>try exact cls))|(refine sL ?_;intro hlen)|(refine sH ?_;clear hn he hr Q')))
  refine aQ (fun k:Nat=>[(1,.hp 0 0),(3,.h 1),(50,.sl 6 (h.aX.map cO)),(51,.int .i64 h.aX.length),(52,.int .i64 k)]) (fun k=>[.box (jQ h), .row 152 3 ((pO h++mg h.eF (h.aX.take k)).map eG)]) (fun k=>k≤h.aX.length) (fun k=>h.aX.length-k) 0 ah (by refine aC rfl rfl (by rw[List.take_zero,zT (show mg h.eF []=[] from rfl)];rfl) ?_;((repeat'(first|exact trivial|refine And.intro ?_ ?_))<;>(first|rfl|(conv=>rhs;whnf)<;>(first|rfl|(refine congrArg (D.int _) ?_;omega))))) (fun k hk Q' hn he hr=> ?_)
  have hml:=EC h.eF (h.aX.take k)
  have htk:(h.aX.take k).length≤32:=by rw[List.length_take];omega
  have hal:(pO h++mg h.eF (h.aX.take k)).length≤1056:=by rw[List.length_append];omega
  by_cases hkl:k<h.aX.length
  ·obtain⟨c,hc⟩: ∃c,h.aX[k]? =some c:=⟨_,List.getElem?_eq_getElem hkl⟩
   repeat'(first|refine sC ?_|((with_reducible refine aj ?_);first|(refine sS ?_;intro Q' hn he hr)|refine sA ?_)|(refine sH ?_;clear hn he hr Q')|((conv=>whnf);first|refine sK ?_|(refine sB ?_;repeat'(refine aA ?_ ?_<;>intro hb<;>try exact cls))|(refine aJ.the hc ?_)|((with_reducible refine aH ?_);(refine jq ((ZJ h.eF c).aU) rfl ?_))|refine sP ?_))
   all_goals first
    |(refine⟨k+1,by omega,by omega,?_⟩
      exact(by refine aC rfl rfl (by rw[WM hc ah,←List.append_assoc,List.map_append (l₂:=[_])];rfl) ?_;((repeat'(first|exact trivial|refine And.intro ?_ ?_))<;>(first|rfl|(conv=>rhs;whnf)<;>(first|rfl|(refine congrArg (D.int _) ?_;omega))))))
    |(refine⟨k+1,by omega,by omega,?_⟩
      exact(by refine aC rfl rfl (by rw[WL hc ah];rfl) ?_;((repeat'(first|exact trivial|refine And.intro ?_ ?_))<;>(first|rfl|(conv=>rhs;whnf)<;>(first|rfl|(refine congrArg (D.int _) ?_;omega))))))
  ·obtain rfl:k=h.aX.length:=by omega
   have e2:pO h++mg h.eF (h.aX.take h.aX.length)=wP h:=by rw[List.take_length];rfl
   rw[e2] at hal⊢
   have h3l:(kC h).length≤1060:=by unfold kC;rw[List.length_append];omega
   have hfin: ∀k,((kC h++kY h.aX ((dF h.bD).take k))).length≤1200:=fun k=>by
    have h5:=NP h.aX ((dF h.bD).take k)
    have h6:((dF h.bD).take k).length≤40:=by rw[List.length_take];omega
    rw[List.length_append];omega
   by_cases hz:lJ h.bD h.iL=0
   ·have e3:wP h=kC h:=by rw[kC,VL hz,List.append_nil]
    rw[e3] at hal⊢
    have hrs:=OB h.bD h.iL h2 h3
    rw[hz] at hrs
    repeat'(first|refine sC ?_|((with_reducible refine aj ?_);first|(refine sS ?_;intro Q' hn he hr)|refine sA ?_)|(refine sH ?_;clear hn he hr Q')|((conv=>whnf);first|refine sK ?_|(refine sB ?_;repeat'(refine aA ?_ ?_<;>intro hb<;>try exact cls))|((with_reducible refine aH ?_);first|(refine aG (hrs.aU) rfl rfl ?_)|(refine aG ((OA h.bD h2).aU) rfl rfl ?_))|(refine sL ?_;intro hlen)|(refine sH ?_;clear hn he hr Q')))
    refine aQ (fun k:Nat=>[(1,.hp 0 0),(3,.h 1),(92,.sl 1 ((dF h.bD).map encS)),(93,.int .i64 (dF h.bD).length),(94,.int .i64 k)]) (fun k=>[.box (jQ h), .row 152 3 ((kC h++kY h.aX ((dF h.bD).take k)).map eG)]) (fun k=>k≤(dF h.bD).length) (fun k=>(dF h.bD).length-k) 0 ah Hq (fun k hk Q' hn he hr=> ?_)
    have hkl2:=hfin k
    have yZ:=hfin k
    rw[List.length_append] at yZ
    by_cases hkl:k<(dF h.bD).length
    ·obtain⟨m,hm⟩: ∃m,(dF h.bD)[k]? =some m:=⟨_,List.getElem?_eq_getElem hkl⟩
     repeat'(first|refine sC ?_|((with_reducible refine aj ?_);first|(refine sS ?_;intro Q' hn he hr)|refine sA ?_)|(refine sH ?_;clear hn he hr Q')|((conv=>whnf);first|refine sK ?_|(refine sB ?_;repeat'(refine aA ?_ ?_<;>intro hb<;>try exact cls))|(refine aJ.the hm ?_)|((with_reducible refine aH ?_);(refine aG ((IK h.aX m).aU) rfl rfl ?_))|refine sP ?_))
     all_goals first
      |(refine⟨k+1,by omega,by omega,?_⟩
        exact Ht)
      |(refine⟨k+1,by omega,by omega,?_⟩
        exact Hr)
    ·obtain rfl:k=(dF h.bD).length:=by omega
     rw[List.take_length]
     repeat'(first|refine sC ?_|((with_reducible refine aj ?_);first|(refine sS ?_;intro Q' hn he hr)|refine sA ?_)|(refine sH ?_;clear hn he hr Q')|((conv=>whnf);first|refine sK ?_|(refine sB ?_;repeat'(refine aA ?_ ?_<;>intro hb<;>try exact cls))|((with_reducible refine bP ?_);(refine au [1] rfl rfl rfl ⟨rfl,?_⟩))|(refine sH ?_;clear hn he hr Q')))
     all_goals rfl
   ·have e3:kC h=wP h++[⟨3,runT,Ad (lJ h.bD h.iL)⟩]:=by rw[kC,VN hz]
    repeat'(first|refine sC ?_|((with_reducible refine aj ?_);first|(refine sS ?_;intro Q' hn he hr)|refine sA ?_)|(refine sH ?_;clear hn he hr Q')|((conv=>whnf);first|refine sK ?_|(refine sB ?_;repeat'(refine aA ?_ ?_<;>intro hb<;>try exact cls))|((with_reducible refine aH ?_);first|(refine aG ((OB h.bD h.iL h2 h3).aU) rfl rfl ?_)|(refine aG (YM (lJ h.bD h.iL) ah) rfl rfl ?_)|(refine aG ((OA h.bD h2).aU) rfl rfl ?_))|refine sP ?_|(refine sL ?_;intro hlen)|(refine sH ?_;clear hn he hr Q')))
    refine aQ (fun k:Nat=>[(1,.hp 0 0),(3,.h 1),(92,.sl 1 ((dF h.bD).map encS)),(93,.int .i64 (dF h.bD).length),(94,.int .i64 k)]) (fun k=>[.box (jQ h), .row 152 3 ((kC h++kY h.aX ((dF h.bD).take k)).map eG)]) (fun k=>k≤(dF h.bD).length) (fun k=>(dF h.bD).length-k) 0 ah Hq (fun k hk Q' hn he hr=> ?_)
    have hkl2:=hfin k
    have yZ:=hfin k
    rw[List.length_append] at yZ
    by_cases hkl:k<(dF h.bD).length
    ·obtain⟨m,hm⟩: ∃m,(dF h.bD)[k]? =some m:=⟨_,List.getElem?_eq_getElem hkl⟩
     repeat'(first|refine sC ?_|((with_reducible refine aj ?_);first|(refine sS ?_;intro Q' hn he hr)|refine sA ?_)|(refine sH ?_;clear hn he hr Q')|((conv=>whnf);first|refine sK ?_|(refine sB ?_;repeat'(refine aA ?_ ?_<;>intro hb<;>try exact cls))|(refine aJ.the hm ?_)|((with_reducible refine aH ?_);(refine aG ((IK h.aX m).aU) rfl rfl ?_))|refine sP ?_))
     all_goals first
      |(refine⟨k+1,by omega,by omega,?_⟩
        exact Ht)
      |(refine⟨k+1,by omega,by omega,?_⟩
        exact Hr)
    ·obtain rfl:k=(dF h.bD).length:=by omega
     rw[List.take_length]
     repeat'(first|refine sC ?_|((with_reducible refine aj ?_);first|(refine sS ?_;intro Q' hn he hr)|refine sA ?_)|(refine sH ?_;clear hn he hr Q')|((conv=>whnf);first|refine sK ?_|(refine sB ?_;repeat'(refine aA ?_ ?_<;>intro hb<;>try exact cls))|((with_reducible refine bP ?_);(refine au [1] rfl rfl rfl ⟨rfl,?_⟩))|(refine sH ?_;clear hn he hr Q')))
     all_goals rfl
set_option maxHeartbeats 16000000 in
theorem aaV(h:bM)(r:List D)(hv:gB h=true):ak Tryz.prog 132 G0 0 [] [.rp (oz h r)] (fun d os=>d= .h 0∧os=[.row 152 3 ((sG h).map eG)]):=by
 obtain⟨h1,h2,h3⟩:=FW hv
 have hcl:=Af h1
 have hsl:=zB h2
 have hpl:=Dk h.aX 0 hcl
 have hc1:=Jq hcl
 have hrc:=VJ h.bD h.iL
 have hrl:=Nr (lJ h.bD h.iL)
 have htl:=EC h.eF h.aX
 have hfl:=FD h.bD
 refine aF Tryz.func132 rfl aB rfl (fun w0 F0 lent β0=> ?_)
 repeat'(first|refine sC ?_|((with_reducible refine aj ?_);first|(refine sS ?_;intro Q' hn he hr)|refine sA ?_)|(refine sH ?_;clear hn he hr Q')|((conv=>whnf);first|refine sK ?_|((with_reducible refine aH ?_);(refine aG (aas h.aX h1) rfl rfl ?_))))
 refine aQ (fun k:Nat=>[(0,.rp (oz h r)),(3,.h 0),(4,.sl 1 ((fA h.aX 0).map jF)),(5,.int .i64 k)]) (fun k=>[.row 152 3 ((tY h k).map eG)]) (fun k=>k≤(fA h.aX 0).length) (fun k=>(fA h.aX 0).length-k) 0 ah aI (fun k hk Q' hn he hr=> ?_)
 have hml:=UY h k
 by_cases hkl:k<(fA h.aX 0).length
 ·obtain⟨s,hs⟩: ∃s,(fA h.aX 0)[k]? =some s:=⟨_,List.getElem?_eq_getElem hkl⟩
  obtain⟨i0,k0,rfl,hi0,hk0⟩:=Jh h.aX.length h.aX 0 ah s (List.mem_of_getElem? hs)
  obtain⟨a,ha⟩: ∃a,h.aX[i0]? =some a:=⟨_,List.getElem?_eq_getElem hi0⟩
  obtain⟨b,hb0⟩: ∃b,h.aX[k0]? =some b:=⟨_,List.getElem?_eq_getElem hk0⟩
  have hpf:=UW ha hb0
  repeat'(first|refine sC ?_|((with_reducible refine aj ?_);first|(refine sS ?_;intro Q' hn he hr)|refine sA ?_)|(refine sH ?_;clear hn he hr Q')|refine sO ?_|((conv=>whnf);first|refine sK ?_|(refine sB ?_;repeat'(refine aA ?_ ?_<;>intro hb<;>try exact cls))|(refine aJ.the hs ?_)|(refine aJ.the ha ?_)|(refine aJ.the hb0 ?_)|(refine aJ.lit 0 rfl rfl ?_)|(refine aJ.lit 1 rfl rfl ?_)|refine sP ?_|(refine sL ?_;intro hlen)|refine sD ?_))
  refine⟨k+1,by omega,by omega,?_⟩
  exact(by refine aC rfl rfl (by rw[UZ hs,hpf,List.map_append];rfl) ?_;((repeat'(first|exact trivial|refine And.intro ?_ ?_))<;>(first|rfl|(conv=>rhs;whnf)<;>(first|rfl|(refine congrArg (D.int _) ?_;omega)))))
 ·obtain rfl:k=(fA h.aX 0).length:=by omega
  have e1:tY h (fA h.aX 0).length=pO h:=by unfold tY pO;rw[List.take_length]
  rw[e1]
  repeat'(first|refine sC ?_|((with_reducible refine aj ?_);first|(refine sS ?_;intro Q' hn he hr)|refine sA ?_)|(refine sH ?_;clear hn he hr Q')|((conv=>whnf);first|refine sK ?_|(refine sB ?_;repeat'(refine aA ?_ ?_<;>intro hb<;>try exact cls))|(refine sL ?_;intro hlen)|(refine sH ?_;clear hn he hr Q')))
  refine aQ (fun k:Nat=>[(0,.rp (oz h r)),(3,.h 0),(6,.int .i64 k)]) (fun k=>[.row 152 3 ((pO h++mg h.eF (h.aX.take k)).map eG)]) (fun k=>k≤h.aX.length) (fun k=>h.aX.length-k) 0 ah (by refine aC rfl rfl (by rw[List.take_zero,zT (show mg h.eF []=[] from rfl)];rfl) ?_;((repeat'(first|exact trivial|refine And.intro ?_ ?_))<;>(first|rfl|(conv=>rhs;whnf)<;>(first|rfl|(refine congrArg (D.int _) ?_;omega))))) (fun k hk Q' hn he hr=> ?_)
  have hml:=EC h.eF (h.aX.take k)
  have htk:(h.aX.take k).length≤32:=by rw[List.length_take];omega
  have hal:(pO h++mg h.eF (h.aX.take k)).length≤1056:=by rw[List.length_append];omega
  by_cases hkl:k<h.aX.length
  ·obtain⟨c,hc⟩: ∃c,h.aX[k]? =some c:=⟨_,List.getElem?_eq_getElem hkl⟩
   repeat'(first|refine sC ?_|((with_reducible refine aj ?_);first|(refine sS ?_;intro Q' hn he hr)|refine sA ?_)|(refine sH ?_;clear hn he hr Q')|refine sO ?_|((conv=>whnf);first|refine sK ?_|(refine sB ?_;repeat'(refine aA ?_ ?_<;>intro hb<;>try exact cls))|(refine aJ.the hc ?_)|((with_reducible refine aH ?_);(refine aG (aaX h r c.kR) rfl rfl ?_))|refine sP ?_|(refine sL ?_;intro hlen)|refine sD ?_))
   all_goals first
    |(refine⟨k+1,by omega,by omega,?_⟩
      exact(by refine aC rfl rfl (by rw[WM hc ah,←List.append_assoc,List.map_append (l₂:=[_])];rfl) ?_;((repeat'(first|exact trivial|refine And.intro ?_ ?_))<;>(first|rfl|(conv=>rhs;whnf)<;>(first|rfl|(refine congrArg (D.int _) ?_;omega))))))
    |(refine⟨k+1,by omega,by omega,?_⟩
      exact(by refine aC rfl rfl (by rw[WL hc ah];rfl) ?_;((repeat'(first|exact trivial|refine And.intro ?_ ?_))<;>(first|rfl|(conv=>rhs;whnf)<;>(first|rfl|(refine congrArg (D.int _) ?_;omega))))))
  ·obtain rfl:k=h.aX.length:=by omega
   have e2:pO h++mg h.eF (h.aX.take h.aX.length)=wP h:=by rw[List.take_length];rfl
   rw[e2] at hal⊢
   have h3l:(kC h).length≤1060:=by unfold kC;rw[List.length_append];omega
   have hfin: ∀k,((kC h++kY h.aX ((dF h.bD).take k))).length≤1200:=fun k=>by
    have h5:=NP h.aX ((dF h.bD).take k)
    have h6:((dF h.bD).take k).length≤40:=by rw[List.length_take];omega
    rw[List.length_append];omega
   by_cases hz:lJ h.bD h.iL=0
   ·have e3:wP h=kC h:=by rw[kC,VL hz,List.append_nil]
    rw[e3] at hal⊢
    have hrs:=PL h.bD h.iL h2 h3
    rw[hz] at hrs
    repeat'(first|refine sC ?_|((with_reducible refine aj ?_);first|(refine sS ?_;intro Q' hn he hr)|refine sA ?_)|(refine sH ?_;clear hn he hr Q')|refine sO ?_|((conv=>whnf);first|refine sK ?_|(refine sB ?_;repeat'(refine aA ?_ ?_<;>intro hb<;>try exact cls))|((with_reducible refine aH ?_);(refine aG (PD h.bD h2) rfl rfl ?_))|((with_reducible refine aZ ?_);(refine aT (hrs) rfl rfl ?_))|(refine sL ?_;intro hlen)|refine sD ?_|(refine sH ?_;clear hn he hr Q')))
    refine aQ (fun k:Nat=>[(0,.rp (oz h r)),(3,.h 0),(9,.sl 1 ((dF h.bD).map encS)),(11,.int .i64 k)]) (fun k=>[.row 152 3 ((kC h++kY h.aX ((dF h.bD).take k)).map eG)]) (fun k=>k≤(dF h.bD).length) (fun k=>(dF h.bD).length-k) 0 ah Hq (fun k hk Q' hn he hr=> ?_)
    have hkl2:=hfin k
    have yZ:=hfin k
    rw[List.length_append] at yZ
    by_cases hkl:k<(dF h.bD).length
    ·obtain⟨m,hm⟩: ∃m,(dF h.bD)[k]? =some m:=⟨_,List.getElem?_eq_getElem hkl⟩
     repeat'(first|refine sC ?_|((with_reducible refine aj ?_);first|(refine sS ?_;intro Q' hn he hr)|refine sA ?_)|(refine sH ?_;clear hn he hr Q')|refine sO ?_|((conv=>whnf);first|refine sK ?_|(refine sB ?_;repeat'(refine aA ?_ ?_<;>intro hb<;>try exact cls))|(refine aJ.the hm ?_)|((with_reducible refine aZ ?_);(refine aT (IZ h.aX m) rfl rfl ?_))|refine sP ?_|(refine sL ?_;intro hlen)|refine sD ?_))
     all_goals first
      |(refine⟨k+1,by omega,by omega,?_⟩
        exact Ht)
      |(refine⟨k+1,by omega,by omega,?_⟩
        exact Hr)
    ·obtain rfl:k=(dF h.bD).length:=by omega
     rw[List.take_length]
     repeat'(first|refine sC ?_|((with_reducible refine aj ?_);first|(refine sS ?_;intro Q' hn he hr)|refine sA ?_)|(refine sH ?_;clear hn he hr Q')|((conv=>whnf);first|refine sK ?_|(refine sB ?_;repeat'(refine aA ?_ ?_<;>intro hb<;>try exact cls))|((with_reducible refine bP ?_);(refine au [0] rfl rfl rfl ⟨rfl,?_⟩))|(refine sL ?_;intro hlen)|(refine sH ?_;clear hn he hr Q')))
     all_goals rfl
   ·have e3:kC h=wP h++[⟨3,runT,Ad (lJ h.bD h.iL)⟩]:=by rw[kC,VN hz]
    repeat'(first|refine sC ?_|((with_reducible refine aj ?_);first|(refine sS ?_;intro Q' hn he hr)|refine sA ?_)|(refine sH ?_;clear hn he hr Q')|refine sO ?_|((conv=>whnf);first|refine sK ?_|(refine sB ?_;repeat'(refine aA ?_ ?_<;>intro hb<;>try exact cls))|((with_reducible refine aH ?_);first|(refine aG (ZT (lJ h.bD h.iL) ah) rfl rfl ?_)|(refine aG (PD h.bD h2) rfl rfl ?_))|((with_reducible refine aZ ?_);(refine aT (PL h.bD h.iL h2 h3) rfl rfl ?_))|refine sP ?_|(refine sL ?_;intro hlen)|refine sD ?_|(refine sH ?_;clear hn he hr Q')))
    refine aQ (fun k:Nat=>[(0,.rp (oz h r)),(3,.h 0),(9,.sl 1 ((dF h.bD).map encS)),(11,.int .i64 k)]) (fun k=>[.row 152 3 ((kC h++kY h.aX ((dF h.bD).take k)).map eG)]) (fun k=>k≤(dF h.bD).length) (fun k=>(dF h.bD).length-k) 0 ah Hq (fun k hk Q' hn he hr=> ?_)
    have hkl2:=hfin k
    have yZ:=hfin k
    rw[List.length_append] at yZ
    by_cases hkl:k<(dF h.bD).length
    ·obtain⟨m,hm⟩: ∃m,(dF h.bD)[k]? =some m:=⟨_,List.getElem?_eq_getElem hkl⟩
     repeat'(first|refine sC ?_|((with_reducible refine aj ?_);first|(refine sS ?_;intro Q' hn he hr)|refine sA ?_)|(refine sH ?_;clear hn he hr Q')|refine sO ?_|((conv=>whnf);first|refine sK ?_|(refine sB ?_;repeat'(refine aA ?_ ?_<;>intro hb<;>try exact cls))|(refine aJ.the hm ?_)|((with_reducible refine aZ ?_);(refine aT (IZ h.aX m) rfl rfl ?_))|refine sP ?_|(refine sL ?_;intro hlen)|refine sD ?_))
     all_goals first
      |(refine⟨k+1,by omega,by omega,?_⟩
        exact Ht)
      |(refine⟨k+1,by omega,by omega,?_⟩
        exact Hr)
    ·obtain rfl:k=(dF h.bD).length:=by omega
     rw[List.take_length]
     repeat'(first|refine sC ?_|((with_reducible refine aj ?_);first|(refine sS ?_;intro Q' hn he hr)|refine sA ?_)|(refine sH ?_;clear hn he hr Q')|((conv=>whnf);first|refine sK ?_|(refine sB ?_;repeat'(refine aA ?_ ?_<;>intro hb<;>try exact cls))|((with_reducible refine bP ?_);(refine au [0] rfl rfl rfl ⟨rfl,?_⟩))|(refine sL ?_;intro hlen)|(refine sH ?_;clear hn he hr Q')))
     all_goals rfl
theorem Qm{h:bM}(hv:gB h=true):(sG h).length≤1200:=by
 obtain⟨h1,h2,_⟩:=FW hv
 have hcl:=Af h1
 have hsl:=zB h2
 have hc1:=Jq hcl
 have hrl:=Nr (lJ h.bD h.iL)
 have htl:=EC h.eF h.aX
 have hfl:=FD h.bD
 have hul:=NP h.aX (dF h.bD)
 simp only[sG,kC,wP,List.length_append]
 omega
end Go.Eng
