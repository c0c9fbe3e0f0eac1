/-
  The findings of the dome: the contract of the program's function.
  No conditions.
-/
import Derived.Test.YtocoppijdodffaaGreatDoorFD
import Derived.Test.YtocoppijdodffaaGreatDoorJL
set_option linter.unusedVariables false
set_option linter.unusedSimpArgs false
set_option maxHeartbeats 4000000
namespace Go.Eng
open Go Go.RowKit Go.Proofs
set_option maxRecDepth 100000
set_option maxHeartbeats 8000000 in
theorem Zd(h:bM)(hv:gB h=true):ak Tryz.prog 82 zN 0 [] [.agg (jQ h)] (fun d os=>d= .h 0∧os=[.row 152 3 ((sU h).map eG)]):=by
 obtain⟨h1,h2⟩:=Ku hv
 have hdl:=Ah h.dU (dL h.dw)
 have hsl:=BG h.dw
 refine aF Tryz.func82 rfl aB rfl (fun w0 F0 lent β0=> ?_)
 repeat'(first|refine sC ?_|((with_reducible refine aj ?_);first|(refine sS ?_;intro Q' hn he hr)|refine sA ?_)|(refine sH ?_;clear hn he hr Q')|((conv=>whnf);first|refine sK ?_|((with_reducible refine aH ?_);(refine aG ((YN h.dU h.dw h1 h2).Wu) rfl rfl ?_))|(refine sL ?_;intro hlen)))
 refine aQ (fun k:Nat=>[(5,.h 1),(16,.sl 1 ((iD h.dU (dL h.dw)).map jF)),(17,.int .i64 (iD h.dU (dL h.dw)).length),(18,.int .i64 k)]) (fun k=>[.box (jQ h), .row 152 3 ((vG h k).map eG)]) (fun k=>k≤(iD h.dU (dL h.dw)).length) (fun k=>(iD h.dU (dL h.dw)).length-k) 0 ah (by refine Weak.trans (yA 5 152 3 rfl rfl) (aC rfl rfl rfl ?_);exact⟨rfl,rfl,rfl,rfl,trivial⟩) (fun k hk Q' hn he hr=> ?_)
 have hml:=QD h k
 by_cases hkl:k<(iD h.dU (dL h.dw)).length
 ·obtain⟨t,ht⟩: ∃t,(iD h.dU (dL h.dw))[k]? =some t:=⟨_,List.getElem?_eq_getElem hkl⟩
  obtain⟨a,z,rfl,ha,hh⟩:=GU ah (Qx (List.mem_of_getElem? ht))
  have hlt:=YQ [a,z] ⟨by simp,by simp⟩ (by
   intro k n hk
   match k,hk with
   |0,hk=>cases hk;omega
   |1,hk=>cases hk;omega)
  repeat'(first|refine sC ?_|((with_reducible refine aj ?_);first|(refine sS ?_;intro Q' hn he hr)|refine sA ?_)|(refine sH ?_;clear hn he hr Q')|((conv=>whnf);first|refine sK ?_|(refine sB ?_;repeat'(refine aA ?_ ?_<;>intro hb<;>try exact cls))|(refine aJ.the ht ?_)|((with_reducible refine aH ?_);(refine aG (hlt.Ny) rfl rfl ?_))|refine sP ?_))
  refine⟨k+1,by omega,by omega,?_⟩
  exact(by refine aC rfl rfl (by rw[QE ht,List.map_append];rfl) ?_;((repeat'(first|exact trivial|refine And.intro ?_ ?_))<;>(first|rfl|(conv=>rhs;whnf)<;>(first|rfl|(refine congrArg (D.int _) ?_;omega)))))
 ·obtain rfl:k=(iD h.dU (dL h.dw)).length:=by omega
  repeat'(first|refine sC ?_|((with_reducible refine aj ?_);first|(refine sS ?_;intro Q' hn he hr)|refine sA ?_)|(refine sH ?_;clear hn he hr Q')|((conv=>whnf);first|refine sK ?_|(refine sB ?_;repeat'(refine aA ?_ ?_<;>intro hb<;>try exact cls))|((with_reducible refine bP ?_);(refine au [1] rfl rfl rfl ⟨rfl,?_⟩))|(refine sH ?_;clear hn he hr Q')))
  unfold vG
  rw[List.take_length]
  rfl
end Go.Eng
