/-
  Plans of loading and the findings of the media: the contracts of the program's functions and of the reference's.
  No conditions.
-/
import Derived.Test.YtocoppijdodffaaGreatDoorMF0
set_option linter.unusedVariables false
set_option linter.unusedSimpArgs false
set_option maxHeartbeats 4000000
namespace Go.Eng
open Go Go.RowKit Go.Proofs
set_option maxRecDepth 100000
theorem Vj{a b:Int}(ha:0≤a∧a≤100000000)(hb0:1≤b∧b≤100000): -9223372036854775808≤(a+b-1).tdiv b∧(a+b-1).tdiv b≤9223372036854775807:=by
 rw[Int.tdiv_eq_ediv_of_nonneg ah]
 have h1:0≤(a+b-1)/b:=Int.ediv_nonneg ah ah
 have h2:=Int.ediv_le_self (b:=b) (show 0≤a+b-1 by omega)
 omega
theorem OX(a b:Int)(ha:0≤a∧a≤100000000)(hb0:1≤b∧b≤100000):ak Tryz.prog 237 G0 0 [] [.int .i64 a, .int .i64 b] (fun d os=>d= .int .i64 ((a+b-1).tdiv b)∧os=[]):=by
 have hq:=Vj ha hb0
 refine aF Tryz.func237 rfl aB rfl (fun w0 F0 lent β0=> ?_)
 repeat'(first|refine sC ?_|((with_reducible refine aj ?_);first|(refine sS ?_;intro Q' hn he hr)|refine sA ?_)|(refine sH ?_;clear hn he hr Q')|((conv=>whnf);first|refine sK ?_|(refine bZ.mk ⟨by omega,?_⟩)|(refine bn.lD hq ?_)|refine sP ?_|(refine au [] rfl rfl rfl ⟨?_,rfl⟩;conv=>lhs;whnf)))
theorem PU(s b:Int)(hs:0≤s∧s≤100000)(hb0:1≤b∧b≤100000):ak Tryz.prog 208 G0 0 [] [.int .i64 s, .int .i64 b] (fun d os=>d= .int .i64 ((1000*s+b-1).tdiv b)∧os=[]):=by
 have hq:=Vj (a:=1000*s) (b:=b) ah hb0
 refine aF Tryz.func208 rfl aB rfl (fun w0 F0 lent β0=> ?_)
 repeat'(first|refine sC ?_|((with_reducible refine aj ?_);first|(refine sS ?_;intro Q' hn he hr)|refine sA ?_)|(refine sH ?_;clear hn he hr Q')|((conv=>whnf);first|refine sK ?_|(refine bZ.mk ⟨by omega,?_⟩)|(refine bn.lD hq ?_)|refine sP ?_|(refine au [] rfl rfl rfl ⟨?_,rfl⟩;conv=>lhs;whnf)))
theorem YS(M:List bC)(n:List UInt8)(b:Int)(hv:iT M=true)(hb0:1≤b∧b≤100000)(hs: ¬kX M n=0):ak Tryz.prog 169 G0 0 [] [.sl 2 (M.map dM), .str n, .int .i64 b] (fun d os=>d= .aN [.int .i64 (loadT M b n), .int .i64 0]∧os=[]):=by
 have hz:=BN hv n
 have hv2:inB b 1 100000=true:=by simp[inB];omega
 refine aF Tryz.func169 rfl aB rfl (fun w0 F0 lent β0=> ?_)
 repeat'(first|refine sC ?_|((with_reducible refine aj ?_);first|(refine sS ?_;intro Q' hn he hr)|refine sA ?_)|(refine sH ?_;clear hn he hr Q')|((conv=>whnf);first|refine sK ?_|(refine sB ?_;repeat'(refine aA ?_ ?_<;>intro hb<;>try exact cls))|((with_reducible refine aH ?_);first|(refine aG (OI M) rfl rfl ?_)|(refine aG (iQ _ _ _) rfl rfl ?_)|(refine aG (IU M n) rfl rfl ?_)|(refine aG (OX _ _ ah ah) rfl rfl ?_))|refine sP ?_|(refine au [] rfl rfl rfl ⟨?_,rfl⟩;conv=>lhs;whnf)))
 all_goals rfl
theorem Y6(M:List bC)(N:List bg)(b:Int)(hv:(iT M&&kU M N)=true)(hb0:1≤b∧b≤100000):ak Tryz.prog 236 G0 0 [] [.sl 2 (M.map dM), .sl 2 (N.map dI), .int .i64 b] (fun d os=>d= .int .i64 0∧os=[]):=by
 have hv2:inB b 1 100000=true:=by simp[inB];omega
 refine aF Tryz.func236 rfl aB rfl (fun w0 F0 lent β0=> ?_)
 repeat'(first|refine sC ?_|((with_reducible refine aj ?_);first|(refine sS ?_;intro Q' hn he hr)|refine sA ?_)|(refine sH ?_;clear hn he hr Q')|((conv=>whnf);first|refine sK ?_|(refine sB ?_;repeat'(refine aA ?_ ?_<;>intro hb<;>try exact cls))|((with_reducible refine aH ?_);first|(refine aG (OJ M N) rfl rfl ?_)|(refine aG (iQ _ _ _) rfl rfl ?_))|(refine au [] rfl rfl rfl ⟨?_,rfl⟩;conv=>lhs;whnf)))
theorem AV{M:List bC}{N:List bg}(h:kU M N=true):N.length≤16:=by
 simp only[kU,Bool.and_eq_true,decide_eq_true_eq] at h
 exact h.1
theorem Uu{M:List bC}{N:List bg}(h:kU M N=true){k:Nat}{x:bg}(hx:N[k]? =some x): ¬kX M x.fName=0∧0≤x.dK∧x.dK≤7200000:=by
 simp only[kU,Bool.and_eq_true] at h
 have h2:=Ig h.2 hx
 simp only[nS,inB,Bool.and_eq_true,Bool.not_eq_true',decide_eq_false_iff_not,decide_eq_true_eq] at h2
 exact⟨h2.1,h2.2.1.1,h2.2.1.2⟩
theorem Gp{M:List bC}{b:Int}{N:List bg}(h:iT M=true)(hb0:1≤b∧b≤100000)(hl:N.length≤16)(k:Nat):0≤jl M b (N.take k)∧jl M b (N.take k)≤1600000000:=by
 have h1:=U4 h hb0 (N.take k)
 have h2:(N.take k).length≤16:=by rw[List.length_take];omega
 omega
set_option maxHeartbeats 4000000 in
theorem YR(M:List bC)(N:List bg)(b:Int)(hv:iT M=true)(hv2:kU M N=true)(hb0:1≤b∧b≤100000):ak Tryz.prog 168 G0 0 [] [.sl 2 (M.map dM), .sl 2 (N.map dI), .int .i64 b] (fun d os=>d= .aN [.h 0, .int .i64 0]∧os=[.row 2 1 ((qG M b N).map encI)]):=by
 have hl:=AV hv2
 have hpl:=MH M b N
 refine aF Tryz.func168 rfl aB rfl (fun w0 F0 lent β0=> ?_)
 repeat'(first|refine sC ?_|((with_reducible refine aj ?_);first|(refine sS ?_;intro Q' hn he hr)|refine sA ?_)|(refine sH ?_;clear hn he hr Q')|((conv=>whnf);first|refine sK ?_|(refine sB ?_;repeat'(refine aA ?_ ?_<;>intro hb<;>try exact cls))|((with_reducible refine aH ?_);(refine aG (Y6 M N b (by rw[hv,hv2];rfl) hb0) rfl rfl ?_))|refine sP ?_|(refine sL ?_;intro hlen)))
 refine aQ (fun k:Nat=>[(0,.sl 2 (M.map dM)),(1,.sl 2 (N.map dI)),(2,.int .i64 b),(9,.h 0),(10,.int .i64 (jl M b (N.take k))),(23,.sl 2 (N.map dI)),(24,.int .i64 N.length),(25,.int .i64 k)]) (fun k=>[.row 2 1 (fill encI [.int .i64 0] (qG M b N) k)]) (fun k=>k≤N.length) (fun k=>N.length-k) 0 ah (by refine aC rfl rfl ?_ ?_;rw[oJ,hpl];rfl;exact⟨rfl,rfl,rfl,rfl,rfl,rfl,rfl,rfl,trivial⟩) (fun k hk Q' hn he hr=> ?_)
 have hpt:=Gp hv hb0 hl k
 by_cases hkl:k<N.length
 ·obtain⟨x,hx0⟩: ∃x,N[k]? =some x:=⟨_,List.getElem?_eq_getElem hkl⟩
  have hz:=BN hv x.fName
  have hld:=DV hv hb0 x.fName
  have hst:=Gn (M:=M) (b:=b) hx0
  have hat:=MG M b hkl
  unfold loadT at hld hst
  repeat'(first|refine sC ?_|((with_reducible refine aj ?_);first|(refine sS ?_;intro Q' hn he hr)|refine sA ?_)|(refine sH ?_;clear hn he hr Q')|((conv=>whnf);first|refine sK ?_|(refine sB ?_;repeat'(refine aA ?_ ?_<;>intro hb<;>try exact cls))|(refine aJ.the hx0 ?_)|(refine aW.fill (by rw[hpl];omega) ?_)|(refine aJ.fill (by rw[hpl];omega) ?_)|((with_reducible refine aH ?_);first|(refine aG (IU M _) rfl rfl ?_)|(refine aG (OX _ _ ah ah) rfl rfl ?_))|refine sP ?_))
  refine⟨k+1,by omega,by omega,?_⟩
  rw[hst]
  refine aC rfl rfl ?_ ⟨rfl,rfl,rfl,rfl,rfl,rfl,rfl,rfl,trivial⟩
  rw[←oI _ _ _ hat]
  rfl
 ·obtain rfl:k=N.length:=by omega
  have hfa:fill encI [.int .i64 0] (qG M b N) N.length=(qG M b N).map encI:=by
   have:=oH encI [.int .i64 0] (qG M b N)
   rwa [hpl] at this
  rw[hfa]
  repeat'(first|refine sC ?_|((with_reducible refine aj ?_);first|(refine sS ?_;intro Q' hn he hr)|refine sA ?_)|(refine sH ?_;clear hn he hr Q')|((conv=>whnf);first|refine sK ?_|(refine sB ?_;repeat'(refine aA ?_ ?_<;>intro hb<;>try exact cls))|(refine au [0] rfl rfl rfl ⟨rfl,?_⟩)|(refine sH ?_;clear hn he hr Q')))
  all_goals rfl
def Bc(M:List bC)(b:Int)(N:List bg)(k:Nat):List Int:=(List.range k).map fun k=>jl M b (N.take k)
theorem afQ(M:List bC)(b:Int)(N:List bg)(k:Nat):Bc M b N (k+1)=Bc M b N k++[jl M b (N.take k)]:=by
 simp[Bc,List.range_succ]
theorem afP(M:List bC)(b:Int)(N:List bg)(k:Nat):(Bc M b N k).length=k:=by simp[Bc]
set_option maxHeartbeats 4000000 in
theorem aaQ(M:List bC)(N:List bg)(b:Int)(hv:iT M=true)(hv2:kU M N=true)(hb0:1≤b∧b≤100000):ak Tryz.prog 207 G0 0 [] [.sl 2 (M.map dM), .sl 2 (N.map dI), .int .i64 b] (fun d os=>d= .h 0∧os=[.row 2 1 ((qG M b N).map encI)]):=by
 have hl:=AV hv2
 refine aF Tryz.func207 rfl aB rfl (fun w0 F0 lent β0=> ?_)
 repeat'(first|refine sC ?_|((with_reducible refine aj ?_);first|(refine sS ?_;intro Q' hn he hr)|refine sA ?_)|(refine sH ?_;clear hn he hr Q')|((conv=>whnf);refine sK ?_))
 refine aQ (fun k:Nat=>[(0,.sl 2 (M.map dM)),(1,.sl 2 (N.map dI)),(2,.int .i64 b),(7,.h 0),(8,.int .i64 (jl M b (N.take k))),(9,.int .i64 k)]) (fun k=>[.row 2 1 ((Bc M b N k).map encI)]) (fun k=>k≤N.length) (fun k=>N.length-k) 0 ah aI (fun k hk Q' hn he hr=> ?_)
 have hpt:=Gp hv hb0 hl k
 have hlt:=afP M b N k
 by_cases hkl:k<N.length
 ·obtain⟨x,hx0⟩: ∃x,N[k]? =some x:=⟨_,List.getElem?_eq_getElem hkl⟩
  have hz:=BN hv x.fName
  have hld:=DV hv hb0 x.fName
  have hst:=Gn (M:=M) (b:=b) hx0
  unfold loadT at hld hst
  repeat'(first|refine sC ?_|((with_reducible refine aj ?_);first|(refine sS ?_;intro Q' hn he hr)|refine sA ?_)|(refine sH ?_;clear hn he hr Q')|((conv=>whnf);first|refine sK ?_|(refine sB ?_;repeat'(refine aA ?_ ?_<;>intro hb<;>try exact cls))|(refine aJ.the hx0 ?_)|((with_reducible refine aH ?_);first|(refine aG (I7 M _) rfl rfl ?_)|(refine aG (PU _ _ ah ah) rfl rfl ?_))|refine sP ?_|(refine sL ?_;intro hlen)))
  refine⟨k+1,by omega,by omega,?_⟩
  rw[hst]
  exact(by refine aC rfl rfl (by rw[afQ,List.map_append];rfl) ?_;((repeat'(first|exact trivial|refine And.intro ?_ ?_))<;>(first|rfl|(conv=>rhs;whnf)<;>(first|rfl|(refine congrArg (D.int _) ?_;omega)))))
 ·obtain rfl:k=N.length:=by omega
  repeat'(first|refine sC ?_|((with_reducible refine aj ?_);first|(refine sS ?_;intro Q' hn he hr)|refine sA ?_)|(refine sH ?_;clear hn he hr Q')|((conv=>whnf);first|refine sK ?_|(refine sB ?_;repeat'(refine aA ?_ ?_<;>intro hb<;>try exact cls))|(refine sL ?_;intro hlen)|(refine au [0] rfl rfl rfl ⟨rfl,?_⟩)|(refine sH ?_;clear hn he hr Q')))
  all_goals rfl
def tH(h:bM):List gU:=ru h.dJ h.fK h.dh h.dh.length
theorem FY{h:bM}(hv:gB h=true):iT h.dJ=true∧kU h.dJ h.dh=true∧1≤h.fK∧h.fK≤100000:=by
 simp only[gB,inB,Bool.and_eq_true,decide_eq_true_eq] at hv
 exact⟨hv.2.2.2.2.2.2.2.1,hv.2.2.2.2.2.2.2.2.1,hv.2.2.2.2.2.2.2.2.2.2.2.2⟩
set_option maxHeartbeats 8000000 in
theorem Zi(h:bM)(hv:gB h=true):ak Tryz.prog 85 GP 0 [] [.agg (jQ h)] (fun d os=>d= .h 0∧os=[.row 152 3 ((tH h).map eG)]):=by
 obtain⟨h1,h2,h3⟩:=FY hv
 have hl:=AV h2
 have hpl:=MH h.dJ h.fK h.dh
 refine aF Tryz.func85 rfl aB rfl (fun w0 F0 lent β0=> ?_)
 repeat'(first|refine sC ?_|((with_reducible refine aj ?_);first|(refine sS ?_;intro Q' hn he hr)|refine sA ?_)|(refine sH ?_;clear hn he hr Q')|((conv=>whnf);first|refine sK ?_|((with_reducible refine aH ?_);(refine jP (YR h.dJ h.dh h.fK h1 h2 h3).aU rfl dQ ?_))|(refine sL ?_;intro hlen)))
 refine aQ (fun k:Nat=>[(1,.hp 0 0),(3,.h 2),(4,.h 1),(22,.sl 2 (h.dh.map dI)),(23,.int .i64 h.dh.length),(24,.int .i64 k)]) (fun k=>[.box (jQ h), .row 2 1 ((qG h.dJ h.fK h.dh).map encI), .row 152 3 ((ru h.dJ h.fK h.dh k).map eG)]) (fun k=>k≤h.dh.length) (fun k=>h.dh.length-k) 0 ah (by refine Weak.trans (yA 3 152 3 rfl rfl) (aC rfl rfl rfl ?_);exact⟨rfl,rfl,rfl,rfl,rfl,rfl,trivial⟩) (fun k hk Q' hn he hr=> ?_)
 have hpt:=Gp h1 h3 hl k
 have hml:=DW h.dJ h.fK h.dh k
 by_cases hkl:k<h.dh.length
 ·obtain⟨x,hx0⟩: ∃x,h.dh[k]? =some x:=⟨_,List.getElem?_eq_getElem hkl⟩
  have hz:=BN h1 x.fName
  have hld:=DV h1 h3 x.fName
  have hst:=Gn (M:=h.dJ) (b:=h.fK) hx0
  have hle:vP h.dJ h.fK h.dh k x=jl h.dJ h.fK (h.dh.take k)+loadT h.dJ h.fK x.fName-x.dK:=by rw[vP,hst]
  obtain⟨hn0,ht0⟩:=Uu h2 hx0
  have hat:=MG h.dJ h.fK hkl
  repeat'(first|refine sC ?_|((with_reducible refine aj ?_);first|(refine sS ?_;intro Q' hn he hr)|refine sA ?_)|(refine sH ?_;clear hn he hr Q')|refine sO ?_|((conv=>whnf);first|refine sK ?_|(refine sB ?_;repeat'(refine aA ?_ ?_<;>intro hb<;>try exact cls))|(refine aJ.the hx0 ?_)|(refine aJ.the hat ?_)|((with_reducible refine aH ?_);(refine aG ((YS h.dJ x.fName h.fK h1 h3 hn0).aU) rfl rfl ?_))|((with_reducible refine aZ ?_);(refine aT (CW _ ah) rfl rfl ?_))|refine sP ?_|refine sD ?_))
  ·refine⟨k+1,by omega,by omega,?_⟩
   exact(by refine aC rfl rfl (by rw[Uj hx0 (by rw[hle];assumption),hle,List.map_append];rfl) ?_;((repeat'(first|exact trivial|refine And.intro ?_ ?_))<;>(first|rfl|(conv=>rhs;whnf)<;>(first|rfl|(refine congrArg (D.int _) ?_;omega)))))
  ·refine⟨k+1,by omega,by omega,?_⟩
   exact(by refine aC rfl rfl (by rw[Ui hx0 (by rw[hle];omega)];rfl) ?_;((repeat'(first|exact trivial|refine And.intro ?_ ?_))<;>(first|rfl|(conv=>rhs;whnf)<;>(first|rfl|(refine congrArg (D.int _) ?_;omega)))))
 ·obtain rfl:k=h.dh.length:=by omega
  repeat'(first|refine sC ?_|((with_reducible refine aj ?_);first|(refine sS ?_;intro Q' hn he hr)|refine sA ?_)|(refine sH ?_;clear hn he hr Q')|((conv=>whnf);first|refine sK ?_|(refine sB ?_;repeat'(refine aA ?_ ?_<;>intro hb<;>try exact cls))|((with_reducible refine bP ?_);(refine au [2] rfl rfl rfl ⟨rfl,?_⟩))|(refine sH ?_;clear hn he hr Q')))
  all_goals rfl
set_option maxHeartbeats 8000000 in
theorem aaY(h:bM)(r:List D)(hv:gB h=true):ak Tryz.prog 134 G0 0 [] [.rp (oz h r)] (fun d os=>d= .h 0∧os=[.row 152 3 ((tH h).map eG)]):=by
 obtain⟨h1,h2,h3⟩:=FY hv
 have hl:=AV h2
 have hpl:=MH h.dJ h.fK h.dh
 refine aF Tryz.func134 rfl aB rfl (fun w0 F0 lent β0=> ?_)
 repeat'(first|refine sC ?_|((with_reducible refine aj ?_);first|(refine sS ?_;intro Q' hn he hr)|refine sA ?_)|(refine sH ?_;clear hn he hr Q')|refine sO ?_|((conv=>whnf);first|refine sK ?_|((with_reducible refine aZ ?_);(refine ku (.sl 1 ((qG h.dJ h.fK h.dh).map encI)) (aaQ h.dJ h.dh h.fK h1 h2 h3) rfl lg ?_))|refine sD ?_))
 refine aQ (fun k:Nat=>[(0,.rp (oz h r)),(3,.h 0),(4,.sl 1 ((qG h.dJ h.fK h.dh).map encI)),(5,.int .i64 k)]) (fun k=>[.row 152 3 ((ru h.dJ h.fK h.dh k).map eG)]) (fun k=>k≤h.dh.length) (fun k=>h.dh.length-k) 0 ah aI (fun k hk Q' hn he hr=> ?_)
 have hpt:=Gp h1 h3 hl k
 have hml:=DW h.dJ h.fK h.dh k
 by_cases hkl:k<h.dh.length
 ·obtain⟨x,hx0⟩: ∃x,h.dh[k]? =some x:=⟨_,List.getElem?_eq_getElem hkl⟩
  have hz:=BN h1 x.fName
  have hld:=DV h1 h3 x.fName
  have hst:=Gn (M:=h.dJ) (b:=h.fK) hx0
  have hle:vP h.dJ h.fK h.dh k x=jl h.dJ h.fK (h.dh.take k)+(1000*kX h.dJ x.fName+h.fK-1).tdiv h.fK-x.dK:=by rw[vP,hst];rfl
  obtain⟨hn0,ht0⟩:=Uu h2 hx0
  have hat:=MG h.dJ h.fK hkl
  unfold loadT at hld
  repeat'(first|refine sC ?_|((with_reducible refine aj ?_);first|(refine sS ?_;intro Q' hn he hr)|refine sA ?_)|(refine sH ?_;clear hn he hr Q')|refine sO ?_|((conv=>whnf);first|refine sK ?_|(refine sB ?_;repeat'(refine aA ?_ ?_<;>intro hb<;>try exact cls))|(refine aJ.the hx0 ?_)|(refine aJ.the hat ?_)|((with_reducible refine aZ ?_);first|(refine aT (I7 h.dJ _) rfl rfl ?_)|(refine aT (PU _ _ ah ah) rfl rfl ?_)|(refine aT (CZ _ ah) rfl rfl ?_))|refine sP ?_|(refine sL ?_;intro hlen)|refine sD ?_))
  ·refine⟨k+1,by omega,by omega,?_⟩
   exact(by refine aC rfl rfl (by rw[Uj hx0 (by rw[hle];assumption),hle,List.map_append];rfl) ?_;((repeat'(first|exact trivial|refine And.intro ?_ ?_))<;>(first|rfl|(conv=>rhs;whnf)<;>(first|rfl|(refine congrArg (D.int _) ?_;omega)))))
  ·refine⟨k+1,by omega,by omega,?_⟩
   exact(by refine aC rfl rfl (by rw[Ui hx0 (by rw[hle];omega)];rfl) ?_;((repeat'(first|exact trivial|refine And.intro ?_ ?_))<;>(first|rfl|(conv=>rhs;whnf)<;>(first|rfl|(refine congrArg (D.int _) ?_;omega)))))
 ·obtain rfl:k=h.dh.length:=by omega
  repeat'(first|refine sC ?_|((with_reducible refine aj ?_);first|(refine sS ?_;intro Q' hn he hr)|refine sA ?_)|(refine sH ?_;clear hn he hr Q')|((conv=>whnf);first|refine sK ?_|(refine sB ?_;repeat'(refine aA ?_ ?_<;>intro hb<;>try exact cls))|((with_reducible refine bP ?_);(refine au [0] rfl rfl rfl ⟨rfl,?_⟩))|(refine sL ?_;intro hlen)|(refine sH ?_;clear hn he hr Q')))
  all_goals rfl
end Go.Eng
