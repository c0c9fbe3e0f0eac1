/-
  The size of a desk.
  No conditions.
-/
import Derived.Test.YtocoppijdodffaaGreatDoorDK
set_option linter.unusedVariables false
set_option linter.unusedSimpArgs false
set_option maxHeartbeats 4000000
namespace Go.Eng
open Go Go.RowKit Go.Proofs
set_option maxRecDepth 100000
theorem PX(x:fG)(left:Int)(h0:0≤left)(h1:left≤1048576):ak Tryz.prog 4 G0 0 [] [.agg (jv x), .int .i64 left] (fun d os=>(∃n:Int,d= .int .i64 n∧((x.sz:Int)≤left∧n=left-x.sz∨left<x.sz∧n= -1))∧os=[]):=by
 refine aF Tryz.func4 rfl aB rfl (fun w0 F0 lent β0=> ?_)
 repeat'(first|refine sC ?_|((with_reducible refine aj ?_);first|(refine sS ?_;intro Q' hn he hr)|refine sA ?_)|(refine sH ?_;clear hn he hr Q')|((conv=>whnf);first|refine sK ?_|(refine sB ?_;repeat'(refine aA ?_ ?_<;>intro hb<;>try exact cls))|((with_reducible refine aH ?_);first|(refine lS (abb x.bJ _ ah ah) rfl ?_;rintro d9 ⟨n9,rfl,hs9⟩;refine⟨rfl,?_⟩)|(refine lS (o9 (aa9 x.kD _ ah ah)) rfl ?_;rintro d9 ⟨n9,rfl,hs9⟩;refine⟨rfl,?_⟩)|(refine lS (o9 (abo x.kF _ ah ah)) rfl ?_;rintro d9 ⟨n9,rfl,hs9⟩;refine⟨rfl,?_⟩)|(refine lS (o9 (abm x.kE _ ah ah)) rfl ?_;rintro d9 ⟨n9,rfl,hs9⟩;refine⟨rfl,?_⟩)|(refine lS (o9 (abt x.kG _ ah ah)) rfl ?_;rintro d9 ⟨n9,rfl,hs9⟩;refine⟨rfl,?_⟩)|(refine lS (o9 (abv x.kH _ ah ah)) rfl ?_;rintro d9 ⟨n9,rfl,hs9⟩;refine⟨rfl,?_⟩))|((with_reducible refine bP ?_);(refine au [] rfl rfl rfl ⟨⟨_,rfl,?_⟩,rfl⟩))))
 all_goals first|exact .inr ⟨by simp only[fG.sz];omega,rfl⟩|exact .inl ⟨by simp only[fG.sz];omega,by simp only[fG.sz];omega⟩
end Go.Eng
set_option linter.unusedVariables false
set_option linter.unusedSimpArgs false
set_option maxHeartbeats 4000000
namespace Go.Eng
open Go Go.RowKit Go.Proofs
set_option maxRecDepth 100000
def adE(x:fG):List D:=[.str x.bJ.fP.fName, .int .i64 x.bJ.fP.bY, .int .i64 x.bJ.fP.uH, .h 0, .int .i64 x.bJ.dw, .h 1, .h 2, .int .i64 x.bJ.oG, .h 3, .h 4, .h 5, .int .i64 x.bJ.iL, .h 6, .h 7, .int .i64 x.bJ.fK, .h 8, .h 9, .h 10, .str x.kG.fName, .int .i64 x.kG.xG, .int .i64 x.kG.xE, .h 11]
def af8(x:fG):List Obj:=[.row 211 5 (x.bJ.dU.map dR), .row 214 5 (x.bJ.dW.map dS), .row 2 1 (x.bJ.dZ.map encI), .row 217 4 (x.bJ.eF.map dP), .row 219 6 (x.bJ.aX.map cO), .row 221 3 (x.bJ.bD.map dH), .row 223 2 (x.bJ.dJ.map dM), .row 225 2 (x.bJ.dh.map dI), .row 139 2 (x.kD.map iK), .row 142 5 (x.kF.map iq), .row 144 2 (x.kE.map ig), .row 146 5 (x.kH.map gV)]
theorem TK(x:fG):x.bJ.sz≤x.sz∧x.kD.length≤x.sz∧x.kF.length≤x.sz∧x.kE.length≤x.sz∧x.kH.length≤x.sz:=by
 simp only[fG.sz]
 have h0:=rO nT x.kD
 have h1:=rO eP.sz x.kF
 have h2:=rO eH.sz x.kE
 have h3:=rO TStar.sz x.kH
 omega
theorem E8(x:fG)(hx:x.sz≤1048576):ak Tryz.prog 6 G0 0 [] [.agg (jv x)] (fun d os=>d= .agg (adE x)∧os=af8 x):=by
 have hlen:=TK x
 refine aF Tryz.func6 rfl aB rfl (fun w0 F0 lent β0=> ?_)
 repeat'(first|refine sC ?_|((with_reducible refine aj ?_);first|(refine sS ?_;intro Q' hn he hr)|refine sA ?_)|(refine sH ?_;clear hn he hr Q')|((conv=>whnf);first|refine sK ?_|((with_reducible refine aH ?_);first|(refine jP (abD x.bJ ah) rfl dQ ?_)|(refine jP (abC x.kD ah) rfl dQ ?_)|(refine jP (abP x.kF ah) rfl dQ ?_)|(refine jP (abN x.kE ah) rfl dQ ?_)|(refine aG (abU x.kG) rfl rfl ?_)|(refine jP (abW x.kH ah) rfl dQ ?_))|((with_reducible refine bP ?_);(first|refine au [3,4,5,6,7,8,9,10,11,12,13,14] rfl rfl rfl ⟨rfl,?_⟩|refine au [2,3,4,5,6,7,8,9,10,11,12,13] rfl rfl rfl ⟨rfl,?_⟩|refine au [1,2,3,4,5,6,7,8,9,10,11,12] rfl rfl rfl ⟨rfl,?_⟩|refine au [0,1,2,3,4,5,6,7,8,9,10,11] rfl rfl rfl ⟨rfl,?_⟩|refine au [4,5,6,7,8,9,10,11,12,13,14,15] rfl rfl rfl ⟨rfl,?_⟩))))
 all_goals rfl
end Go.Eng
set_option linter.unusedVariables false
set_option linter.unusedSimpArgs false
set_option maxHeartbeats 4000000
namespace Go.Eng
open Go Go.RowKit Go.Proofs
set_option maxRecDepth 100000
theorem EU(a b:fG):ak Tryz.prog 9 G0 0 [] [.agg (jv a), .agg (jv b)] (fun d os=>d= .bool (Dq a b)∧os=[]):=by
 refine aF Tryz.func9 rfl aB rfl (fun w0 F0 lent β0=> ?_)
 repeat'(first|refine sC ?_|((with_reducible refine aj ?_);first|(refine sS ?_;intro Q' hn he hr)|refine sA ?_)|(refine sH ?_;clear hn he hr Q')|((conv=>whnf);first|refine sK ?_|(refine sB ?_;repeat'(refine aA ?_ ?_<;>intro hb<;>try exact cls))|((with_reducible refine aH ?_);first|(refine aG (Yp a.bJ b.bJ) rfl rfl ?_)|(refine aG (Yo a.kD b.kD) rfl rfl ?_)|(refine aG (YB a.kF b.kF) rfl rfl ?_)|(refine aG (Yz a.kE b.kE) rfl rfl ?_)|(refine aG (YG a.kG b.kG) rfl rfl ?_)|(refine aG (YI a.kH b.kH) rfl rfl ?_))|(refine au [] rfl rfl rfl ⟨?_,rfl⟩;conv=>lhs;whnf)))
 all_goals(first|(simp_all[Dq,bG,eqStr,gW];done)|(simp_all[Dq,bG,eqStr,gW];rfl))
end Go.Eng
