/-
  The desk's report, by the program and by the reference: what it is, given what the functions do that it calls.
  No conditions.
-/
import Derived.Test.YtocoppijdodffaaGreatDoorMF0
set_option linter.unusedVariables false
set_option linter.unusedSimpArgs false
set_option maxHeartbeats 4000000
namespace Go.Eng
open Go Go.RowKit Go.Proofs
set_option maxRecDepth 100000
def vX:List (List UInt8):=[[112,114,111,106,101,99,116,111,114,115],[102,105,120,116,117,114,101,115],[99,117,101,115],[104,111,108,100,115],[111,102,102,101,114,115],[110,111,116,101,115],[115,116,97,114,115],[102,105,110,100,105,110,103,115]]
def rF(d:fG)(n:Nat):List Int:=[(d.bJ.dU.length:Int),(d.bJ.eF.length:Int),(d.bJ.aX.length:Int),(d.kD.length:Int),(d.kF.length:Int),(d.kE.length:Int),(d.kH.length:Int),(n:Int)]
def MS(w:List UInt8)(z:Int):List UInt8:=w++[32]++Lib.itoa z
def uT(d:fG)(n:Nat):List (List UInt8):=List.zipWith MS vX (rF d n)
theorem Vx(d:fG)(n:Nat):(uT d n).length=8:=by
 simp[uT,vX,rF]
theorem agj{d:fG}{n k:Nat}{w:List UInt8}{z:Int}(hw:vX[k]? =some w)(hz:(rF d n)[k]? =some z):(uT d n)[k]? =some (MS w z):=by
 rw[uT,List.getElem?_zipWith,hw,hz]
theorem vO(n:Int)(h:0≤n∧n≤2000):(Lib.itoa n).length≤21:=Lib.itoa_length_le n ah ah
theorem agk{k:Nat}{w:List UInt8}(h:vX[k]? =some w):w.length≤20:=by
 have: ∀w∈vX,w.length≤20:=by decide
 exact this w (List.mem_of_getElem? h)
set_option maxHeartbeats 8000000 in
theorem aga(G:Nat→Option (List D))(d:fG)(F:List gU)(hs: ∀z∈rF d F.length,0≤z∧z≤2000)(h1:ak Tryz.prog 28 G 0 [] [.agg (jv d)] (fun e os=>e= .bool true∧os=[]))(h2:ak Tryz.prog 29 G 0 [] [.agg (jQ d.bJ)] (fun e os=>e= .aN [.h 0, .int .i64 0]∧os=[.row 152 3 (F.map eG)]))(h3: ∀n:Int,-9223372036854775808≤n∧n≤9223372036854775807→ak Tryz.prog 30 G 0 [] [.int .i64 n] (fun e os=>e= .str (Lib.itoa n)∧os=[])):ak Tryz.prog 7 G 0 [] [.agg (jv d)] (fun e os=>e= .aN [.h 0, .int .i64 0]∧os=[.row 9 1 ((uT d F.length).map encS)]):=by
 simp only[rF,List.mem_cons,List.not_mem_nil,or_false,forall_eq_or_imp,forall_eq] at hs
 obtain⟨n1,n2,n3,n4,n5,n6,n7,n8⟩:=hs
 have i1:=vO _ n1
 have i2:=vO _ n2
 have i3:=vO _ n3
 have i4:=vO _ n4
 have i5:=vO _ n5
 have i6:=vO _ n6
 have i7:=vO _ n7
 have i8:=vO _ n8
 refine aF Tryz.func7 rfl aB rfl (fun w0 F0 lent β0=> ?_)
 repeat'(first|refine sC ?_|((with_reducible refine aj ?_);first|(refine sS ?_;intro Q' hn he hr)|refine sA ?_)|(refine sH ?_;clear hn he hr Q')|refine sO ?_|((conv=>whnf);first|refine sK ?_|(refine sB ?_;repeat' refine sb0 ?_)|(refine bZ.mk ⟨by simp only[List.length_append,maxLen];simp;omega,?_⟩)|((with_reducible refine aH ?_);first|(refine aG (h1) rfl rfl ?_)|(refine oq h2 rfl (oM (iV.map fun _=>rfl)) dQ ?_))|((with_reducible refine aZ ?_);(refine aT (h3 _ ah) rfl rfl ?_))|((with_reducible refine bP ?_);(refine au [2] rfl rfl rfl ⟨rfl,rfl⟩))|(refine sL ?_;intro hlen)|refine sD ?_))
 all_goals trace_state
set_option maxHeartbeats 8000000 in
theorem agc(G:Nat→Option (List D))(d:fG)(F:List gU)(hs: ∀z∈rF d F.length,0≤z∧z≤2000)(h1:ak Tryz.prog 19 G 0 [] [.rp (jv d)] (fun e os=>e= .bool true∧os=[]))(h2:ak Tryz.prog 20 G 0 [] [.agg (jQ d.bJ)] (fun e os=>e= .aN [.h 0, .int .i64 0]∧os=[.row 152 3 (F.map eG)]))(h3: ∀n:Int,-9223372036854775808≤n∧n≤9223372036854775807→ak Tryz.prog 21 G 0 [] [.int .i64 n] (fun e os=>e= .str (Lib.itoa n)∧os=[])):ak Tryz.prog 5 G 0 [] [.agg (jv d)] (fun e os=>e= .aN [.h 0, .int .i64 0]∧os=[.row 9 1 ((uT d F.length).map encS)]):=by
 refine aF Tryz.func5 rfl aB rfl (fun w0 F0 lent β0=> ?_)
 repeat'(first|refine sC ?_|((with_reducible refine aj ?_);first|(refine sS ?_;intro Q' hn he hr)|refine sA ?_)|(refine sH ?_;clear hn he hr Q')|((conv=>whnf);first|refine sK ?_|(refine sB ?_;repeat' refine sb0 ?_)|((with_reducible refine aH ?_);first|(refine jq (h1) rfl ?_)|(refine oq h2 rfl (oM (iV.map fun _=>rfl)) dQ ?_))|(refine sL ?_;intro hlen)))
 refine aQ (fun k:Nat=>[(6,.h 2),(7,.h 3),(8,.h 4),(9,.int .i64 k)]) (fun k=>[.box (jv d), .row 152 3 (F.map eG), .row 9 1 (vX.map encS), .row 3 1 ((rF d F.length).map encI), .row 9 1 (((uT d F.length).take k).map encS)]) (fun k=>k≤8) (fun k=>8-k) 0 ah aI (fun k hk Q' hn he hr=> ?_)
 have hw8:vX.length=8:=rfl
 have hc8:(rF d F.length).length=8:=rfl
 by_cases hkl:k<8
 ·obtain⟨w,hw0⟩: ∃w,vX[k]? =some w:=⟨_,List.getElem?_eq_getElem (show k<vX.length from hkl)⟩
  obtain⟨z,hz0⟩: ∃z,(rF d F.length)[k]? =some z:=⟨_,List.getElem?_eq_getElem (show k<(rF d F.length).length from hkl)⟩
  have hws:=agk hw0
  have hz1:=hs z (List.mem_of_getElem? hz0)
  have hi:=vO z hz1
  have hst:(uT d F.length).take (k+1)=(uT d F.length).take k++[MS w z]:=by
   rw[List.take_add_one,agj hw0 hz0]
   rfl
  repeat'(first|refine sC ?_|((with_reducible refine aj ?_);first|(refine sS ?_;intro Q' hn he hr)|refine sA ?_)|(refine sH ?_;clear hn he hr Q')|refine sO ?_|((conv=>whnf);first|refine sK ?_|(refine sB ?_;repeat'(refine aA ?_ ?_<;>intro hb<;>try exact cls))|(refine aW.nat EJ ?_)|(refine aJ.the hw0 ?_)|(refine aJ.the hz0 ?_)|(refine bZ.mk ⟨by simp only[List.length_append,maxLen];simp;omega,?_⟩)|((with_reducible refine aZ ?_);(refine aT (h3 _ ah) rfl rfl ?_))|refine sP ?_|(refine sL ?_;intro hlen)|refine sD ?_))
  all_goals first
   |(exfalso;omega)
   |(refine⟨k+1,by omega,by omega,?_⟩;rw[hst,List.map_append];exact aI)
   |trace_state
 ·obtain rfl:k=8:=by omega
  rw[List.take_of_length_le (by rw[Vx];omega)]
  repeat'(first|refine sC ?_|((with_reducible refine aj ?_);first|(refine sS ?_;intro Q' hn he hr)|refine sA ?_)|(refine sH ?_;clear hn he hr Q')|((conv=>whnf);first|refine sK ?_|(refine sB ?_;repeat'(refine aA ?_ ?_<;>intro hb<;>try exact cls))|((with_reducible refine bP ?_);(refine au [4] rfl rfl rfl ⟨rfl,rfl⟩))|(refine sL ?_;intro hlen)|(refine sH ?_;clear hn he hr Q')))
  all_goals first
   |(exfalso;omega)
   |trace_state
theorem agb(G:Nat→Option (List D))(d:fG)(h1:ak Tryz.prog 28 G 0 [] [.agg (jv d)] (fun e os=>e= .bool false∧os=[])):ak Tryz.prog 7 G 0 [] [.agg (jv d)] (fun e os=>e= .aN [.sl 1 [], .int .i64 1]∧os=[]):=by
 refine aF Tryz.func7 rfl aB rfl (fun w0 F0 lent β0=> ?_)
 repeat'(first|refine sC ?_|((with_reducible refine aj ?_);first|(refine sS ?_;intro Q' hn he hr)|refine sA ?_)|(refine sH ?_;clear hn he hr Q')|((conv=>whnf);first|refine sK ?_|(refine sB ?_;repeat' refine sb0 ?_)|((with_reducible refine aH ?_);(refine aG (h1) rfl rfl ?_))|((with_reducible refine bP ?_);(refine Vz 1 ?_;refine au [] rfl rfl rfl ⟨rfl,rfl⟩))))
theorem agd(G:Nat→Option (List D))(d:fG)(h1:ak Tryz.prog 19 G 0 [] [.rp (jv d)] (fun e os=>e= .bool false∧os=[])):ak Tryz.prog 5 G 0 [] [.agg (jv d)] (fun e os=>e= .aN [.sl 1 [], .int .i64 1]∧os=[]):=by
 refine aF Tryz.func5 rfl aB rfl (fun w0 F0 lent β0=> ?_)
 repeat'(first|refine sC ?_|((with_reducible refine aj ?_);first|(refine sS ?_;intro Q' hn he hr)|refine sA ?_)|(refine sH ?_;clear hn he hr Q')|((conv=>whnf);first|refine sK ?_|(refine sB ?_;repeat' refine sb0 ?_)|((with_reducible refine aH ?_);(refine jq (h1) rfl ?_))|((with_reducible refine bP ?_);(refine Vz 1 ?_;refine au [] rfl rfl rfl ⟨rfl,rfl⟩))))
end Go.Eng
