/-
  The names that a script fires, in order: the contracts of the program's functions and of the reference's.
  No conditions.
-/
import Derived.Test.YtocoppijdodffaaGreatDoorQX
import Derived.Test.YtocoppijdodffaaGreatDoorWS
set_option linter.unusedVariables false
set_option linter.unusedSimpArgs false
set_option maxHeartbeats 4000000
namespace Go.Eng
open Go Go.RowKit Go.Proofs
set_option maxRecDepth 100000
set_option maxHeartbeats 8000000 in
theorem OA(S:List aY)(hv:kV S=true):ak Tryz.prog 164 G0 0 [] [.sl 3 (S.map dH)] (fun d os=>d= .aN [.sl 1 ((dF S).map encS), .int .i64 0]∧os=[]):=by
 have hsl:=zB hv
 have hll:=JG S
 have hms:((nM S).mergeSort fun x y=>decide (x≤y)).length=(nM S).length:=List.length_mergeSort _
 have hw:dF S=Lib.compact ((nM S).mergeSort fun x y=>decide (x≤y)):=(Xe _).symm
 rw[hw]
 refine aF Tryz.func164 rfl aB rfl (fun w0 F0 lent β0=> ?_)
 repeat'(first|refine sC ?_|((with_reducible refine aj ?_);first|(refine sS ?_;intro Q' hn he hr)|refine sA ?_)|(refine sH ?_;clear hn he hr Q')|((conv=>whnf);first|refine sK ?_|(refine sB ?_;repeat'(refine aA ?_ ?_<;>intro hb<;>try exact cls))|((with_reducible refine aH ?_);(refine aG (IJ S) rfl rfl ?_))|(refine sL ?_;intro hlen)))
 refine aQ (fun k:Nat=>[(4,.h 0),(10,.sl 3 (S.map dH)),(11,.int .i64 S.length),(12,.int .i64 k)]) (fun k=>[.row 9 1 ((nM (S.take k)).map encS)]) (fun k=>k≤S.length) (fun k=>S.length-k) 0 ah (by refine Weak.trans (yA 4 9 1 rfl rfl) (aC rfl rfl rfl ?_);exact⟨rfl,rfl,rfl,rfl,trivial⟩) (fun k hk Q' hn he hr=> ?_)
 have hkl2:=JG (S.take k)
 have htl:(S.take k).length≤40:=by rw[List.length_take];omega
 by_cases hkl:k<S.length
 ·obtain⟨x,hx0⟩: ∃x,S[k]? =some x:=⟨_,List.getElem?_eq_getElem hkl⟩
  repeat'(first|refine sC ?_|((with_reducible refine aj ?_);first|(refine sS ?_;intro Q' hn he hr)|refine sA ?_)|(refine sH ?_;clear hn he hr Q')|((conv=>whnf);first|refine sK ?_|(refine sB ?_;repeat'(refine aA ?_ ?_<;>intro hb<;>try exact cls))|(refine aJ.the hx0 ?_)|refine sP ?_))
  all_goals first
   |(refine⟨k+1,by omega,by omega,?_⟩
     exact(by refine aC rfl rfl (by rw[Q5 hx0 aO,List.map_append];rfl) ?_;((repeat'(first|exact trivial|refine And.intro ?_ ?_))<;>(first|rfl|(conv=>rhs;whnf)<;>(first|rfl|(refine congrArg (D.int _) ?_;omega))))))
   |(refine⟨k+1,by omega,by omega,?_⟩
     exact(by refine aC rfl rfl (by rw[QZ hx0 aO];rfl) ?_;((repeat'(first|exact trivial|refine And.intro ?_ ?_))<;>(first|rfl|(conv=>rhs;whnf)<;>(first|rfl|(refine congrArg (D.int _) ?_;omega))))))
 ·obtain rfl:k=S.length:=by omega
  rw[List.take_length]
  repeat'(first|refine sC ?_|((with_reducible refine aj ?_);first|(refine sS ?_;intro Q' hn he hr)|refine sA ?_)|(refine sH ?_;clear hn he hr Q')|((conv=>whnf);first|refine sK ?_|(refine sB ?_;repeat'(refine aA ?_ ?_<;>intro hb<;>try exact cls))|((with_reducible refine aH ?_);first|(refine Ja 0 rfl (Pz (nM S) ah) ?_;rintro d os ⟨rfl,rfl⟩;refine⟨_,_,rfl,?_⟩)|(refine PZ 0 rfl (Py _ ah) rfl (oM (iV.map fun _=>rfl)) dQ ?_))|((with_reducible refine bP ?_);(refine uh 1 rfl (Nat.zero_le _) ?_;refine au [] rfl rfl rfl ⟨?_,rfl⟩))|(refine sH ?_;clear hn he hr Q')))
  all_goals rfl
theorem KR{A:List (List UInt8)}{t:List UInt8}{j:Nat}(hj:j≤A.length):(A.take j++t::A.drop j).map encS=[]++List.take (j-0) (List.drop 0 (A.map encS))++[[D.str t]]++List.take ((A.map encS).length-j) (List.drop j (A.map encS)):=by
 rw[List.take_of_length_le (l:=List.drop j (A.map encS)) (by rw[List.length_drop];exact Nat.le_refl _)]
 simp[List.map_append,List.map_take,List.map_drop,encS]
set_option maxHeartbeats 16000000 in
theorem PD(S:List aY)(hv:kV S=true):ak Tryz.prog 203 G0 0 [] [.sl 3 (S.map dH)] (fun d os=>d= .aN [.sl 1 ((dF S).map encS), .int .i64 0]∧os=[]):=by
 have hsl:=zB hv
 refine aF Tryz.func203 rfl aB rfl (fun w0 F0 lent β0=> ?_)
 repeat'(first|refine sC ?_|((with_reducible refine aj ?_);first|(refine sS ?_;intro Q' hn he hr)|refine sA ?_)|(refine sH ?_;clear hn he hr Q')|((conv=>whnf);first|refine sK ?_|(refine sB ?_;repeat'(refine aA ?_ ?_<;>intro hb<;>try exact cls))|((with_reducible refine aH ?_);(refine aG (I5 S) rfl rfl ?_))))
 refine aQ (fun k:Nat=>[(0,.sl 3 (S.map dH)),(4,.h 0),(5,.int .i64 k)]) (fun k=>[.row 9 1 ((dF (S.take k)).map encS)]) (fun k=>k≤S.length) (fun k=>S.length-k) 0 ah aI (fun k hk Q' hn he hr=> ?_)
 have hkl2:=FD (S.take k)
 have htl:(S.take k).length≤40:=by rw[List.length_take];omega
 by_cases hkl:k<S.length
 ·obtain⟨x,hx0⟩: ∃x,S[k]? =some x:=⟨_,List.getElem?_eq_getElem hkl⟩
  by_cases h3:x.bT=3
  ·have hst:=ada hx0 h3
   generalize hA:dF (S.take k)=A at*
   repeat'(first|refine sC ?_|((with_reducible refine aj ?_);first|(refine sS ?_;intro Q' hn he hr)|refine sA ?_)|(refine sH ?_;clear hn he hr Q')|((conv=>whnf);first|refine sK ?_|(refine sB ?_;repeat'(refine aA ?_ ?_<;>intro hb<;>try exact cls))|(refine aJ.the hx0 ?_)|(refine sL ?_;intro hlen)))
   refine aQ (fun j:Nat=>[(0,.sl 3 (S.map dH)),(4,.h 0),(5,.int .i64 k),(6,.int .i64 j)]) (fun _=>[.row 9 1 (A.map encS)]) (fun j=>j≤A.length∧jB (fun b=> !Op.bytesLess b x.fName) A j) (fun j=>A.length-j) 0 ⟨by omega,qE⟩ aI (fun j hj Q' hn he hr=> ?_)
   by_cases hja:j<A.length
   ·obtain⟨y,hy0⟩: ∃y,A[j]? =some y:=⟨_,List.getElem?_eq_getElem hja⟩
    repeat'(first|refine sC ?_|((with_reducible refine aj ?_);first|(refine sS ?_;intro Q' hn he hr)|refine sA ?_)|(refine sH ?_;clear hn he hr Q')|refine sO ?_|((conv=>whnf);first|refine sK ?_|(refine sB ?_;repeat'(first|refine sb0 ?_|(refine aA ?_ ?_<;>intro hb<;>try exact cls)))|(refine aJ.the hx0 ?_)|(refine aJ.the hy0 ?_)|refine sP ?_|(refine sL ?_;intro hlen)|(refine sX ?_;intro i1 i2 hi1 hi2 hj1 hj2;try simp only[gJ,oQ,qp,qw,qx,uN,uK,uM] at hi1 hi2 hj2)|refine sD ?_|(refine sH ?_;clear hn he hr Q')))
    all_goals first
     |exact⟨j+1,⟨by omega,qC hj.2 hy0 zL⟩,by omega,aI⟩
     |(have hat:dN Op.bytesLess A x.fName=j:=Dw hj.2 hy0 Oc
       have he2:y=x.fName:=by assumption
       have hst2:dF (S.take (k+1))=A:=by rw[hst];exact ael (by rw[hat,hy0,he2])
       refine⟨k+1,by omega,by omega,?_⟩
       exact(by refine aC rfl rfl (by rw[hst2];rfl) ?_;((repeat'(first|exact trivial|refine And.intro ?_ ?_))<;>(first|rfl|(conv=>rhs;whnf)<;>(first|rfl|(refine congrArg (D.int _) ?_;omega))))))
     |(have hat:dN Op.bytesLess A x.fName=j:=Dw hj.2 hy0 Oc
       have hne: ¬y=x.fName:=by assumption
       obtain rfl:i1=j:=by omega
       have hst2:=KR (A:=A) (t:=x.fName) (j:=i1) ah
       rw[←hat,←KQ (fun z hz=>by rw[hat,hy0] at hz;cases hz;exact hne),←hst,hat] at hst2
       refine⟨k+1,by omega,by omega,?_⟩
       refine zH [1] rfl ?_ ?_
       ·repeat'(first|exact trivial|rfl|exact hst2|(rw[hst2];rfl)|refine And.intro ?_ ?_)
       ·repeat'(first|exact trivial|rfl|refine And.intro ?_ ?_))
     |skip
    all_goals(
     have hat:dN Op.bytesLess A x.fName=j:=Dw hj.2 hy0 Oc
     have hne: ¬y=x.fName:=by assumption
     obtain rfl:i1=j:=by omega
     have hst2:=KR (A:=A) (t:=x.fName) (j:=i1) ah
     rw[←hat,←KQ (fun z hz=>by rw[hat,hy0] at hz;cases hz;exact hne),←hst,hat] at hst2
     refine⟨k+1,by omega,by omega,?_⟩
     refine zH [1] rfl ?_ ?_
     ·repeat'(first|exact trivial|rfl|exact hst2|(rw[hst2];rfl)|refine And.intro ?_ ?_)
     ·repeat'(first|exact trivial|rfl|refine And.intro ?_ ?_))
   ·repeat'(first|refine sC ?_|((with_reducible refine aj ?_);first|(refine sS ?_;intro Q' hn he hr)|refine sA ?_)|(refine sH ?_;clear hn he hr Q')|refine sO ?_|((conv=>whnf);first|refine sK ?_|(refine sB ?_;repeat'(first|refine sb0 ?_|(refine aA ?_ ?_<;>intro hb<;>try exact cls)))|(refine aJ.the hx0 ?_)|refine sP ?_|(refine sL ?_;intro hlen)|(refine sX ?_;intro i1 i2 hi1 hi2 hj1 hj2;try simp only[gJ,oQ,qp,qw,qx,uN,uK,uM] at hi1 hi2 hj2)|refine sD ?_|(refine sH ?_;clear hn he hr Q')))
    all_goals first
     |(have hat:dN Op.bytesLess A x.fName=j:=(JJ hj.2 ah).trans ah
       obtain rfl:i1=j:=by omega
       have hst2:=KR (A:=A) (t:=x.fName) (j:=i1) ah
       rw[←hat,←KQ (fun z hz=>by rw[hat,List.getElem?_eq_none ah] at hz;cases hz),←hst,hat] at hst2
       refine⟨k+1,by omega,by omega,?_⟩
       refine zH [1] rfl ?_ ?_
       ·repeat'(first|exact trivial|rfl|exact hst2|(rw[hst2];rfl)|refine And.intro ?_ ?_)
       ·repeat'(first|exact trivial|rfl|refine And.intro ?_ ?_))
     |trace_state
  ·repeat'(first|refine sC ?_|((with_reducible refine aj ?_);first|(refine sS ?_;intro Q' hn he hr)|refine sA ?_)|(refine sH ?_;clear hn he hr Q')|((conv=>whnf);first|refine sK ?_|(refine sB ?_;repeat'(refine aA ?_ ?_<;>intro hb<;>try exact cls))|(refine aJ.the hx0 ?_)|refine sP ?_|(refine sL ?_;intro hlen)|(refine sH ?_;clear hn he hr Q')))
   refine⟨k+1,by omega,by omega,?_⟩
   exact(by refine aC rfl rfl (by rw[ac9 hx0 h3];rfl) ?_;((repeat'(first|exact trivial|refine And.intro ?_ ?_))<;>(first|rfl|(conv=>rhs;whnf)<;>(first|rfl|(refine congrArg (D.int _) ?_;omega)))))
 ·obtain rfl:k=S.length:=by omega
  rw[List.take_length]
  repeat'(first|refine sC ?_|((with_reducible refine aj ?_);first|(refine sS ?_;intro Q' hn he hr)|refine sA ?_)|(refine sH ?_;clear hn he hr Q')|((conv=>whnf);first|refine sK ?_|(refine sB ?_;repeat'(refine aA ?_ ?_<;>intro hb<;>try exact cls))|((with_reducible refine bP ?_);(refine uh 0 rfl (Nat.zero_le _) ?_;refine au [] rfl rfl rfl ⟨?_,rfl⟩))|(refine sL ?_;intro hlen)|(refine sH ?_;clear hn he hr Q')))
  all_goals rfl
end Go.Eng
