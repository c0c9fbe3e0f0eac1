/-
  The words of a text, by the reference.
  No conditions.
-/
import Derived.Test.YtocoppijdodffaaGreatDoorWB0
import Derived.Test.YtocoppijdodffaaGreatDoorBA
set_option linter.unusedVariables false
set_option linter.unusedSimpArgs false
set_option maxHeartbeats 4000000
namespace Go.Eng
open Go Go.RowKit Go.Proofs
set_option maxRecDepth 100000
theorem SY{a:List (List UInt8)}(t:List UInt8)(h:chain Op.bytesLess a=true){k:Nat}{x:List UInt8}(hx:a[k]? =some x):
 kS Op.bytesLess (fun x y=>x==y) a t (k+1)=kS Op.bytesLess (fun x y=>x==y) a t k++((if dN Op.bytesLess a t<k∨Op.bytesLess x t=true then [] else [t])++(if x=t then [] else [x])):=by
 have e1:(if x=t then([]:List (List UInt8)) else [x])=if(t==x)=true then [] else [x]:=by
  by_cases e:x=t
  ·rw[if_pos e,if_pos (by rw[e];simp)]
  ·rw[if_neg e,if_neg (fun h=>e (eq_of_beq h).symm)]
 rw[e1]
 refine aek (lt:=Op.bytesLess) (bV:=fun x y=>x==y) DU (fun x=>S9 x t) (fun x y=>SX t x y) (fun x hl=> ?_) (fun x hl=> ?_) h hx
 ·cases he:(t==x) with
  |false=>rfl
  |true=>rw[eq_of_beq he,zi] at hl;cases hl
 ·cases he:(t==x) with
  |false=>rfl
  |true=>rw[eq_of_beq he,zi] at hl;cases hl
set_option maxHeartbeats 4000000 in
theorem I8(a:List (List UInt8))(t:List UInt8)(hs:chain Op.bytesLess a=true)(hl:a.length≤1048576):ak Tryz.prog 248 G0 0 [] [.sl 1 (a.map encS), .str t] (fun d os=>d= .h 0∧os=[.row 9 1 ((jw a t).map encS)]):=by
 refine aF Tryz.func248 rfl aB rfl (fun w0 F0 lent β0=> ?_)
 repeat'(first|refine sC ?_|((with_reducible refine aj ?_);first|(refine sS ?_;intro Q' hn he hr)|refine sA ?_)|(refine sH ?_;clear hn he hr Q')|((conv=>whnf);refine sK ?_))
 refine aQ (fun k:Nat=>[(0,.sl 1 (a.map encS)),(1,.str t),(5,.h 0),(6,.bool (decide (dN Op.bytesLess a t<k))),(7,.int .i64 k)]) (fun k=>[.row 9 1 ((kS Op.bytesLess (fun x y=>x==y) a t k).map encS)]) (fun k=>k≤a.length) (fun k=>a.length-k) 0 ah (by refine aC rfl rfl rfl ?_;exact⟨rfl,rfl,rfl,rfl,rfl,trivial⟩) (fun k hk Q' hn he hr=> ?_)
 have h8:=aei (lt:=Op.bytesLess) (bV:=fun x y=>x==y) a t k
 repeat'(first|refine sC ?_|((with_reducible refine aj ?_);first|(refine sS ?_;intro Q' hn he hr)|refine sA ?_)|(refine sH ?_;clear hn he hr Q')|((conv=>whnf);first|refine sK ?_|(refine sB ?_;repeat'(first|refine sb0 ?_|(refine aA ?_ ?_<;>intro hb<;>try exact cls)))|((with_reducible refine bP ?_);(refine au [0] rfl rfl rfl ⟨rfl,?_⟩))|refine sP ?_|(refine sE ?_;intro x hx)|(refine sL ?_;intro hlen)|(refine sH ?_;clear hn he hr Q')))
 all_goals try(exact absurd ‹Op.bytesLess x t=true› (by rw[‹x=t›,zi];simp))
 all_goals first
  |(have hst:=SQ (lt:=Op.bytesLess) (t:=t) hx
    rw[decide_eq_true ‹dN Op.bytesLess a t<k›] at hst⊢
    refine⟨k+1,by omega,by omega,?_⟩
    rw[hst]
    exact(by refine aC rfl rfl (by rw[SY t hs hx];refine congrArg (fun l=>[Obj.row 9 1 l]) ?_;simp[encS,zi, *]) ?_;((repeat'(first|exact trivial|refine And.intro ?_ ?_))<;>(first|rfl|(conv=>rhs;whnf)<;>(first|rfl|(refine congrArg (D.int _) ?_;omega))))))
  |(have hst:=SQ (lt:=Op.bytesLess) (t:=t) hx
    rw[decide_eq_false ‹¬dN Op.bytesLess a t<k›,‹Op.bytesLess x t=_›] at hst
    refine⟨k+1,by omega,by omega,?_⟩
    rw[hst]
    try rw[decide_eq_false ‹¬dN Op.bytesLess a t<k›]
    exact(by refine aC rfl rfl (by rw[SY t hs hx];refine congrArg (fun l=>[Obj.row 9 1 l]) ?_;simp[encS,zi, *]) ?_;((repeat'(first|exact trivial|refine And.intro ?_ ?_))<;>(first|rfl|(conv=>rhs;whnf)<;>(first|rfl|(refine congrArg (D.int _) ?_;omega))))))
  |skip
 all_goals
  obtain rfl:k=a.length:=by omega
  have hla:=aeh (lt:=Op.bytesLess) (bV:=fun x y=>x==y) a t
  refine congrArg (fun l=>[Obj.row 9 1 l]) ?_
  show _=(insL Op.bytesLess (fun x y=>x==y) a t).map encS
 ·rw[←hla,if_pos ah,List.map_append]
  rfl
 ·rw[←hla,if_neg ah]
theorem He{c:UInt8}(h:l9 c=true∨pV c=true):nV c=true:=by
 show(l9 c||pV c)=true
 rcases h with h|h<;>simp[h]
theorem Hf{c:UInt8}(h1:l9 c=false)(h2:pV c=false): ¬nV c=true:=by
 show ¬(l9 c||pV c)=true
 simp[h1,h2]
set_option maxHeartbeats 8000000 in
theorem aaT(s:List UInt8)(hs:s.length≤1048575):ak Tryz.prog 193 G0 0 [] [.str s] (fun d os=>d= .h 0∧os=[.row 9 1 ((yB s).map encS)]):=by
 refine aF Tryz.func193 rfl aB rfl (fun w0 F0 lent β0=> ?_)
 repeat'(first|refine sC ?_|((with_reducible refine aj ?_);first|(refine sS ?_;intro Q' hn he hr)|refine sA ?_)|(refine sH ?_;clear hn he hr Q')|((conv=>whnf);refine sK ?_))
 refine qY (fun(k:Nat) (out:List (List UInt8)) (word:List UInt8)=>[(0,.str s),(3,.h 0),(4,.h 1),(5,.int .i64 k)]) (fun k out word=>[.row 9 1 (out.map encS), .row 5 1 (word.map iW)]) (fun k out word=>vk s k out word) (fun k _ _=>s.length+1-k) 0 [] [] (ahe s) aI (fun k out word h Q' hn he hr=> ?_)
 have hch:=h.ch
 have hlen:=h.len
 have hle:=h.le
 by_cases hkl:k<s.length
 ·obtain⟨b,hbk⟩: ∃b,s[k]? =some b:=⟨_,List.getElem?_eq_getElem hkl⟩
  have hbl:=b.toNat_lt
  have hat:=Xb hbk
  by_cases hu:65≤b.toNat∧b.toNat≤90
  ·have hlow:=aeN hu.1 hu.2
   repeat'(first|refine sC ?_|((with_reducible refine aj ?_);first|(refine sS ?_;intro Q' hn he hr)|refine sA ?_)|(refine sH ?_;clear hn he hr Q')|((conv=>whnf);first|refine sK ?_|(refine sB ?_;repeat'(first|refine sb0 ?_|(refine aA ?_ ?_<;>intro hb<;>try exact cls)))|(refine iJ.the hbk ?_)|(refine bn.to ((Lib.lowerB b).toNat:Int) (by rw[hlow];omega) (Hg ah) ?_)|(refine lq.mk ⟨word,rfl,?_⟩)|((with_reducible refine aH ?_);first|(refine aG (Dc (Lib.lowerB b)) rfl rfl ?_)|(refine aG (EY (Lib.lowerB b)) rfl rfl ?_)|(refine oq (I8 out word hch ah) rfl (oM (iV.map fun _=>rfl)) dQ ?_))|refine sP ?_|(refine sL ?_;intro hlen)|(refine sH ?_;clear hn he hr Q')))
   ·exact⟨k+1,out,word++[Lib.lowerB b],G9 h hbk (He (.inl hb)),by omega,BP⟩
   ·exact⟨k+1,out,word++[Lib.lowerB b],G9 h hbk (He (.inr hb)),by omega,BP⟩
   ·refine⟨k+1,jw out word,[],NT h (List.length_pos_iff.1 ah) hat ah (Hf aO aO),by omega,?_⟩
    refine zH [2,3] rfl ?_ ?_
    ·repeat'(first|exact trivial|rfl|refine And.intro ?_ ?_)
    ·repeat'(first|exact trivial|rfl|refine And.intro ?_ ?_)
   ·obtain rfl:word=[]:=List.length_eq_zero_iff.1 ah
    exact⟨k+1,out,[],NU h hat ah (Hf aO aO),by omega,aI⟩
  ·have hlow:=aeL (c:=b) ah
   repeat'(first|refine sC ?_|((with_reducible refine aj ?_);first|(refine sS ?_;intro Q' hn he hr)|refine sA ?_)|(refine sH ?_;clear hn he hr Q')|((conv=>whnf);first|refine sK ?_|(refine sB ?_;repeat'(first|refine sb0 ?_|(refine aA ?_ ?_<;>intro hb<;>try exact cls)))|(refine iJ.the hbk ?_)|(refine lq.mk ⟨word,rfl,?_⟩)|((with_reducible refine aH ?_);first|(refine aG (Dc b) rfl rfl ?_)|(refine aG (EY b) rfl rfl ?_)|(refine oq (I8 out word hch ah) rfl (oM (iV.map fun _=>rfl)) dQ ?_))|refine sP ?_|(refine sL ?_;intro hlen)|(refine sH ?_;clear hn he hr Q')))
   all_goals rw[hlow] at hat
   all_goals first
    |exact⟨k+1,out,word++[Lib.lowerB b],G9 h hbk (by rw[hlow];exact He (.inl hb)),by omega,(by refine aC rfl rfl (by rw[hlow,List.map_append];rfl) ?_;((repeat'(first|exact trivial|refine And.intro ?_ ?_))<;>(first|rfl|(conv=>rhs;whnf)<;>(first|rfl|(refine congrArg (D.int _) ?_;omega)))))⟩
    |exact⟨k+1,out,word++[Lib.lowerB b],G9 h hbk (by rw[hlow];exact He (.inr hb)),by omega,(by refine aC rfl rfl (by rw[hlow,List.map_append];rfl) ?_;((repeat'(first|exact trivial|refine And.intro ?_ ?_))<;>(first|rfl|(conv=>rhs;whnf)<;>(first|rfl|(refine congrArg (D.int _) ?_;omega)))))⟩
    |(refine⟨k+1,jw out word,[],NT h (List.length_pos_iff.1 ah) hat ah (Hf aO aO),by omega,?_⟩
      refine zH [2,3] rfl ?_ ?_
      ·repeat'(first|exact trivial|rfl|refine And.intro ?_ ?_)
      ·repeat'(first|exact trivial|rfl|refine And.intro ?_ ?_))
    |(obtain rfl:word=[]:=List.length_eq_zero_iff.1 ah
      exact⟨k+1,out,[],NU h hat ah (Hf aO aO),by omega,aI⟩)
 ·have hat:=ahd s
  repeat'(first|refine sC ?_|((with_reducible refine aj ?_);first|(refine sS ?_;intro Q' hn he hr)|refine sA ?_)|(refine sH ?_;clear hn he hr Q')|((conv=>whnf);first|refine sK ?_|(refine sB ?_;repeat'(first|refine sb0 ?_|(refine aA ?_ ?_<;>intro hb<;>try exact cls)))|(refine lq.mk ⟨word,rfl,?_⟩)|((with_reducible refine aH ?_);first|(refine aG (Dc 32) rfl rfl ?_)|(refine aG (EY 32) rfl rfl ?_)|(refine oq (I8 out word hch ah) rfl (oM (iV.map fun _=>rfl)) dQ ?_))|((with_reducible refine bP ?_);(refine au [0] rfl rfl rfl ⟨rfl,?_⟩))|refine sP ?_|(refine sL ?_;intro hlen)|(refine sH ?_;clear hn he hr Q')))
  ·obtain rfl:k=s.length:=by omega
   refine⟨s.length+1,jw out word,[],NT h (List.length_pos_iff.1 ah) hat ah iU,by omega,?_⟩
   refine zH [2,3] rfl ?_ ?_
   ·repeat'(first|exact trivial|rfl|refine And.intro ?_ ?_)
   ·repeat'(first|exact trivial|rfl|refine And.intro ?_ ?_)
  ·obtain rfl:k=s.length:=by omega
   obtain rfl:word=[]:=List.length_eq_zero_iff.1 ah
   exact⟨s.length+1,out,[],NU h hat ah iU,by omega,aI⟩
  ·obtain rfl:k=s.length+1:=by omega
   rw[←ahc h]
   rfl
end Go.Eng
