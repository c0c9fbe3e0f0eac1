/-
  Cues that clash, names of codes, fixtures that are named: the contracts of the program's functions and of the reference's.
  No conditions.
-/
import Derived.Test.YtocoppijdodffaaGreatDoorQX
import Derived.Test.YtocoppijdodffaaGreatDoorFX
set_option linter.unusedVariables false
set_option linter.unusedSimpArgs false
set_option maxHeartbeats 4000000
namespace Go.Eng
open Go Go.RowKit Go.Proofs
set_option maxRecDepth 100000
def GK:Nat→Option (List D):=G1 0 (Fj.map .str)
theorem YM(c:Int)(h:0≤c∧c≤11):ak Tryz.prog 163 GK 0 [] [.int .i64 c] (fun d os=>d= .str (Ad c)∧os=[]):=by
 have h7:c=0∨c=1∨c=2∨c=3∨c=4∨c=5∨c=6∨c=7∨c=8∨c=9∨c=10∨c=11:=by omega
 rcases h7 with rfl|rfl|rfl|rfl|rfl|rfl|rfl|rfl|rfl|rfl|rfl|rfl
 all_goals
  refine aF Tryz.func163 rfl aB rfl (fun w0 F0 lent β0=> ?_)
  repeat'(first|refine sC ?_|((with_reducible refine aj ?_);first|(refine sS ?_;intro Q' hn he hr)|refine sA ?_)|(refine sH ?_;clear hn he hr Q')|((conv=>whnf);first|refine sK ?_|(refine sB ?_;repeat'(first|refine sb0 ?_|(refine aA ?_ ?_<;>intro hb<;>try exact cls)))|(refine aJ.lit 0 rfl rfl ?_)|(refine aJ.lit 1 rfl rfl ?_)|(refine aJ.lit 2 rfl rfl ?_)|(refine aJ.lit 3 rfl rfl ?_)|(refine aJ.lit 4 rfl rfl ?_)|(refine aJ.lit 5 rfl rfl ?_)|(refine aJ.lit 6 rfl rfl ?_)|(refine aJ.lit 7 rfl rfl ?_)|(refine aJ.lit 8 rfl rfl ?_)|(refine aJ.lit 9 rfl rfl ?_)|(refine aJ.lit 10 rfl rfl ?_)|(refine aJ.lit 11 rfl rfl ?_)|(refine au [] rfl rfl rfl ⟨?_,rfl⟩;conv=>lhs;whnf)))
 all_goals first
  |rfl
  |(exfalso;exact hb iU)
theorem ZT(c:Int)(h:0≤c∧c≤11):ak Tryz.prog 202 G0 0 [] [.int .i64 c] (fun d os=>d= .str (Ad c)∧os=[]):=by
 have h7:c=0∨c=1∨c=2∨c=3∨c=4∨c=5∨c=6∨c=7∨c=8∨c=9∨c=10∨c=11:=by omega
 rcases h7 with rfl|rfl|rfl|rfl|rfl|rfl|rfl|rfl|rfl|rfl|rfl|rfl
 all_goals
  refine aF Tryz.func202 rfl aB rfl (fun w0 F0 lent β0=> ?_)
  repeat'(first|refine sC ?_|((with_reducible refine aj ?_);first|(refine sS ?_;intro Q' hn he hr)|refine sA ?_)|(refine sH ?_;clear hn he hr Q')|((conv=>whnf);first|refine sK ?_|(refine sB ?_;repeat'(refine aA ?_ ?_<;>intro hb<;>try exact cls))|(refine aJ.lit 0 rfl rfl ?_)|(refine aW.lit 0 rfl rfl ?_)|(refine aJ.lit 1 rfl rfl ?_)|(refine aW.lit 1 rfl rfl ?_)|(refine aJ.lit 2 rfl rfl ?_)|(refine aW.lit 2 rfl rfl ?_)|(refine aJ.lit 3 rfl rfl ?_)|(refine aW.lit 3 rfl rfl ?_)|(refine aJ.lit 4 rfl rfl ?_)|(refine aW.lit 4 rfl rfl ?_)|(refine aJ.lit 5 rfl rfl ?_)|(refine aW.lit 5 rfl rfl ?_)|(refine aJ.lit 6 rfl rfl ?_)|(refine aW.lit 6 rfl rfl ?_)|(refine aJ.lit 7 rfl rfl ?_)|(refine aW.lit 7 rfl rfl ?_)|(refine aJ.lit 8 rfl rfl ?_)|(refine aW.lit 8 rfl rfl ?_)|(refine aJ.lit 9 rfl rfl ?_)|(refine aW.lit 9 rfl rfl ?_)|(refine aJ.lit 10 rfl rfl ?_)|(refine aW.lit 10 rfl rfl ?_)|(refine aJ.lit 11 rfl rfl ?_)|(refine aW.lit 11 rfl rfl ?_)|((with_reducible refine aH ?_);(refine aG (iy _ _ _) rfl rfl ?_))|refine sP ?_|(refine sL ?_;intro hlen)|(refine au [] rfl rfl rfl ⟨?_,rfl⟩;conv=>lhs;whnf)))
 all_goals first
  |rfl
  |(exfalso;exact hb iU)
  |(exfalso;revert hb;decide)
theorem Y9(f:cu)(c:aV):ak Tryz.prog 161 G0 0 [] [.agg (dP f), .rp (cO c)] (fun d os=>d= .bool (qX c.kR f)∧os=[]):=by
 refine aF Tryz.func161 rfl aB rfl (fun w0 F0 lent β0=> ?_)
 repeat'(first|refine sC ?_|((with_reducible refine aj ?_);first|(refine sS ?_;intro Q' hn he hr)|refine sA ?_)|(refine sH ?_;clear hn he hr Q')|((conv=>whnf);first|refine sK ?_|(refine au [] rfl rfl rfl ⟨?_,rfl⟩;conv=>lhs;whnf)))
 all_goals(refine congrArg D.bool ?_;simp[qX, *])
theorem ZO(a:List cu)(c:aV):ak Tryz.prog 226 G0 0 [] [.sl 4 (a.map dP), .clo (.func 161) [.rp (cO c)]] (fun d os=>d= .int .i64 (dV (qX c.kR) a)∧os=[]):=by
 refine aF Tryz.func226 rfl aB rfl (fun w0 F0 lent β0=> ?_)
 repeat'(first|refine sC ?_|((with_reducible refine aj ?_);first|(refine sS ?_;intro Q' hn he hr)|refine sA ?_)|(refine sH ?_;clear hn he hr Q')|((conv=>whnf);first|refine sK ?_|(refine sL ?_;intro hlen)))
 refine aQ (fun k:Nat=>[(0,.sl 4 (a.map dP)),(1,.clo (.func 161) [.rp (cO c)]),(6,.sl 4 (a.map dP)),(7,.int .i64 a.length),(8,.int .i64 k)]) (fun _=>[]) (fun k=>k≤a.length∧jB (qX c.kR) a k) (fun k=>a.length-k) 0 ⟨by omega,qE⟩ aI (fun k hk Q' hn he hr=> ?_)
 repeat'(first|refine sC ?_|((with_reducible refine aj ?_);first|(refine sS ?_;intro Q' hn he hr)|refine sA ?_)|(refine sH ?_;clear hn he hr Q')|((conv=>whnf);first|refine sK ?_|(refine sB ?_;repeat'(refine aA ?_ ?_<;>intro hb<;>try exact cls))|((with_reducible refine aH ?_);(refine jq (Y9 x c) rfl ?_))|refine sP ?_|(refine sE ?_;intro x hx)|(refine au [] rfl rfl rfl ⟨?_,rfl⟩;conv=>lhs;whnf)|(refine sH ?_;clear hn he hr Q')))
 ·rw[y9 hk.2 hx hb]
 ·exact⟨k+1,⟨by omega,qC hk.2 hx hb⟩,by omega,aI⟩
 ·rw[zf hk.2 ah]
theorem ZJ(a:List cu)(c:aV):ak Tryz.prog 160 G0 0 [] [.sl 4 (a.map dP), .clo (.func 161) [.rp (cO c)]] (fun d os=>d= .bool (decide (0≤dV (qX c.kR) a))∧os=[]):=by
 refine aF Tryz.func160 rfl aB rfl (fun w0 F0 lent β0=> ?_)
 repeat'(first|refine sC ?_|((with_reducible refine aj ?_);first|(refine sS ?_;intro Q' hn he hr)|refine sA ?_)|(refine sH ?_;clear hn he hr Q')|((conv=>whnf);first|refine sK ?_|((with_reducible refine aH ?_);(refine jq (ZO a c) rfl ?_))|(refine au [] rfl rfl rfl ⟨?_,rfl⟩;conv=>lhs;whnf)))
theorem aaX(h:bM)(r:List D)(t:List UInt8):ak Tryz.prog 200 G0 0 [] [.rp (oz h r), .str t] (fun d os=>d= .bool (decide (0≤dV (qX t) h.eF))∧os=[]):=by
 refine aF Tryz.func200 rfl aB rfl (fun w0 F0 lent β0=> ?_)
 repeat'(first|refine sC ?_|((with_reducible refine aj ?_);first|(refine sS ?_;intro Q' hn he hr)|refine sA ?_)|(refine sH ?_;clear hn he hr Q')|((conv=>whnf);refine sK ?_))
 refine aQ (fun k:Nat=>[(0,.rp (oz h r)),(1,.str t),(5,.int .i64 k)]) (fun _=>[]) (fun k=>k≤h.eF.length∧jB (qX t) h.eF k) (fun k=>h.eF.length-k) 0 ⟨by omega,qE⟩ aI (fun k hk Q' hn he hr=> ?_)
 by_cases hkl:k<h.eF.length
 ·obtain⟨f,hf⟩: ∃f,h.eF[k]? =some f:=⟨_,List.getElem?_eq_getElem hkl⟩
  repeat'(first|refine sC ?_|((with_reducible refine aj ?_);first|(refine sS ?_;intro Q' hn he hr)|refine sA ?_)|(refine sH ?_;clear hn he hr Q')|((conv=>whnf);first|refine sK ?_|(refine sB ?_;repeat'(refine aA ?_ ?_<;>intro hb<;>try exact cls))|(refine aJ.the hf ?_)|refine sP ?_|(refine sL ?_;intro hlen)|(refine au [] rfl rfl rfl ⟨?_,rfl⟩;conv=>lhs;whnf)))
  all_goals first
   |(rw[y9 hk.2 hf (by simp[qX, *])];simp;done)
   |exact⟨k+1,⟨by omega,qC hk.2 hf (by simp[qX, *])⟩,by omega,aI⟩
 ·repeat'(first|refine sC ?_|((with_reducible refine aj ?_);first|(refine sS ?_;intro Q' hn he hr)|refine sA ?_)|(refine sH ?_;clear hn he hr Q')|((conv=>whnf);first|refine sK ?_|(refine sB ?_;repeat'(refine aA ?_ ?_<;>intro hb<;>try exact cls))|(refine sL ?_;intro hlen)|(refine au [] rfl rfl rfl ⟨?_,rfl⟩;conv=>lhs;whnf)|(refine sH ?_;clear hn he hr Q')))
  rw[zf hk.2 ah]
  rfl
theorem Qn{c:aV}(h:sJ c=true):(0≤c.dK∧c.dK≤7200000)∧(0≤c.iZ∧c.iZ≤7200000)∧(0≤c.fValue∧c.fValue≤1000):=by
 simp only[sJ,inB,Bool.and_eq_true,decide_eq_true_eq] at h
 obtain⟨_,_,h1,h2,h3⟩:=h
 refine⟨h1,?_,h2⟩
 split at h3
 ·simp at h3;omega
 ·split at h3
  ·simp at h3;omega
  ·split at h3
   ·simp at h3;omega
   ·cases h3
theorem aar(a b:aV)(ha:sJ a=true):ak Tryz.prog 253 G0 0 [] [.rp (cO a), .rp (cO b)] (fun d os=>d= .bool (yM a b)∧os=[]):=by
 have hf:=Qn ha
 refine aF Tryz.func253 rfl aB rfl (fun w0 F0 lent β0=> ?_)
 repeat'(first|refine sC ?_|((with_reducible refine aj ?_);first|(refine sS ?_;intro Q' hn he hr)|refine sA ?_)|(refine sH ?_;clear hn he hr Q')|refine sO ?_|((conv=>whnf);first|refine sK ?_|(refine sB ?_;repeat'(first|refine sb0 ?_|(refine aA ?_ ?_<;>intro hb<;>try exact cls)))|refine sP ?_|refine sD ?_|(refine au [] rfl rfl rfl ⟨?_,rfl⟩;conv=>lhs;whnf)))
 all_goals(refine congrArg D.bool ?_;simp[yM, *])
theorem Qs{C:List aV}(h:mJ C=true){k:Nat}{c:aV}(hc:C[k]? =some c):sJ c=true:=by
 simp only[mJ,Bool.and_eq_true] at h
 have h2:=Ig h.2 hc
 simp only[pR,Bool.and_eq_true] at h2
 exact h2.1
theorem Af{C:List aV}(h:mJ C=true):C.length≤32:=by
 simp only[mJ,Bool.and_eq_true,decide_eq_true_eq] at h
 exact h.1
theorem Qh{C:List aV}(hl:C.length≤32){out r:List (List Int)}(h:out++r=fA C 0):out.length≤1024:=by
 have h1:=Dk C 0 hl
 have h2:=congrArg List.length h
 rw[List.length_append] at h2
 omega
set_option maxHeartbeats 8000000 in
theorem aas(C:List aV)(hv:mJ C=true):ak Tryz.prog 199 G0 0 [] [.sl 6 (C.map cO)] (fun d os=>d= .sl 1 ((fA C 0).map jF)∧os=[]):=by
 have hcl:=Af hv
 refine aF Tryz.func199 rfl aB rfl (fun w0 F0 lent β0=> ?_)
 repeat'(first|refine sC ?_|((with_reducible refine aj ?_);first|(refine sS ?_;intro Q' hn he hr)|refine sA ?_)|(refine sH ?_;clear hn he hr Q')|((conv=>whnf);refine sK ?_))
 refine AU (fun(i:Nat) (out:List (List Int))=>[(0,.sl 6 (C.map cO)),(3,.h 0),(4,.int .i64 i)]) (fun _ out=>[.row 26 1 (out.map jF)]) (fun i out=>i≤C.length∧out++fA (C.drop i) i=fA C 0) (fun i _=>C.length-i) 0 [] ⟨by omega,rfl⟩ aI (fun i out hk Q' hn he hr=> ?_)
 obtain⟨hk1,hk2⟩:=hk
 by_cases hil:i<C.length
 ·obtain⟨a,hca⟩: ∃a,C[i]? =some a:=⟨_,List.getElem?_eq_getElem hil⟩
  rw[Qg hca,←List.append_assoc] at hk2
  have hav:=Qs hv hca
  repeat'(first|refine sC ?_|((with_reducible refine aj ?_);first|(refine sS ?_;intro Q' hn he hr)|refine sA ?_)|(refine sH ?_;clear hn he hr Q')|((conv=>whnf);first|refine sK ?_|(refine sB ?_;repeat'(refine aA ?_ ?_<;>intro hb<;>try exact cls))|refine sP ?_|(refine sL ?_;intro hlen)))
  refine AU (fun(k:Nat) (out:List (List Int))=>[(0,.sl 6 (C.map cO)),(3,.h 0),(4,.int .i64 i),(5,.int .i64 k)]) (fun _ out=>[.row 26 1 (out.map jF)]) (fun k out=>k≤C.length∧out++lT a i (C.drop k) k++fA (C.drop (i+1)) (i+1)=fA C 0) (fun k _=>C.length-k) (i+1) out ⟨by omega,hk2⟩ aI (fun k out hj Q' hn he hr=> ?_)
  obtain⟨hj1,hj2⟩:=hj
  have hroom:=Qh hcl (by rw[←List.append_assoc];exact hj2)
  by_cases hkl:k<C.length
  ·obtain⟨b,hcb⟩: ∃b,C[k]? =some b:=⟨_,List.getElem?_eq_getElem hkl⟩
   repeat'(first|refine sC ?_|((with_reducible refine aj ?_);first|(refine sS ?_;intro Q' hn he hr)|refine sA ?_)|(refine sH ?_;clear hn he hr Q')|refine sO ?_|((conv=>whnf);first|refine sK ?_|(refine sB ?_;repeat'(refine aA ?_ ?_<;>intro hb<;>try exact cls))|(refine aJ.the hca ?_)|(refine aJ.the hcb ?_)|((with_reducible refine aZ ?_);(refine lu (aar a b hav) rfl ?_))|refine sP ?_|(refine sL ?_;intro hlen)|refine sD ?_))
   ·refine⟨k+1,out++[[(i:Int),(k:Int)]],⟨by omega,by rw[←hj2,Qd hcb aO];simp⟩,by omega,?_⟩
    exact BP
   ·exact⟨k+1,out,⟨by omega,by rw[←hj2,Qc hcb aO]⟩,by omega,aI⟩
  ·rw[P9 ah,List.append_nil] at hj2
   repeat'(first|refine sC ?_|((with_reducible refine aj ?_);first|(refine sS ?_;intro Q' hn he hr)|refine sA ?_)|(refine sH ?_;clear hn he hr Q')|((conv=>whnf);first|refine sK ?_|(refine sB ?_;repeat'(refine aA ?_ ?_<;>intro hb<;>try exact cls))|refine sP ?_|(refine sL ?_;intro hlen)|(refine sH ?_;clear hn he hr Q')))
   exact⟨i+1,out,⟨by omega,hj2⟩,by omega,aI⟩
 ·rw[Qe ah,List.append_nil] at hk2
  repeat'(first|refine sC ?_|((with_reducible refine aj ?_);first|(refine sS ?_;intro Q' hn he hr)|refine sA ?_)|(refine sH ?_;clear hn he hr Q')|((conv=>whnf);first|refine sK ?_|(refine sB ?_;repeat'(refine aA ?_ ?_<;>intro hb<;>try exact cls))|((with_reducible refine bP ?_);(refine uh 0 rfl (Nat.zero_le _) ?_;refine au [] rfl rfl rfl ⟨?_,rfl⟩))|(refine sL ?_;intro hlen)|(refine sH ?_;clear hn he hr Q')))
  rw[←hk2]
  rfl
set_option maxHeartbeats 8000000 in
theorem YL(C:List aV)(hv:mJ C=true):ak Tryz.prog 159 G0 0 [] [.sl 6 (C.map cO)] (fun d os=>d= .aN [.sl 1 ((fA C 0).map jF), .int .i64 0]∧os=[]):=by
 have hcl:=Af hv
 refine aF Tryz.func159 rfl aB rfl (fun w0 F0 lent β0=> ?_)
 repeat'(first|refine sC ?_|((with_reducible refine aj ?_);first|(refine sS ?_;intro Q' hn he hr)|refine sA ?_)|(refine sH ?_;clear hn he hr Q')|((conv=>whnf);first|refine sK ?_|(refine sB ?_;repeat'(refine aA ?_ ?_<;>intro hb<;>try exact cls))|((with_reducible refine aH ?_);(refine aG (OE C) rfl rfl ?_))|(refine sL ?_;intro hlen)))
 refine AU (fun(i:Nat) (out:List (List Int))=>[(0,.sl 6 (C.map cO)),(4,.h 0),(12,.sl 6 (C.map cO)),(13,.int .i64 C.length),(14,.int .i64 i)]) (fun _ out=>[.row 26 1 (out.map jF)]) (fun i out=>i≤C.length∧out++fA (C.drop i) i=fA C 0) (fun i _=>C.length-i) 0 [] ⟨by omega,rfl⟩ (by refine Weak.trans (yA 4 26 1 rfl rfl) (aC rfl rfl rfl ?_);exact⟨rfl,rfl,rfl,rfl,rfl,trivial⟩) (fun i out hk Q' hn he hr=> ?_)
 obtain⟨hk1,hk2⟩:=hk
 by_cases hil:i<C.length
 ·obtain⟨a,hca⟩: ∃a,C[i]? =some a:=⟨_,List.getElem?_eq_getElem hil⟩
  rw[Qg hca,←List.append_assoc] at hk2
  have hav:=Qn (Qs hv hca)
  repeat'(first|refine sC ?_|((with_reducible refine aj ?_);first|(refine sS ?_;intro Q' hn he hr)|refine sA ?_)|(refine sH ?_;clear hn he hr Q')|((conv=>whnf);first|refine sK ?_|(refine sB ?_;repeat'(refine aA ?_ ?_<;>intro hb<;>try exact cls))|(refine aJ.the hca ?_)|refine sP ?_))
  refine AU (fun(k:Nat) (out:List (List Int))=>[(0,.sl 6 (C.map cO)),(4,.h 0),(12,.sl 6 (C.map cO)),(13,.int .i64 C.length),(14,.int .i64 i),(5,.int .i64 i),(6,.hp 1 0),(7,.int .i64 k)]) (fun _ out=>[.row 26 1 (out.map jF), .box (cO a)]) (fun k out=>k≤C.length∧out++lT a i (C.drop k) k++fA (C.drop (i+1)) (i+1)=fA C 0) (fun k _=>C.length-k) (i+1) out ⟨by omega,hk2⟩ aI (fun k out hj Q' hn he hr=> ?_)
  obtain⟨hj1,hj2⟩:=hj
  have hroom:=Qh hcl (by rw[←List.append_assoc];exact hj2)
  by_cases hkl:k<C.length
  ·obtain⟨b,hcb⟩: ∃b,C[k]? =some b:=⟨_,List.getElem?_eq_getElem hkl⟩
   repeat'(first|refine sC ?_|((with_reducible refine aj ?_);first|(refine sS ?_;intro Q' hn he hr)|refine sA ?_)|(refine sH ?_;clear hn he hr Q')|((conv=>whnf);first|refine sK ?_|(refine sB ?_;repeat'(first|refine sb0 ?_|(refine aA ?_ ?_<;>intro hb<;>try exact cls)))|(refine aJ.the hcb ?_)|refine sP ?_|(refine sL ?_;intro hlen)))
   all_goals first
    |(refine⟨k+1,out++[[(i:Int),(k:Int)]],⟨by omega,by rw[←hj2,Qd hcb (by simp[yM, *])];simp⟩,by omega,?_⟩
      exact BP)
    |exact⟨k+1,out,⟨by omega,by rw[←hj2,Qc hcb (by simp[yM, *])]⟩,by omega,aI⟩
  ·rw[P9 ah,List.append_nil] at hj2
   repeat'(first|refine sC ?_|((with_reducible refine aj ?_);first|(refine sS ?_;intro Q' hn he hr)|refine sA ?_)|(refine sH ?_;clear hn he hr Q')|((conv=>whnf);first|refine sK ?_|(refine sB ?_;repeat'(refine aA ?_ ?_<;>intro hb<;>try exact cls))|refine sP ?_|(refine sL ?_;intro hlen)|(refine sH ?_;clear hn he hr Q')))
   exact⟨i+1,out,⟨by omega,hj2⟩,by omega,aI⟩
 ·rw[Qe ah,List.append_nil] at hk2
  repeat'(first|refine sC ?_|((with_reducible refine aj ?_);first|(refine sS ?_;intro Q' hn he hr)|refine sA ?_)|(refine sH ?_;clear hn he hr Q')|((conv=>whnf);first|refine sK ?_|(refine sB ?_;repeat'(refine aA ?_ ?_<;>intro hb<;>try exact cls))|((with_reducible refine bP ?_);(refine uh 0 rfl (Nat.zero_le _) ?_;refine au [] rfl rfl rfl ⟨?_,rfl⟩))|(refine sH ?_;clear hn he hr Q')))
  rw[←hk2]
  rfl
end Go.Eng
