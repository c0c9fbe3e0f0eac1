/-
  Contracts of functions of the program and of the reference, and plain laws: a bundle of texts.
  No conditions.
-/
import Derived.Test.YtocoppijdodffaaGreatDoorFD
set_option linter.unusedVariables false
set_option linter.unusedSimpArgs false
set_option maxHeartbeats 4000000
namespace Go.Eng
open Go Go.RowKit Go.Proofs
set_option maxRecDepth 100000
theorem QM{R:List bK}{k:Int}{i:Nat}{r:bK}{k':Int}(hr:R[i]? =some r)(h: ¬k'<r.fCount)(e:(dB R k).1=i+(dB (R.drop i) k').1∧(dB R k).2=(dB (R.drop i) k').2):(dB R k).1=(i+1)+(dB (R.drop (i+1)) (k'-r.fCount)).1∧(dB R k).2=(dB (R.drop (i+1)) (k'-r.fCount)).2:=by
 rw[agL hr h] at e
 simp only at e
 omega
theorem QK{R:List bK}{k:Int}{i:Nat}{r:bK}{k':Int}(hr:R[i]? =some r)(h:k'<r.fCount)(e:(dB R k).1=i+(dB (R.drop i) k').1∧(dB R k).2=(dB (R.drop i) k').2):(dB R k).1=i∧(dB R k).2=k':=by
 rw[agK hr h] at e
 simp only at e
 omega
set_option maxHeartbeats 4000000 in
theorem OY(R:List bK)(k:Int)(hR:gZ R=true)(h0:0≤k)(h1:k<dO R):ak Tryz.prog 235 G0 0 [] [.sl 5 (R.map dS), .int .i64 k] (fun d os=>d= .aN [.int .i64 ((dB R k).1:Nat), .int .i64 (dB R k).2]∧os=[]):=by
 obtain⟨hall,hl,hs0,hs1⟩:=Bq hR
 refine aF Tryz.func235 rfl aB rfl (fun w0 F0 lent β0=> ?_)
 repeat'(first|refine sC ?_|((with_reducible refine aj ?_);first|(refine sS ?_;intro Q' hn he hr)|refine sA ?_)|(refine sH ?_;clear hn he hr Q')|((conv=>whnf);first|refine sK ?_|(refine sL ?_;intro hlen)))
 refine AU (fun(i:Nat) (k':Int)=>[(1,.int .i64 k'),(8,.sl 5 (R.map dS)),(9,.int .i64 R.length),(10,.int .i64 i)]) (fun _ _=>[]) (fun i k'=>(i≤R.length∧0≤k'∧k'≤120)∧k'<dO (R.drop i)∧((dB R k).1=i+(dB (R.drop i) k').1∧(dB R k).2=(dB (R.drop i) k').2)) (fun i _=>R.length-i) 0 k ⟨by omega,by simpa using h1,by simp⟩ aI (fun i k' hk Q' hn he hr=> ?_)
 obtain⟨⟨hk1,hk2,hk3⟩,hk4,hk5⟩:=hk
 by_cases hil:i<R.length
 ·obtain⟨r,oO⟩: ∃r,R[i]? =some r:=⟨_,List.getElem?_eq_getElem hil⟩
  have hrc:=Ep (hall _ _ oO)
  have hsd:=WE oO
  repeat'(first|refine sC ?_|((with_reducible refine aj ?_);first|(refine sS ?_;intro Q' hn he hr)|refine sA ?_)|(refine sH ?_;clear hn he hr Q')|((conv=>whnf);first|refine sK ?_|(refine sB ?_;repeat'(refine aA ?_ ?_<;>intro hb<;>try exact cls))|(refine aJ.the oO ?_)|refine sP ?_|(refine au [] rfl rfl rfl ⟨?_,rfl⟩;conv=>lhs;whnf)))
  all_goals first
   |(obtain⟨e1,e2⟩:=QK oO ah hk5;rw[e1,e2];rfl)
   |exact⟨i+1,k'-r.fCount,⟨by omega,by omega,QM oO ah hk5⟩,by omega,aI⟩
 ·exfalso
  rw[List.drop_of_length_le ah] at hk4
  simp[dO] at hk4
  omega
set_option maxHeartbeats 4000000 in
theorem PS(R:List bK)(k:Int)(hR:gZ R=true)(h0:0≤k)(h1:k<dO R):ak Tryz.prog 257 G0 0 [] [.sl 5 (R.map dS), .int .i64 k] (fun d os=>d= .aN [.int .i64 ((dB R k).1:Nat), .int .i64 (dB R k).2]∧os=[]):=by
 obtain⟨hall,hl,hs0,hs1⟩:=Bq hR
 refine aF Tryz.func257 rfl aB rfl (fun w0 F0 lent β0=> ?_)
 repeat'(first|refine sC ?_|((with_reducible refine aj ?_);first|(refine sS ?_;intro Q' hn he hr)|refine sA ?_)|(refine sH ?_;clear hn he hr Q')|((conv=>whnf);refine sK ?_))
 refine AU (fun(i:Nat) (k':Int)=>[(0,.sl 5 (R.map dS)),(1,.int .i64 k'),(6,.int .i64 i)]) (fun _ _=>[]) (fun i k'=>(i≤R.length∧0≤k'∧k'≤120)∧k'<dO (R.drop i)∧((dB R k).1=i+(dB (R.drop i) k').1∧(dB R k).2=(dB (R.drop i) k').2)) (fun i _=>R.length-i) 0 k ⟨by omega,by simpa using h1,by simp⟩ aI (fun i k' hk Q' hn he hr=> ?_)
 obtain⟨⟨hk1,hk2,hk3⟩,hk4,hk5⟩:=hk
 by_cases hil:i<R.length
 ·obtain⟨r,oO⟩: ∃r,R[i]? =some r:=⟨_,List.getElem?_eq_getElem hil⟩
  have hrc:=Ep (hall _ _ oO)
  have hsd:=WE oO
  repeat'(first|refine sC ?_|((with_reducible refine aj ?_);first|(refine sS ?_;intro Q' hn he hr)|refine sA ?_)|(refine sH ?_;clear hn he hr Q')|((conv=>whnf);first|refine sK ?_|(refine sB ?_;repeat'(refine aA ?_ ?_<;>intro hb<;>try exact cls))|(refine aJ.the oO ?_)|refine sP ?_|(refine au [] rfl rfl rfl ⟨?_,rfl⟩;conv=>lhs;whnf)|(refine sH ?_;clear hn he hr Q')))
  all_goals first
   |(obtain⟨e1,e2⟩:=QK oO ah hk5;rw[e1,e2];rfl)
   |exact⟨i+1,k'-r.fCount,⟨by omega,by omega,QM oO ah hk5⟩,by omega,aI⟩
 ·exfalso
  rw[List.drop_of_length_le ah] at hk4
  simp[dO] at hk4
  omega
theorem V9(R:List bK)(k:Int): [114]++Lib.itoa (((dB R k).1:Int)+1)++[115]++Lib.itoa ((dB R k).2+1)=BA R k:=by simp[BA]
theorem Zn(R:List bK)(k:Int)(hR:gZ R=true)(h0:0≤k)(h1:k<dO R):ak Tryz.prog 167 GP 0 [] [.sl 5 (R.map dS), .int .i64 k] (fun d os=>d= .str (BA R k)∧os=[]):=by
 obtain⟨h2,h3,h4,h5,h6⟩:=Eo hR h0 h1
 have h7:=(Bo h3).2.1
 have hl1:=Lib.itoa_length_le (((dB R k).1:Int)+1) ah ah
 have hl2:=Lib.itoa_length_le ((dB R k).2+1) ah ah
 refine aF Tryz.func167 rfl aB rfl (fun w0 F0 lent β0=> ?_)
 repeat'(first|refine sC ?_|((with_reducible refine aj ?_);first|(refine sS ?_;intro Q' hn he hr)|refine sA ?_)|(refine sH ?_;clear hn he hr Q')|((conv=>whnf);first|refine sK ?_|(refine bZ.mk ⟨by simp only[List.length_append,maxLen];simp;omega,?_⟩)|((with_reducible refine aH ?_);first|(refine aG ((OY R k hR h0 h1).aU) rfl rfl ?_)|(refine aG (CW _ ah) rfl rfl ?_))|refine sP ?_|(refine au [] rfl rfl rfl ⟨?_,rfl⟩;conv=>lhs;whnf)))
 all_goals exact congrArg D.str (V9 R k)
theorem aaI(R:List bK)(k:Int)(hR:gZ R=true)(h0:0≤k)(h1:k<dO R):ak Tryz.prog 206 G0 0 [] [.sl 5 (R.map dS), .int .i64 k] (fun d os=>d= .str (BA R k)∧os=[]):=by
 obtain⟨h2,h3,h4,h5,h6⟩:=Eo hR h0 h1
 have h7:=(Bo h3).2.1
 have hl1:=Lib.itoa_length_le (((dB R k).1:Int)+1) ah ah
 have hl2:=Lib.itoa_length_le ((dB R k).2+1) ah ah
 refine aF Tryz.func206 rfl aB rfl (fun w0 F0 lent β0=> ?_)
 repeat'(first|refine sC ?_|((with_reducible refine aj ?_);first|(refine sS ?_;intro Q' hn he hr)|refine sA ?_)|(refine sH ?_;clear hn he hr Q')|((conv=>whnf);first|refine sK ?_|(refine bZ.mk ⟨by simp only[List.length_append,maxLen];simp;omega,?_⟩)|((with_reducible refine aH ?_);first|(refine aG (PS R k hR h0 h1) rfl rfl ?_)|(refine aG (CZ _ ah) rfl rfl ?_))|refine sP ?_|(refine au [] rfl rfl rfl ⟨?_,rfl⟩;conv=>lhs;whnf)))
 all_goals exact congrArg D.str (V9 R k)
end Go.Eng
namespace Go.Eng
open Go Go.RowKit Go.Proofs
set_option maxRecDepth 100000
theorem agF(a:Int):jI (a % 360000)=jI a:=by
 unfold jI
 simp only[Int.emod_emod]
theorem aci(a:Int):lC (a % 360000)=lC a:=by
 unfold lC
 simp only[Int.emod_emod]
set_option maxHeartbeats 4000000 in
theorem O1(R:List bK)(k:Int)(hR:gZ R=true)(h0:0≤k)(h1:k<dO R):ak Tryz.prog 232 GS 0 [] [.sl 5 (R.map dS), .int .i64 k] (fun d os=>d= .agg (eu (jU R k))∧os=[]):=by
 obtain⟨h2,h3,h4,h5,h6⟩:=Eo hR h0 h1
 obtain⟨g1,g2,g3,g4,g5⟩:=Bo h3
 have g6:=V6 h3 h4 h5
 have m1:=bH (x:=(ringAt R k).bY) (y:=jI (kW R k)) (m:=30000) ah (um _) ah
 have m2:=bH (x:=(ringAt R k).bY) (y:=lC (kW R k)) (m:=30000) ah (nK _) ah
 have hsi:bU (kW R k):=by unfold bU kW;omega
 refine aF Tryz.func232 rfl aB rfl (fun w0 F0 lent β0=> ?_)
 repeat'(first|refine sC ?_|((with_reducible refine aj ?_);first|(refine sS ?_;intro Q' hn he hr)|refine sA ?_)|(refine sH ?_;clear hn he hr Q')|refine sO ?_|((conv=>whnf);first|refine sK ?_|(refine aJ.the h2 ?_)|(refine bn.to (kW R k) rfl (wrap64 hsi) ?_)|((with_reducible refine aH ?_);(refine aG ((OY R k hR h0 h1).aU) rfl rfl ?_))|((with_reducible refine aZ ?_);first|(refine aT (zW (kW R k) hsi) rfl rfl ?_)|(refine aT (CV (kW R k) hsi) rfl rfl ?_)|(refine aT (ak.aU (zX _ _ ah ah)) rfl rfl ?_))|refine sP ?_|refine sD ?_|(refine au [] rfl rfl rfl ⟨?_,rfl⟩;conv=>lhs;whnf)))
 all_goals rfl
set_option maxHeartbeats 4000000 in
theorem aaK(R:List bK)(k:Int)(hR:gZ R=true)(h0:0≤k)(h1:k<dO R):ak Tryz.prog 205 G0 0 [] [.sl 5 (R.map dS), .int .i64 k] (fun d os=>d= .agg (eu (jU R k))∧os=[]):=by
 obtain⟨h2,h3,h4,h5,h6⟩:=Eo hR h0 h1
 obtain⟨g1,g2,g3,g4,g5⟩:=Bo h3
 have g6:=V6 h3 h4 h5
 have m1:=bH (x:=(ringAt R k).bY) (y:=jI (kW R k)) (m:=30000) ah (um _) ah
 have m2:=bH (x:=(ringAt R k).bY) (y:=lC (kW R k)) (m:=30000) ah (nK _) ah
 have hsi:bU (kW R k):=by unfold bU kW;omega
 have c1:=Df (kW R k % 360000) eY
 have c2:=EZ (kW R k % 360000) eY
 rw[agF] at c1
 rw[aci] at c2
 refine aF Tryz.func205 rfl aB rfl (fun w0 F0 lent β0=> ?_)
 repeat'(first|refine sC ?_|((with_reducible refine aj ?_);first|(refine sS ?_;intro Q' hn he hr)|refine sA ?_)|(refine sH ?_;clear hn he hr Q')|refine sO ?_|((conv=>whnf);first|refine sK ?_|(refine aJ.the h2 ?_)|(refine bn.to (kW R k) rfl (wrap64 hsi) ?_)|((with_reducible refine aH ?_);(refine aG (PS R k hR h0 h1) rfl rfl ?_))|((with_reducible refine aZ ?_);first|(refine aT (zY (kW R k) hsi) rfl rfl ?_)|(refine aT (c1) rfl rfl ?_)|(refine aT (c2) rfl rfl ?_)|(refine aT (vC _ _ ah ah) rfl rfl ?_))|refine sP ?_|refine sD ?_|(refine au [] rfl rfl rfl ⟨?_,rfl⟩;conv=>lhs;whnf)))
 all_goals rfl
theorem U1{R:List bK}{k:Int}(hR:gZ R=true)(h0:0≤k)(h1:k<dO R):fE 30000 (jU R k):=by
 obtain⟨h2,h3,h4,h5,h6⟩:=Eo hR h0 h1
 obtain⟨g1,g2,g3,g4,g5⟩:=Bo h3
 have m1:=bH (x:=(ringAt R k).bY) (y:=jI (kW R k)) (m:=30000) ah (um _) ah
 have m2:=bH (x:=(ringAt R k).bY) (y:=lC (kW R k)) (m:=30000) ah (nK _) ah
 exact⟨lI ah ah ah,lI ah ah ah,by show-30000≤(0:Int)∧(0:Int)≤30000;omega⟩
theorem Jv{d:dn}(h:jD d=true):1000≤d.bY∧d.bY≤30000:=by
 simp only[jD,inB,Bool.and_eq_true,decide_eq_true_eq] at h
 omega
theorem Td{d:dn}{v:bI}(h:inB v.fX (-(d.bY-1)) (d.bY-1)=false):mV d v=false:=by unfold mV;rw[h];rfl
theorem Tf{d:dn}{v:bI}(h:inB v.fY (-(d.bY-1)) (d.bY-1)=false):mV d v=false:=by unfold mV;rw[h];simp
theorem Ti{d:dn}{v:bI}(h:inB v.fZ (-(d.bY-1)) (d.bY-1)=false):mV d v=false:=by unfold mV;rw[h];simp
theorem Tj{d:dn}{v:bI}(h1:inB v.fX (-(d.bY-1)) (d.bY-1)=true)(h2:inB v.fY (-(d.bY-1)) (d.bY-1)=true)(h3:inB v.fZ (-(d.bY-1)) (d.bY-1)=true):mV d v=decide (v.fX*v.fX+v.fY*v.fY+v.fZ*v.fZ<(d.bY-1)*(d.bY-1)):=by unfold mV;rw[h1,h2,h3];rfl
set_option maxHeartbeats 4000000 in
theorem IL(d:dn)(v:bI)(hd:jD d=true)(hv:fE 30000 v):ak Tryz.prog 233 G0 0 [] [.agg (jE d), .agg (eu v)] (fun e os=>e= .bool (mV d v)∧os=[]):=by
 obtain⟨b1,b2,b3⟩:=hv
 have hr0:=Jv hd
 have m1:=bH b1 b1 ah
 have m2:=bH b2 b2 ah
 have m3:=bH b3 b3 ah
 have m4:=bH (x:=d.bY-1) (y:=d.bY-1) (m:=30000) (n:=30000) ah ah ah
 refine aF Tryz.func233 rfl aB rfl (fun w0 F0 lent β0=> ?_)
 repeat'(first|refine sC ?_|((with_reducible refine aj ?_);first|(refine sS ?_;intro Q' hn he hr)|refine sA ?_)|(refine sH ?_;clear hn he hr Q')|((conv=>whnf);first|refine sK ?_|(refine sB ?_;repeat'(first|refine sb0 ?_|(refine aA ?_ ?_<;>intro hb<;>try exact cls)))|((with_reducible refine aH ?_);(refine aG (iQ _ _ _) rfl rfl ?_))|refine sP ?_|(refine au [] rfl rfl rfl ⟨?_,rfl⟩;conv=>lhs;whnf)))
 all_goals(try simp only[Int.zero_sub] at*)
 all_goals first
  |(rw[Td aO];done)
  |(rw[Tf aO];done)
  |(rw[Ti aO];done)
  |(rw[Tj aO aO aO];done)
set_option maxHeartbeats 4000000 in
theorem PK(d:dn)(r:List D)(v:bI)(hd:jD d=true)(hv:fE 30000 v):ak Tryz.prog 255 G0 0 [] [.rp (jE d++r), .agg (eu v)] (fun e os=>e= .bool (mV d v)∧os=[]):=by
 obtain⟨b1,b2,b3⟩:=hv
 have hr0:=Jv hd
 have m1:=bH b1 b1 ah
 have m2:=bH b2 b2 ah
 have m3:=bH b3 b3 ah
 have m4:=bH (x:=d.bY-1) (y:=d.bY-1) (m:=30000) (n:=30000) ah ah ah
 refine aF Tryz.func255 rfl aB rfl (fun w0 F0 lent β0=> ?_)
 repeat'(first|refine sC ?_|((with_reducible refine aj ?_);first|(refine sS ?_;intro Q' hn he hr)|refine sA ?_)|(refine sH ?_;clear hn he hr Q')|((conv=>whnf);first|refine sK ?_|(refine sB ?_;repeat'(first|refine sb0 ?_|(refine aA ?_ ?_<;>intro hb<;>try exact cls)))|((with_reducible refine aH ?_);(refine aG (iy _ _ _) rfl rfl ?_))|refine sP ?_|(refine au [] rfl rfl rfl ⟨?_,rfl⟩;conv=>lhs;whnf)))
 all_goals(try simp only[Int.zero_sub] at*)
 all_goals first
  |(rw[Td aO];done)
  |(rw[Tf aO];done)
  |(rw[Ti aO];done)
  |(rw[Tj aO aO aO];done)
theorem vV{d:dn}(hd:jD d=true){x:Int}(hx: -1000000≤x∧x≤1000000): -30000000000≤d.bY*x∧d.bY*x≤30000000000:=by
 have hr0:=Jv hd
 exact bH (x:=d.bY) (y:=x) (m:=30000) (n:=1000000) ah hx ah
theorem MI{d:dn}(hd:jD d=true)(a h:Int):fE 30000 (Bd d a h):=by
 obtain⟨b1,b2,b3⟩:=sN ((90000-a) % 360000) h
 have m1:=vV hd b1
 have m2:=vV hd b2
 have m3:=vV hd b3
 exact⟨lI ah ah ah,lI ah ah ah,lI ah ah ah⟩
theorem W9{d:dn}(hd:jD d=true){v:bI}(hv:fE 30000 v)(a h:Int):fE 60000 (jC d v a h):=by
 obtain⟨b1,b2,b3⟩:=MI hd a h
 obtain⟨c1,c2,c3⟩:=hv
 refine⟨?_,?_,?_⟩<;>simp only[jC]<;>omega
theorem ag8{m n:Int}{v:bI}(h:fE m v)(hm:m≤n):fE n v:=by
 obtain⟨b1,b2,b3⟩:=h
 refine⟨?_,?_,?_⟩<;>omega
theorem Zf(a h:Int)(ha:0≤a∧a≤360000)(hh:0≤h∧h≤90000):ak Tryz.prog 341 GS 0 [] [.int .i64 a, .int .i64 h] (fun d os=>d= .agg (eu (fO ((90000-a) % 360000) h))∧os=[]):=by
 refine aF Tryz.func341 rfl aB rfl (fun w0 F0 lent β0=> ?_)
 repeat'(first|refine sC ?_|((with_reducible refine aj ?_);first|(refine sS ?_;intro Q' hn he hr)|refine sA ?_)|(refine sH ?_;clear hn he hr Q')|((conv=>whnf);first|refine sK ?_|((with_reducible refine aH ?_);first|(refine aG (ak.aU (uG (90000-a) eY)) rfl rfl ?_)|(refine aG (CY _ _ eY eY) rfl rfl ?_))|refine sP ?_|(refine au [] rfl rfl rfl ⟨?_,rfl⟩;conv=>lhs;whnf)))
 all_goals rfl
set_option maxHeartbeats 4000000 in
theorem Ze(d:dn)(a h:Int)(hd:jD d=true)(ha:0≤a∧a≤360000)(hh:0≤h∧h≤90000):ak Tryz.prog 317 GS 0 [] [.agg (jE d), .int .i64 a, .int .i64 h] (fun e os=>e= .agg (eu (Bd d a h))∧os=[]):=by
 obtain⟨b1,b2,b3⟩:=sN ((90000-a) % 360000) h
 have m1:=vV hd b1
 have m2:=vV hd b2
 have m3:=vV hd b3
 refine aF Tryz.func317 rfl aB rfl (fun w0 F0 lent β0=> ?_)
 repeat'(first|refine sC ?_|((with_reducible refine aj ?_);first|(refine sS ?_;intro Q' hn he hr)|refine sA ?_)|(refine sH ?_;clear hn he hr Q')|refine sO ?_|((conv=>whnf);first|refine sK ?_|((with_reducible refine aH ?_);(refine aG (Zf a h ha hh) rfl rfl ?_))|((with_reducible refine aZ ?_);(refine aT (ak.aU (zX _ _ ah ah)) rfl rfl ?_))|refine sP ?_|refine sD ?_|(refine au [] rfl rfl rfl ⟨?_,rfl⟩;conv=>lhs;whnf)))
 all_goals rfl
set_option maxHeartbeats 4000000 in
theorem aai(d:dn)(r:List D)(a h:Int)(hd:jD d=true)(ha:0≤a∧a≤360000)(hh:0≤h∧h≤90000):ak Tryz.prog 325 G0 0 [] [.rp (jE d++r), .int .i64 a, .int .i64 h] (fun e os=>e= .agg (eu (Bd d a h))∧os=[]):=by
 obtain⟨b1,b2,b3⟩:=sN ((90000-a) % 360000) h
 have m1:=vV hd b1
 have m2:=vV hd b2
 have m3:=vV hd b3
 refine aF Tryz.func325 rfl aB rfl (fun w0 F0 lent β0=> ?_)
 repeat'(first|refine sC ?_|((with_reducible refine aj ?_);first|(refine sS ?_;intro Q' hn he hr)|refine sA ?_)|(refine sH ?_;clear hn he hr Q')|refine sO ?_|((conv=>whnf);first|refine sK ?_|((with_reducible refine aH ?_);first|(refine aG (zY (90000-a) eY) rfl rfl ?_)|(refine aG (Dh _ _ eY eY) rfl rfl ?_))|((with_reducible refine aZ ?_);(refine aT (vC _ _ ah ah) rfl rfl ?_))|refine sP ?_|refine sD ?_|(refine au [] rfl rfl rfl ⟨?_,rfl⟩;conv=>lhs;whnf)))
 all_goals rfl
set_option maxHeartbeats 4000000 in
theorem Zy(d:dn)(v:bI)(a h:Int)(hd:jD d=true)(hv:fE 30000 v)(ha:0≤a∧a≤360000)(hh:0≤h∧h≤90000):ak Tryz.prog 282 GS 0 [] [.agg (jE d), .agg (eu v), .int .i64 a, .int .i64 h] (fun e os=>e= .agg (eu (jC d v a h))∧os=[]):=by
 obtain⟨b1,b2,b3⟩:=MI hd a h
 obtain⟨c1,c2,c3⟩:=hv
 refine aF Tryz.func282 rfl aB rfl (fun w0 F0 lent β0=> ?_)
 repeat'(first|refine sC ?_|((with_reducible refine aj ?_);first|(refine sS ?_;intro Q' hn he hr)|refine sA ?_)|(refine sH ?_;clear hn he hr Q')|((conv=>whnf);first|refine sK ?_|((with_reducible refine aH ?_);(refine aG (Ze d a h hd ha hh) rfl rfl ?_))|refine sP ?_|(refine au [] rfl rfl rfl ⟨?_,rfl⟩;conv=>lhs;whnf)))
 all_goals rfl
theorem Wv{v:bI}(hv:fE 60000 v):v.fX*v.fX+v.fY*v.fY=((v.fX*v.fX+v.fY*v.fY).toNat:Int)∧(v.fX*v.fX+v.fY*v.fY).toNat≤7200000000:=by
 obtain⟨b1,b2,b3⟩:=hv
 have m1:=bH b1 b1 ah
 have m2:=bH b2 b2 ah
 have g1:=sq_pos v.fX
 have g2:=sq_pos v.fY
 omega
theorem VI{n:Nat}(h:n≤7200000000):iH n≤90000:=by
 have h2:=(MZ n).1
 rcases Nat.lt_or_ge 90000 (iH n) with h3|h3
 ·have:=Nat.mul_le_mul h3 h3
  omega
 ·exact h3
theorem XI{y x:Int}(h:x=0∧y=0):lN y x=0:=by
 obtain⟨rfl,rfl⟩:=h
 exact XJ
def Iq(y x:Int):Int:=if x=0∧y=0 then 6 else 0
theorem zV(y x:Int)(hy: -1000000000000≤y∧y≤1000000000000)(hx1: -1000000000000≤x∧x≤1000000000000):ak Tryz.prog 315 GS 0 [] [.int .i64 y, .int .i64 x] (fun d os=>d= .aN [.int .i64 (lN y x), .int .i64 (Iq y x)]∧os=[]):=by
 by_cases h0:x=0∧y=0
 ·refine(Oz y x h0).mono fun d os h=> ?_
  obtain⟨rfl,rfl⟩:=h
  exact⟨by rw[XI h0,Iq,if_pos h0],rfl⟩
 ·refine(Oy y x hy hx1 h0).mono fun d os h=> ?_
  obtain⟨rfl,rfl⟩:=h
  exact⟨by rw[Iq,if_neg h0],rfl⟩
set_option maxHeartbeats 4000000 in
theorem Zc(v:bI)(hv:fE 60000 v):ak Tryz.prog 281 GS 0 [] [.agg (eu v)] (fun d os=>d= .aN [.int .i64 ((90000-kT v) % 360000), .int .i64 (iR v)]∧os=[]):=by
 obtain⟨hs1,hs2⟩:=Wv hv
 have hrs:=VI hs2
 have hab:=yI v.fY v.fX
 have hlb:=yI v.fZ (iH (v.fX*v.fX+v.fY*v.fY).toNat)
 obtain⟨b1,b2,b3⟩:=hv
 have m1:=bH b1 b1 ah
 have m2:=bH b2 b2 ah
 by_cases hz:v.fX=0∧v.fY=0
 ·have hlo:kT v=0:=by unfold kT;rw[if_pos hz]
  by_cases hbig:90000<ji v
  ·have hla:iR v=ji v-360000:=by unfold iR;rw[if_pos hbig]
   rw[hlo,hla]
   unfold ji at hbig⊢
   refine aF Tryz.func281 rfl aB rfl (fun w0 F0 lent β0=> ?_)
   repeat'(first|refine sC ?_|((with_reducible refine aj ?_);first|(refine sS ?_;intro Q' hn he hr)|refine sA ?_)|(refine sH ?_;clear hn he hr Q')|refine sO ?_|((conv=>whnf);first|refine sK ?_|(refine sB ?_;repeat'(first|refine sb0 ?_|(refine aA ?_ ?_<;>intro hb<;>try exact cls)))|(refine bn.to ((v.fX*v.fX+v.fY*v.fY).toNat:Int) hs1 (wrap64 ah) ?_)|((with_reducible refine aH ?_);(refine aG (ak.aU (uG _ eY)) rfl rfl ?_))|((with_reducible refine aZ ?_);first|(refine aT (ak.aU (CX _ ah)) rfl rfl ?_)|(refine aT (zV v.fZ (iH (v.fX*v.fX+v.fY*v.fY).toNat) ah ah) rfl rfl ?_))|refine sP ?_|refine sD ?_|(refine au [] rfl rfl rfl ⟨?_,rfl⟩;conv=>lhs;whnf)))
   all_goals rfl
  ·have hla:iR v=ji v:=by unfold iR;rw[if_neg hbig]
   rw[hlo,hla]
   unfold ji at hbig⊢
   refine aF Tryz.func281 rfl aB rfl (fun w0 F0 lent β0=> ?_)
   repeat'(first|refine sC ?_|((with_reducible refine aj ?_);first|(refine sS ?_;intro Q' hn he hr)|refine sA ?_)|(refine sH ?_;clear hn he hr Q')|refine sO ?_|((conv=>whnf);first|refine sK ?_|(refine sB ?_;repeat'(first|refine sb0 ?_|(refine aA ?_ ?_<;>intro hb<;>try exact cls)))|(refine bn.to ((v.fX*v.fX+v.fY*v.fY).toNat:Int) hs1 (wrap64 ah) ?_)|((with_reducible refine aH ?_);(refine aG (ak.aU (uG _ eY)) rfl rfl ?_))|((with_reducible refine aZ ?_);first|(refine aT (ak.aU (CX _ ah)) rfl rfl ?_)|(refine aT (zV v.fZ (iH (v.fX*v.fX+v.fY*v.fY).toNat) ah ah) rfl rfl ?_))|refine sP ?_|refine sD ?_|(refine au [] rfl rfl rfl ⟨?_,rfl⟩;conv=>lhs;whnf)))
   all_goals rfl
 ·have hlo:kT v=lN v.fY v.fX:=by unfold kT;rw[if_neg hz]
  by_cases hbig:90000<ji v
  ·have hla:iR v=ji v-360000:=by unfold iR;rw[if_pos hbig]
   rw[hlo,hla]
   unfold ji at hbig⊢
   refine aF Tryz.func281 rfl aB rfl (fun w0 F0 lent β0=> ?_)
   repeat'(first|refine sC ?_|((with_reducible refine aj ?_);first|(refine sS ?_;intro Q' hn he hr)|refine sA ?_)|(refine sH ?_;clear hn he hr Q')|refine sO ?_|((conv=>whnf);first|refine sK ?_|(refine sB ?_;repeat'(first|refine sb0 ?_|(refine aA ?_ ?_<;>intro hb<;>try exact cls)))|(refine bn.to ((v.fX*v.fX+v.fY*v.fY).toNat:Int) hs1 (wrap64 ah) ?_)|((with_reducible refine aH ?_);first|(refine aG (zV v.fY v.fX ah ah) rfl rfl ?_)|(refine aG (ak.aU (uG _ eY)) rfl rfl ?_))|((with_reducible refine aZ ?_);first|(refine aT (ak.aU (CX _ ah)) rfl rfl ?_)|(refine aT (zV v.fZ (iH (v.fX*v.fX+v.fY*v.fY).toNat) ah ah) rfl rfl ?_))|refine sP ?_|refine sD ?_|(refine au [] rfl rfl rfl ⟨?_,rfl⟩;conv=>lhs;whnf)))
   all_goals rfl
  ·have hla:iR v=ji v:=by unfold iR;rw[if_neg hbig]
   rw[hlo,hla]
   unfold ji at hbig⊢
   refine aF Tryz.func281 rfl aB rfl (fun w0 F0 lent β0=> ?_)
   repeat'(first|refine sC ?_|((with_reducible refine aj ?_);first|(refine sS ?_;intro Q' hn he hr)|refine sA ?_)|(refine sH ?_;clear hn he hr Q')|refine sO ?_|((conv=>whnf);first|refine sK ?_|(refine sB ?_;repeat'(first|refine sb0 ?_|(refine aA ?_ ?_<;>intro hb<;>try exact cls)))|(refine bn.to ((v.fX*v.fX+v.fY*v.fY).toNat:Int) hs1 (wrap64 ah) ?_)|((with_reducible refine aH ?_);first|(refine aG (zV v.fY v.fX ah ah) rfl rfl ?_)|(refine aG (ak.aU (uG _ eY)) rfl rfl ?_))|((with_reducible refine aZ ?_);first|(refine aT (ak.aU (CX _ ah)) rfl rfl ?_)|(refine aT (zV v.fZ (iH (v.fX*v.fX+v.fY*v.fY).toNat) ah ah) rfl rfl ?_))|refine sP ?_|refine sD ?_|(refine au [] rfl rfl rfl ⟨?_,rfl⟩;conv=>lhs;whnf)))
   all_goals rfl
set_option maxHeartbeats 4000000 in
theorem aac(v:bI)(hv:fE 60000 v):ak Tryz.prog 326 G0 0 [] [.agg (eu v)] (fun d os=>d= .aN [.int .i64 (kT v), .int .i64 (iR v)]∧os=[]):=by
 obtain⟨hs1,hs2⟩:=Wv hv
 have hrs:=VI hs2
 have hab:=yI v.fY v.fX
 have hlb:=yI v.fZ (iH (v.fX*v.fX+v.fY*v.fY).toNat)
 obtain⟨b1,b2,b3⟩:=hv
 have m1:=bH b1 b1 ah
 have m2:=bH b2 b2 ah
 by_cases hz:v.fX=0∧v.fY=0
 ·have hlo:kT v=0:=by unfold kT;rw[if_pos hz]
  by_cases hbig:90000<ji v
  ·have hla:iR v=ji v-360000:=by unfold iR;rw[if_pos hbig]
   rw[hlo,hla]
   unfold ji at hbig⊢
   refine aF Tryz.func326 rfl aB rfl (fun w0 F0 lent β0=> ?_)
   repeat'(first|refine sC ?_|((with_reducible refine aj ?_);first|(refine sS ?_;intro Q' hn he hr)|refine sA ?_)|(refine sH ?_;clear hn he hr Q')|refine sO ?_|((conv=>whnf);first|refine sK ?_|(refine sB ?_;repeat'(first|refine sb0 ?_|(refine aA ?_ ?_<;>intro hb<;>try exact cls)))|(refine bn.to ((v.fX*v.fX+v.fY*v.fY).toNat:Int) hs1 (wrap64 ah) ?_)|((with_reducible refine aZ ?_);first|(refine aT (C9 _ ah) rfl rfl ?_)|(refine aT (yL v.fZ (iH (v.fX*v.fX+v.fY*v.fY).toNat) ah ah) rfl rfl ?_))|refine sP ?_|refine sD ?_|(refine au [] rfl rfl rfl ⟨?_,rfl⟩;conv=>lhs;whnf)))
   all_goals rfl
  ·have hla:iR v=ji v:=by unfold iR;rw[if_neg hbig]
   rw[hlo,hla]
   unfold ji at hbig⊢
   refine aF Tryz.func326 rfl aB rfl (fun w0 F0 lent β0=> ?_)
   repeat'(first|refine sC ?_|((with_reducible refine aj ?_);first|(refine sS ?_;intro Q' hn he hr)|refine sA ?_)|(refine sH ?_;clear hn he hr Q')|refine sO ?_|((conv=>whnf);first|refine sK ?_|(refine sB ?_;repeat'(first|refine sb0 ?_|(refine aA ?_ ?_<;>intro hb<;>try exact cls)))|(refine bn.to ((v.fX*v.fX+v.fY*v.fY).toNat:Int) hs1 (wrap64 ah) ?_)|((with_reducible refine aZ ?_);first|(refine aT (C9 _ ah) rfl rfl ?_)|(refine aT (yL v.fZ (iH (v.fX*v.fX+v.fY*v.fY).toNat) ah ah) rfl rfl ?_))|refine sP ?_|refine sD ?_|(refine au [] rfl rfl rfl ⟨?_,rfl⟩;conv=>lhs;whnf)))
   all_goals rfl
 ·have hlo:kT v=lN v.fY v.fX:=by unfold kT;rw[if_neg hz]
  by_cases hbig:90000<ji v
  ·have hla:iR v=ji v-360000:=by unfold iR;rw[if_pos hbig]
   rw[hlo,hla]
   unfold ji at hbig⊢
   refine aF Tryz.func326 rfl aB rfl (fun w0 F0 lent β0=> ?_)
   repeat'(first|refine sC ?_|((with_reducible refine aj ?_);first|(refine sS ?_;intro Q' hn he hr)|refine sA ?_)|(refine sH ?_;clear hn he hr Q')|refine sO ?_|((conv=>whnf);first|refine sK ?_|(refine sB ?_;repeat'(first|refine sb0 ?_|(refine aA ?_ ?_<;>intro hb<;>try exact cls)))|(refine bn.to ((v.fX*v.fX+v.fY*v.fY).toNat:Int) hs1 (wrap64 ah) ?_)|((with_reducible refine aH ?_);(refine aG (yL v.fY v.fX ah ah) rfl rfl ?_))|((with_reducible refine aZ ?_);first|(refine aT (C9 _ ah) rfl rfl ?_)|(refine aT (yL v.fZ (iH (v.fX*v.fX+v.fY*v.fY).toNat) ah ah) rfl rfl ?_))|refine sP ?_|refine sD ?_|(refine au [] rfl rfl rfl ⟨?_,rfl⟩;conv=>lhs;whnf)))
   all_goals rfl
  ·have hla:iR v=ji v:=by unfold iR;rw[if_neg hbig]
   rw[hlo,hla]
   unfold ji at hbig⊢
   refine aF Tryz.func326 rfl aB rfl (fun w0 F0 lent β0=> ?_)
   repeat'(first|refine sC ?_|((with_reducible refine aj ?_);first|(refine sS ?_;intro Q' hn he hr)|refine sA ?_)|(refine sH ?_;clear hn he hr Q')|refine sO ?_|((conv=>whnf);first|refine sK ?_|(refine sB ?_;repeat'(first|refine sb0 ?_|(refine aA ?_ ?_<;>intro hb<;>try exact cls)))|(refine bn.to ((v.fX*v.fX+v.fY*v.fY).toNat:Int) hs1 (wrap64 ah) ?_)|((with_reducible refine aH ?_);(refine aG (yL v.fY v.fX ah ah) rfl rfl ?_))|((with_reducible refine aZ ?_);first|(refine aT (C9 _ ah) rfl rfl ?_)|(refine aT (yL v.fZ (iH (v.fX*v.fX+v.fY*v.fY).toNat) ah ah) rfl rfl ?_))|refine sP ?_|refine sD ?_|(refine au [] rfl rfl rfl ⟨?_,rfl⟩;conv=>lhs;whnf)))
   all_goals rfl
theorem Lc(v:bI):0≤kT v∧kT v≤360000:=by
 unfold kT
 split
 ·omega
 ·exact yI _ _
theorem TI(v:bI): -360000≤iR v∧iR v≤360000:=by
 have h:=yI v.fZ (iH (v.fX*v.fX+v.fY*v.fY).toNat)
 unfold iR ji
 split<;>omega
set_option maxHeartbeats 4000000 in
theorem aaj(d:dn)(r:List D)(v:bI)(a h:Int)(hd:jD d=true)(hv:fE 30000 v)(ha:0≤a∧a≤360000)(hh:0≤h∧h≤90000):ak Tryz.prog 292 G0 0 [] [.rp (jE d++r), .agg (eu v), .int .i64 a, .int .i64 h] (fun e os=>e= .aN [.int .i64 ((90000-kT (jC d v a h)) % 360000), .int .i64 (iR (jC d v a h)), .int .i64 (lenV (jC d v a h))]∧os=[]):=by
 have hvb:=W9 hd hv a h
 have hlb:=Lc (jC d v a h)
 obtain⟨b1,b2,b3⟩:=MI hd a h
 obtain⟨c1,c2,c3⟩:=hv
 have ca:=aac (jC d v a h) hvb
 have cl:=E5 (jC d v a h) (ag8 hvb ah)
 refine aF Tryz.func292 rfl aB rfl (fun w0 F0 lent β0=> ?_)
 repeat'(first|refine sC ?_|((with_reducible refine aj ?_);first|(refine sS ?_;intro Q' hn he hr)|refine sA ?_)|(refine sH ?_;clear hn he hr Q')|refine sO ?_|((conv=>whnf);first|refine sK ?_|((with_reducible refine aH ?_);first|(refine aG (aai d r a h hd ha hh) rfl rfl ?_)|(refine aG (ca) rfl rfl ?_))|((with_reducible refine aZ ?_);first|(refine aT (cl) rfl rfl ?_)|(refine aT (zY (90000-kT (jC d v a h)) eY) rfl rfl ?_))|refine sP ?_|refine sD ?_|(refine au [] rfl rfl rfl ⟨?_,rfl⟩;conv=>lhs;whnf)))
 all_goals rfl
theorem aah(a h x y:Int)(h1:bU a)(h2:bU h)(h3:bU x)(h4:bU y):ak Tryz.prog 293 G0 0 [] [.int .i64 a, .int .i64 h, .int .i64 x, .int .i64 y] (fun d os=>d= .int .i64 (jO (fO a h) (fO x y))∧os=[]):=by
 refine aF Tryz.func293 rfl aB rfl (fun w0 F0 lent β0=> ?_)
 repeat'(first|refine sC ?_|((with_reducible refine aj ?_);first|(refine sS ?_;intro Q' hn he hr)|refine sA ?_)|(refine sH ?_;clear hn he hr Q')|((conv=>whnf);first|refine sK ?_|((with_reducible refine aH ?_);first|(refine aG (Dh a h h1 h2) rfl rfl ?_)|(refine aG (Dh x y h3 h4) rfl rfl ?_)|(refine aG (PE (fO a h) (fO x y) (sN _ _) (sN _ _)) rfl rfl ?_))|(refine au [] rfl rfl rfl ⟨?_,rfl⟩;conv=>lhs;whnf)))
 all_goals rfl
end Go.Eng
