/-
  Numbers in decimal: what the program's and the reference's functions hand back.
  No conditions.
-/
import Derived.Test.YtocoppijdodffaaGreatDoorED
import Derived.Test.YtocoppijdodffaaGreatDoorShelf
import Derived.Lib.ItoaLen
set_option linter.unusedVariables false
set_option linter.unusedSimpArgs false
set_option maxHeartbeats 4000000
namespace Go.Eng
open Go Go.RowKit Go.Proofs
set_option maxRecDepth 100000
def GP:Nat→Option (List D):=G1 1 (Lib.pow10Tab.map fun z=> .int .u64 z)
theorem ZA(n:Int)(h: -9223372036854775808≤n∧n≤9223372036854775807):ak Tryz.prog 170 GP 0 [] [.int .i64 n, .int .i64 10] (fun d os=>d= .str (Lib.itoa n)∧os=[]):=by
 refine ak.LH (callFunc_enter Tryz.func170 rfl aB) fun w F vs hF hl hr hG=> ?_
 have h0:vs.getD 0 undef= .int .i64 n:=(Rep.ro (β:=fun _=>none) _ _ (hr 0 (Nat.lt_of_sub_eq_succ rfl))).eU
 have h1:vs.getD 1 undef= .int .i64 10:=(Rep.ro (β:=fun _=>none) _ _ (hr 1 (Nat.lt_of_sub_eq_succ rfl))).eU
 have e:vs.toArray= #[.int .i64 n, .int .i64 10]:=by rw[La hl,h0,h1]
 rw[e]
 refine(Tryz.internal_strconv_FormatInt_10 n h.1 h.2 w (agT (g:=1) dA (hG _ _ rfl))).mono ?_
 rintro e w' ⟨rfl,k,os,rfl⟩
 exact⟨_,rfl,adz _ _ _, .str _ (by have:=Lib.itoa_length_le n h.1 h.2;simp only[maxLen];omega)⟩
theorem aa0(n:Int)(h: -9223372036854775808≤n∧n≤9223372036854775807):ak Tryz.prog 86 GP 0 [] [.int .i64 n, .int .i64 10] (fun d os=>d= .str (Lib.itoa n)∧os=[]):=by
 refine aF Tryz.func86 rfl aB rfl (fun w0 F0 lent β0=> ?_)
 repeat'(first|refine sC ?_|((with_reducible refine aj ?_);first|(refine sS ?_;intro Q' hn he hr)|refine sA ?_)|(refine sH ?_;clear hn he hr Q')|((conv=>whnf);first|refine sK ?_|((with_reducible refine aH ?_);(refine aG (ZA n h) rfl rfl ?_))|(refine au [] rfl rfl rfl ⟨?_,rfl⟩;conv=>lhs;whnf)))
theorem CW(n:Int)(h: -9223372036854775808≤n∧n≤9223372036854775807):ak Tryz.prog 30 GP 0 [] [.int .i64 n] (fun d os=>d= .str (Lib.itoa n)∧os=[]):=by
 refine aF Tryz.func30 rfl aB rfl (fun w0 F0 lent β0=> ?_)
 repeat'(first|refine sC ?_|((with_reducible refine aj ?_);first|(refine sS ?_;intro Q' hn he hr)|refine sA ?_)|(refine sH ?_;clear hn he hr Q')|((conv=>whnf);first|refine sK ?_|((with_reducible refine aH ?_);(refine aG (aa0 n h) rfl rfl ?_))|(refine au [] rfl rfl rfl ⟨?_,rfl⟩;conv=>lhs;whnf)))
theorem Ju: ∀(f n:Nat) (l:List UInt8),0<n→n<10^f→jr f n l=Lib.decDigits n++l
 |0,n,l,h,h2=>by simp at h2;omega
 |f+1,n,l,h,h2=>by
  rw[jr,if_neg ah,Lib.decDigits]
  by_cases h9:n<10
  ·rw[dif_pos h9]
   have e1:n/10=0:=by omega
   have e2:n % 10=n:=by omega
   rw[e1,e2]
   cases f<;>simp[jr]
  ·rw[dif_neg h9,Ju f (n/10) _ ah (by rw[Nat.pow_succ] at h2;omega)]
   simp
theorem IC{z:Int}{k:Nat}(h:z=(k:Int))(hk:k<256): [D.int .u8 z]=iW (UInt8.ofNat k):=by
 subst h
 show [D.int .u8 (k:Int)]=[D.int .u8 ((UInt8.ofNat k).toNat:Int)]
 rw[UInt8.toNat_ofNat_of_lt' hk]
theorem aev{k:Nat}(h:0<k)(hk:k<10^20):Lib.itoa (k:Int)=jr 20 k []:=by
 rw[Ju 20 k [] h hk,Lib.itoa,if_neg ah]
 simp
theorem aeu{k:Nat}(h:0<k)(hk:k<10^20):Lib.itoa (-(k:Int))=45::jr 20 k []:=by
 rw[Ju 20 k [] h hk,Lib.itoa,if_pos ah]
 simp
theorem QL{l:List UInt8}{j:Nat}{c:UInt8}(hj:l[j]? =some c):(l.drop j).reverse=(l.drop (j+1)).reverse++[c]:=by
 have hlt:=(List.getElem?_eq_some_iff.1 hj).1
 rw[List.drop_eq_getElem_cons hlt,(List.getElem?_eq_some_iff.1 hj).2]
 simp
theorem Z7(k:Nat)(h0:0<k)(h:k≤9223372036854775807):ak Tryz.prog 21 G0 0 [] [.int .i64 k] (fun d os=>d= .str (Lib.itoa k)∧os=[]):=by
 refine aF Tryz.func21 rfl aB rfl (fun w0 F0 lent β0=> ?_)
 repeat'(first|refine sC ?_|((with_reducible refine aj ?_);first|(refine sS ?_;intro Q' hn he hr)|refine sA ?_)|(refine sH ?_;clear hn he hr Q')|((conv=>whnf);first|refine sK ?_|(refine sB ?_;repeat'(refine aA ?_ ?_<;>intro hb<;>try exact cls))))
 refine qY (fun(f m:Nat) (l:List UInt8)=>[(0,.int .i64 k),(3,.h 0),(4,.int .i64 m)]) (fun f m l=>[.row 5 1 (l.map iW)]) (fun f m l=>jr f m l.reverse=jr 20 k []∧m<10^f∧l.length+f≤20∧m≤k) (fun f m l=>f) 20 k [] ⟨rfl,by omega,by simp,Nat.le_refl _⟩ (by refine aC rfl rfl rfl ?_;exact⟨rfl,rfl,rfl,trivial⟩) (fun f m l hk Q' hn he hr=> ?_)
 have e1:(m:Int).tmod 10=((m % 10:Nat):Int):=(Int.ofNat_tmod m 10).symm
 have e2:(m:Int).tdiv 10=((m/10:Nat):Int):=(Int.ofNat_tdiv m 10).symm
 repeat'(first|refine sC ?_|((with_reducible refine aj ?_);first|(refine sS ?_;intro Q' hn he hr)|refine sA ?_)|(refine sH ?_;clear hn he hr Q')|((conv=>whnf);first|refine sK ?_|(refine sB ?_;repeat'(refine aA ?_ ?_<;>intro hb<;>try exact cls))|(refine bZ.mk ⟨(by decide:(10:Int)≠0),?_⟩)|(refine bn.to ((48+m % 10:Nat):Int) ah (Hg ah) ?_)|refine sP ?_|(refine sL ?_;intro hlen)|(refine sH ?_;clear hn he hr Q')))
 ·have hf:f≠0:=fun e=>by
   subst e
   have:=hk.2.1
   simp at this
   omega
  obtain⟨f',rfl⟩:=Nat.exists_eq_succ_of_ne_zero hf
  refine⟨f',m/10,l++[UInt8.ofNat (48+m % 10)],⟨?_,?_,by simp;omega,by omega⟩,Nat.lt_succ_self _,?_⟩
  ·rw[←hk.1,jr,if_neg ah]
   simp
  ·have:=hk.2.1
   rw[Nat.pow_succ] at this
   omega
  ·refine aC rfl rfl ?_ ⟨rfl,rfl,?_,trivial⟩
   ·rw[List.map_append,List.map_cons,←IC rfl ah]
    rfl
   ·(conv=>rhs;whnf);refine congrArg (D.int _) ?_;omega
 ·refine aQ (fun j:Nat=>[(3,.h 0),(6,.h 1),(7,.int .i64 ((j:Int)-1))]) (fun j=>[.row 5 1 (l.map iW),.row 5 1 (((l).drop j).reverse.map iW)]) (fun j=>j≤(l).length) (fun j=>j) (l).length (Nat.le_refl _) (by refine aC rfl rfl (by rw[List.drop_of_length_le (Nat.le_refl _)];rfl) ?_;exact⟨rfl,rfl,rfl,trivial⟩) (fun j hj Q' hn he hr=> ?_)
  have hlen3:((l).drop j).length≤21:=by simp;omega
  repeat'(first|refine sC ?_|((with_reducible refine aj ?_);first|(refine sS ?_;intro Q' hn he hr)|refine sA ?_)|(refine sH ?_;clear hn he hr Q')|((conv=>whnf);first|refine sK ?_|(refine sB ?_;repeat'(refine aA ?_ ?_<;>intro hb<;>try exact cls))|(refine aW.at nX fun i hi=> ?_)|(refine bZ.app rfl (by simp only[List.length_map,List.length_append,List.length_cons,List.length_nil,List.length_reverse];omega) ?_)|(refine lq.mk ⟨_,rfl,?_⟩)|refine sP ?_|(refine sE ?_;intro x hx)|(refine au [] rfl rfl rfl ⟨?_,rfl⟩;conv=>lhs;whnf)|(refine sH ?_;clear hn he hr Q')))
  ·obtain rfl:j=i+1:=by omega
   exact⟨i,by omega,by omega,(by refine aC rfl rfl (by rw[QL hx,List.map_append (l₁:=(List.drop (i+1) l).reverse)];rfl) ⟨rfl,rfl,?_,trivial⟩;(conv=>rhs;whnf);refine congrArg (D.int _) ?_;omega)⟩
  ·obtain rfl:j=0:=by omega
   have hm:m=0:=by omega
   subst hm
   have h5:jr f 0 l.reverse=l.reverse:=by cases f<;>simp[jr]
   rw[h5] at hk
   rw[aev h0 ah,←hk.1]
   rfl
theorem Z5(k:Nat)(h0:0<k)(h:k≤9223372036854775808):ak Tryz.prog 21 G0 0 [] [.int .i64 (-(k:Int))] (fun d os=>d= .str (Lib.itoa (-(k:Int)))∧os=[]):=by
 refine aF Tryz.func21 rfl aB rfl (fun w0 F0 lent β0=> ?_)
 repeat'(first|refine sC ?_|((with_reducible refine aj ?_);first|(refine sS ?_;intro Q' hn he hr)|refine sA ?_)|(refine sH ?_;clear hn he hr Q')|((conv=>whnf);first|refine sK ?_|(refine sB ?_;repeat'(refine aA ?_ ?_<;>intro hb<;>try exact cls))))
 refine qY (fun(f m:Nat) (l:List UInt8)=>[(0,.int .i64 (-(k:Int))),(3,.h 0),(4,.int .i64 (-(m:Int)))]) (fun f m l=>[.row 5 1 (l.map iW)]) (fun f m l=>jr f m l.reverse=jr 20 k []∧m<10^f∧l.length+f≤20∧m≤k) (fun f m l=>f) 20 k [] ⟨rfl,by omega,by simp,Nat.le_refl _⟩ (by refine aC rfl rfl rfl ?_;exact⟨rfl,rfl,rfl,trivial⟩) (fun f m l hk Q' hn he hr=> ?_)
 have e1:(-(m:Int)).tmod 10= -((m % 10:Nat):Int):=by rw[Int.neg_tmod,Int.ofNat_tmod];rfl
 have e2:(-(m:Int)).tdiv 10= -((m/10:Nat):Int):=by rw[Int.neg_tdiv,Int.ofNat_tdiv];rfl
 repeat'(first|refine sC ?_|((with_reducible refine aj ?_);first|(refine sS ?_;intro Q' hn he hr)|refine sA ?_)|(refine sH ?_;clear hn he hr Q')|((conv=>whnf);first|refine sK ?_|(refine sB ?_;repeat'(refine aA ?_ ?_<;>intro hb<;>try exact cls))|(refine bZ.mk ⟨(by decide:(10:Int)≠0),?_⟩)|(refine bn.to ((48+m % 10:Nat):Int) ah (Hg ah) ?_)|refine sP ?_|(refine sL ?_;intro hlen)|(refine sH ?_;clear hn he hr Q')))
 ·have hf:f≠0:=fun e=>by
   subst e
   have:=hk.2.1
   simp at this
   omega
  obtain⟨f',rfl⟩:=Nat.exists_eq_succ_of_ne_zero hf
  refine⟨f',m/10,l++[UInt8.ofNat (48+m % 10)],⟨?_,?_,by simp;omega,by omega⟩,Nat.lt_succ_self _,?_⟩
  ·rw[←hk.1,jr,if_neg ah]
   simp
  ·have:=hk.2.1
   rw[Nat.pow_succ] at this
   omega
  ·refine aC rfl rfl ?_ ⟨rfl,rfl,?_,trivial⟩
   ·rw[List.map_append,List.map_cons,←IC rfl ah]
    rfl
   ·(conv=>rhs;whnf);refine congrArg (D.int _) ?_;omega
 ·have hf:f≠0:=fun e=>by
   subst e
   have:=hk.2.1
   simp at this
   omega
  obtain⟨f',rfl⟩:=Nat.exists_eq_succ_of_ne_zero hf
  refine⟨f',m/10,l++[UInt8.ofNat (48+m % 10)],⟨?_,?_,by simp;omega,by omega⟩,Nat.lt_succ_self _,?_⟩
  ·rw[←hk.1,jr,if_neg ah]
   simp
  ·have:=hk.2.1
   rw[Nat.pow_succ] at this
   omega
  ·refine aC rfl rfl ?_ ⟨rfl,rfl,?_,trivial⟩
   ·rw[List.map_append,List.map_cons,←IC rfl ah]
    rfl
   ·(conv=>rhs;whnf);refine congrArg (D.int _) ?_;omega
 ·refine aQ (fun j:Nat=>[(3,.h 0),(6,.h 1),(7,.int .i64 ((j:Int)-1))]) (fun j=>[.row 5 1 ((l++[45]).map iW),.row 5 1 ((((l++[45])).drop j).reverse.map iW)]) (fun j=>j≤((l++[45])).length) (fun j=>j) ((l++[45])).length (Nat.le_refl _) (by refine zH [0,2] rfl ?_ ?_;(rw[List.drop_of_length_le (Nat.le_refl _),List.map_append];exact⟨⟨rfl,rfl,rfl⟩,⟨rfl,rfl,rfl⟩,trivial⟩);exact⟨rfl,rfl,(by(conv=>rhs;whnf);refine congrArg (D.int _) ?_;simp),trivial⟩) (fun j hj Q' hn he hr=> ?_)
  have hj2:j≤l.length+1:=by simpa using hj
  have hlen3:(((l++[45])).drop j).length≤21:=by simp;omega
  repeat'(first|refine sC ?_|((with_reducible refine aj ?_);first|(refine sS ?_;intro Q' hn he hr)|refine sA ?_)|(refine sH ?_;clear hn he hr Q')|((conv=>whnf);first|refine sK ?_|(refine sB ?_;repeat'(refine aA ?_ ?_<;>intro hb<;>try exact cls))|(refine aW.at nX fun i hi=> ?_)|(refine aJ.nat (by simp only[List.length_append,List.length_cons,List.length_nil];omega) fun x hx=> ?_)|(refine bZ.app rfl (by simp only[List.length_map,List.length_append,List.length_cons,List.length_nil,List.length_reverse];omega) ?_)|(refine lq.mk ⟨_,rfl,?_⟩)|refine sP ?_|(refine au [] rfl rfl rfl ⟨?_,rfl⟩;conv=>lhs;whnf)|(refine sH ?_;clear hn he hr Q')))
  ·obtain rfl:j=i+1:=by omega
   exact⟨i,by omega,by omega,(by refine aC rfl rfl (by rw[QL hx,List.map_append (l₁:=(List.drop (i+1) (l++[45])).reverse)];rfl) ⟨rfl,rfl,?_,trivial⟩;(conv=>rhs;whnf);refine congrArg (D.int _) ?_;omega)⟩
  ·obtain rfl:j=0:=by omega
   have hm:m=0:=by omega
   subst hm
   have h5:jr f 0 l.reverse=l.reverse:=by cases f<;>simp[jr]
   rw[h5] at hk
   rw[aeu h0 ah,←hk.1]
   simp
theorem CZ(n:Int)(h: -9223372036854775808≤n∧n≤9223372036854775807):ak Tryz.prog 21 G0 0 [] [.int .i64 n] (fun d os=>d= .str (Lib.itoa n)∧os=[]):=by
 rcases Int.lt_trichotomy n 0 with h1|h1|h1
 ·obtain⟨k,rfl⟩: ∃k:Nat,n= -(k:Int):=⟨n.natAbs,by omega⟩
  exact Z5 k ah ah
 ·subst h1
  refine aF Tryz.func21 rfl aB rfl (fun w0 F0 lent β0=> ?_)
  repeat'(first|refine sC ?_|((with_reducible refine aj ?_);first|(refine sS ?_;intro Q' hn he hr)|refine sA ?_)|(refine sH ?_;clear hn he hr Q')|((conv=>whnf);first|refine sK ?_|(refine sB ?_;repeat'(refine aA ?_ ?_<;>intro hb<;>try exact cls))|(refine au [] rfl rfl rfl ⟨?_,rfl⟩;conv=>lhs;whnf)))
  rw[Lib.itoa,if_neg iU,Lib.decDigits]
  rfl
 ·obtain⟨k,rfl⟩: ∃k:Nat,n=(k:Int):=⟨n.toNat,by omega⟩
  exact Z7 k ah ah
end Go.Eng
