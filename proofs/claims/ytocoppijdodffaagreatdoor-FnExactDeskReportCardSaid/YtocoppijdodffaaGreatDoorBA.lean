/-
  Contracts of functions of the program and of the reference, and plain laws: a bundle of texts.
  No conditions.
-/
import Derived.Test.YtocoppijdodffaaGreatDoorV1
import Derived.Test.YtocoppijdodffaaGreatDoorP1
set_option linter.unusedVariables false
set_option linter.unusedSimpArgs false
set_option maxHeartbeats 4000000
namespace Go.Eng
open Go Go.RowKit Go.Proofs
set_option maxRecDepth 100000
def tX:List Int→Int
 |[]=>0
 |x::r=>if x=0 then tX r else x
theorem L6: ∀ {a:List Int} {k:Nat},uF (fun x=>decide (x=0)) a k→tX a=tX (a.drop k)
 |[],k,_=>by simp
 |x::r,0,_=>rfl
 |x::r,k+1,h=>by
  have h0:=h 0 x (Nat.zero_lt_succ _) rfl
  simp only[decide_eq_true_eq] at h0
  subst h0
  show(if(0:Int)=0 then tX r else 0)=tX (r.drop k)
  rw[if_pos rfl]
  exact L6 fun j y hj hy=>h (j+1) y ah hy
theorem Yh(a:List Int):ak Tryz.prog 262 G0 0 [] [.sl 1 (a.map encI)] (fun d os=>d= .int .i64 (tX a)∧os=[]):=by
 refine aF Tryz.func262 rfl aB rfl (fun w0 F0 lent β0=> ?_)
 repeat'(first|refine sC ?_|((with_reducible refine aj ?_);first|(refine sS ?_;intro Q' hn he hr)|refine sA ?_)|(refine sH ?_;clear hn he hr Q')|((conv=>whnf);first|refine sK ?_|(refine sL ?_;intro hlen)))
 refine aQ (fun k:Nat=>[(3,.int .i64 0),(6,.sl 1 (a.map encI)),(7,.int .i64 a.length),(8,.int .i64 k)]) (fun _=>[]) (fun k=>k≤a.length∧uF (fun x=>decide (x=0)) a k) (fun k=>a.length-k) 0 ⟨by omega,Cj⟩ aI (fun k hk Q' hn he hr=> ?_)
 repeat'(first|refine sC ?_|((with_reducible refine aj ?_);first|(refine sS ?_;intro Q' hn he hr)|refine sA ?_)|(refine sH ?_;clear hn he hr Q')|((conv=>whnf);first|refine sK ?_|(refine sB ?_;repeat'(refine aA ?_ ?_<;>intro hb<;>try exact cls))|refine sP ?_|(refine sE ?_;intro x hx)|(refine au [] rfl rfl rfl ⟨?_,rfl⟩;conv=>lhs;whnf)|(refine sH ?_;clear hn he hr Q')))
 ·rw[L6 hk.2,List.drop_eq_getElem_cons ah]
  have h9:a[k]' ah=x:=by have:=List.getElem?_eq_some_iff.1 hx;exact this.2
  rw[h9,tX,if_neg hb]
 ·exact⟨k+1,⟨by omega,Ci hk.2 hx (by simpa using hb)⟩,by omega,aI⟩
 ·rw[L6 hk.2,List.drop_eq_nil_of_le ah]
  rfl
end Go.Eng
namespace Go.Eng
open Go Go.RowKit Go.Proofs
set_option maxRecDepth 100000
end Go.Eng
namespace Go.Eng
open Go Go.RowKit Go.Proofs
set_option maxRecDepth 100000
end Go.Eng
namespace Go.Eng
open Go Go.RowKit Go.Proofs
set_option maxRecDepth 100000
end Go.Eng
namespace Go.Eng
open Go Go.RowKit
section
variable {α:Type} {lt:α→α→Bool} {bV:α→α→Bool}
theorem SQ{a:List α}{t x:α}{k:Nat}(hx:a[k]? =some x):decide (dN lt a t<k+1)=(decide (dN lt a t<k)|| !lt x t):=by
 rcases Nat.lt_trichotomy k (dN lt a t) with h|h|h
 ·rw[KO h hx,decide_eq_false ah,decide_eq_false ah];rfl
 ·have h1:=hx
  rw[h] at h1
  rw[KN h1,decide_eq_true ah,decide_eq_false ah];rfl
 ·rw[decide_eq_true (show dN lt a t<k+1 by omega),decide_eq_true h]
  rfl
theorem aek(ht: ∀ {x y z:α},lt x y=true→lt y z=true→lt x z=true){a:List α}{t:α}(htot: ∀x,lt x t=false→bV t x=false→lt t x=true)(hcon: ∀x y,bV t x=true→lt x y=true→lt t y=true)
 (h1: ∀x,lt x t=true→bV t x=false)(h2: ∀x,lt t x=true→bV t x=false)(h:chain lt a=true){k:Nat}{x:α}(hx:a[k]? =some x):
 kS lt bV a t (k+1)=kS lt bV a t k++((if dN lt a t<k∨lt x t=true then [] else [t])++(if bV t x=true then [] else [x])):=by
 rcases Nat.lt_trichotomy k (dN lt a t) with hk|hk|hk
 ·have hl:=KO hk hx
  rw[aej hk hx,if_pos (.inr hl),if_neg (by rw[h1 x hl];simp)]
  rfl
 ·subst hk
  have hl:=KN hx
  rw[aef hx]
  simp[hl]
 ·have hn:=DN (lt:=lt) (bV:=bV) a t
  have hl:=Tc (lt:=lt) (bV:=bV) ht htot hcon h (show mQ lt bV a t≤k by omega) hx
  rw[aeg hk hx,if_pos (.inl hk),if_neg (by rw[h2 x hl];simp)]
  rfl
theorem aei(a:List α)(t:α)(k:Nat):(kS lt bV a t k).length≤k+1:=by
 unfold kS
 split
 ·rw[List.length_take];omega
 ·rw[List.length_append,List.length_cons,List.length_take,List.length_drop,List.length_take]
  have hn:=DN (lt:=lt) (bV:=bV) a t
  omega
end
end Go.Eng
namespace Go.Eng
open Go Go.RowKit Go.Proofs
set_option maxRecDepth 100000
end Go.Eng
namespace Go.Eng
open Go Go.RowKit Go.Proofs
set_option maxRecDepth 100000
end Go.Eng
namespace Go.Eng
open Go Go.RowKit Go.Proofs
set_option maxRecDepth 100000
end Go.Eng
namespace Go.Eng
open Go Go.RowKit Go.Proofs
set_option maxRecDepth 100000
end Go.Eng
