/-
  Plain laws: the reference's way through a text, word by word.
  No conditions.
-/
import Derived.Test.YtocoppijdodffaaGreatDoorWF0
set_option linter.unusedVariables false
set_option linter.unusedSimpArgs false
namespace Go.Eng
open Go Go.RowKit
set_option maxRecDepth 100000
theorem FN: ∀(l cur:List UInt8),iC cur (l++[32])=iC cur l
 |[],cur=>by
  have hc: ¬nV 32=true:=by decide
  by_cases h:cur=[]
  ·rw[h,List.nil_append,yT hc]
  ·rw[List.nil_append,yS hc h,Au,Au,if_pos rfl,if_neg h]
 |c::l,cur=>by
  rw[List.cons_append]
  by_cases hc:nV c=true
  ·rw[yU hc,yU hc,FN l]
  ·by_cases h:cur=[]
   ·rw[h,yT hc,yT hc,FN l]
   ·rw[yS hc h,yS hc h,FN l]
structure vk (s:List UInt8) (k:Nat) (out:List (List UInt8)) (word:List UInt8):Prop where
 le:k≤s.length+1
 ch:chain Op.bytesLess out=true
 eq:(iC word ((gG s++[32]).drop k)).foldl jw out=yB s
 len:out.length+word.length≤k
 fin:k=s.length+1→word=[]
theorem ahe(s:List UInt8):vk s 0 [] []:=
 ⟨Nat.zero_le _,rfl,by rw[List.drop_zero,FN];rfl,Nat.le_refl _,fun h=>by omega⟩
theorem Xb{s:List UInt8}{k:Nat}{c:UInt8}(h:s[k]? =some c):(gG s++[32]).drop k=Lib.lowerB c::(gG s++[32]).drop (k+1):=by
 obtain⟨hk1,hk2⟩:=List.getElem?_eq_some_iff.1 h
 have hl:k<(gG s++[32]).length:=by simp[gG];omega
 rw[List.drop_eq_getElem_cons hl]
 congr 1
 rw[List.getElem_append_left (by simp[gG];omega)]
 simp[gG,hk2]
theorem ahd(s:List UInt8):(gG s++[32]).drop s.length=32::(gG s++[32]).drop (s.length+1):=by
 have hl:s.length<(gG s++[32]).length:=by simp[gG]
 rw[List.drop_eq_getElem_cons hl]
 congr 1
 rw[List.getElem_append_right (by simp[gG])]
 simp
theorem G9{s:List UInt8}{k:Nat}{out:List (List UInt8)}{word:List UInt8}(h:vk s k out word){c:UInt8}(hc:s[k]? =some c)(hw:nV (Lib.lowerB c)=true):vk s (k+1) out (word++[Lib.lowerB c]):=by
 have hk:=(List.getElem?_eq_some_iff.1 hc).1
 have h2:=h.eq
 rw[Xb hc,yU hw] at h2
 exact⟨by omega,h.ch,h2,by have:=h.len;simp;omega,fun e=>by omega⟩
theorem aem(a:List (List UInt8))(t:List UInt8):(jw a t).length≤a.length+1:=by
 show(insL Op.bytesLess (fun x y=>x==y) a t).length≤_
 rw[SS]
 split<;>omega
theorem NU{s:List UInt8}{k:Nat}{out:List (List UInt8)}(h:vk s k out []){c:UInt8}(hc:(gG s++[32]).drop k=c::(gG s++[32]).drop (k+1))(hk:k≤s.length)(hw: ¬nV c=true):vk s (k+1) out []:=by
 have h2:=h.eq
 rw[hc,yT hw] at h2
 exact⟨by omega,h.ch,h2,by have:=h.len;simp at this⊢;omega,fun _=>rfl⟩
theorem NT{s:List UInt8}{k:Nat}{out:List (List UInt8)}{word:List UInt8}(h:vk s k out word)(hne:word≠ []){c:UInt8}(hc:(gG s++[32]).drop k=c::(gG s++[32]).drop (k+1))(hk:k≤s.length)(hw: ¬nV c=true):vk s (k+1) (jw out word) []:=by
 have h2:=h.eq
 rw[hc,yS hw hne,List.foldl_cons] at h2
 refine⟨by omega,SV h.ch _,h2,?_,fun _=>rfl⟩
 have h3:=h.len
 have h4:=aem out word
 have h5:0<word.length:=List.length_pos_iff.2 hne
 simp
 omega
theorem ahc{s:List UInt8}{out:List (List UInt8)}{word:List UInt8}(h:vk s (s.length+1) out word):out=yB s:=by
 have h2:=h.eq
 rw[h.fin rfl,List.drop_of_length_le (by simp[gG]),Au,if_pos rfl] at h2
 exact h2
theorem aeN{c:UInt8}(h:65≤c.toNat)(h2:c.toNat≤90):(Lib.lowerB c).toNat=c.toNat+32:=by
 have key: ∀i:Fin 256,65≤i.val→i.val≤90→(Lib.lowerB (UInt8.ofNat i.val)).toNat=i.val+32:=by decide
 have:=key ⟨c.toNat,c.toNat_lt⟩ h h2
 simpa using this
theorem aeL{c:UInt8}(h:c.toNat<65∨90<c.toNat):Lib.lowerB c=c:=by
 have key: ∀i:Fin 256,(i.val<65∨90<i.val)→Lib.lowerB (UInt8.ofNat i.val)=UInt8.ofNat i.val:=by decide
 have:=key ⟨c.toNat,c.toNat_lt⟩ h
 simpa using this
theorem Xd(s:List UInt8):(yB s).length≤s.length:=by
 have h1:=Rf (iC [] (gG s)) []
 have h2:=Ar (gG s) []
 have h3:(gG s).length=s.length:=by simp[gG]
 unfold yB
 rw[List.length_nil] at h1 h2
 omega
end Go.Eng
