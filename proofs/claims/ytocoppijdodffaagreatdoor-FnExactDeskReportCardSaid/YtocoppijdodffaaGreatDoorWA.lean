/-
  The words of a text, by the program: the library's functions that it calls, and what they come to.
  No conditions.
-/
import Derived.Test.YtocoppijdodffaaGreatDoorWS
set_option linter.unusedVariables false
set_option linter.unusedSimpArgs false
set_option maxHeartbeats 4000000
namespace Go.Eng
open Go Go.RowKit Go.Proofs
set_option maxRecDepth 100000
theorem aeK(l:List UInt8):Lib.toLowerA l=gG l:=rfl
theorem TT(l:List UInt8):(gG l).length=l.length:=by simp[gG]
theorem aeM{c:UInt8}(h:c.toNat<128):(Lib.lowerB c).toNat<128:=by
 have: ∀i:Fin 128,(Lib.lowerB (UInt8.ofNat i.val)).toNat<128:=by decide
 have h2:=this ⟨c.toNat,h⟩
 simpa using h2
theorem aeJ{l:List UInt8}(h: ∀c∈l,c.toNat<128): ∀c∈gG l,c.toNat<128:=by
 intro c hc
 obtain⟨b,hb,rfl⟩:=List.mem_map.1 hc
 exact aeM (h b hb)
theorem aa3(l:List UInt8)(hl:l.length≤1048576)(ha: ∀c∈l,c.toNat<128):ak Tryz.prog 270 G0 0 [] [.str l] (fun d os=>d= .str (gG l)∧os=[]):=by
 refine ak.LH (callFunc_enter Tryz.func270 rfl aB) fun w F vs hF hln hro hG=> ?_
 have h0:vs.getD 0 undef= .string ⟨l.toArray⟩:=(Rep.ro (β:=fun _=>none) _ _ (hro 0 (Nat.lt_of_sub_eq_succ rfl))).nC
 have hvs:vs=[vs.getD 0 undef]:=by
  match vs,hln with
  |[v],_=>rfl
 rw[hvs,h0]
 refine(Tryz.strings_ToLower_ascii ⟨l.toArray⟩ w (by simp[ByteArray.size];omega) (fun j b hb=>ha b (List.mem_of_getElem? (by simpa using hb)))).mono ?_
 rintro e w' ⟨rfl,hb⟩
 refine⟨_,rfl,Ot hb,?_⟩
 have:RO (fun b=>F b∨w.heap.size≤b∧b<w'.heap.size) w' (.string ⟨(gG l).toArray⟩) (.str (gG l)):= .str _ (by rw[TT];exact Nat.le_trans hl iU)
 simpa[aeK] using this
theorem YJ(x:Nat):ak Tryz.prog 271 G0 0 [] [.int .i32 x] (fun d os=>d= .bool (yV x)∧os=[]):=by
 refine aF Tryz.func271 rfl aB rfl (fun w0 F0 lent β0=> ?_)
 repeat'(first|refine sC ?_|((with_reducible refine aj ?_);first|(refine sS ?_;intro Q' hn he hr)|refine sA ?_)|(refine sH ?_;clear hn he hr Q')|((conv=>whnf);first|refine sK ?_|(refine sB ?_;repeat'(first|refine sb0 ?_|(refine aA ?_ ?_<;>intro hb<;>try exact cls)))|(refine au [] rfl rfl rfl ⟨?_,rfl⟩;conv=>lhs;whnf)))
 all_goals
  refine congrArg D.bool ?_
  unfold yV
  rw[Bool.eq_iff_iff]
  simp only[cond_true,cond_false,Bool.not_eq_true',Bool.not_true,Bool.not_false,Bool.or_eq_false_iff,Bool.and_eq_false_iff,decide_eq_false_iff_not,reduceCtorEq,true_iff,false_iff,Bool.false_eq_true]
  omega
theorem Uk: ∀ {l:List Nat} {x:Nat},x∈l→x≤l.sum
 |y::l,x,h=>by
  rw[List.sum_cons]
  rcases List.mem_cons.1 h with h|h
  ·omega
  ·have:=Uk h;omega
theorem aa1(l:List UInt8)(hl:l.length≤1048576)(ha: ∀c∈l,c.toNat<128):ak Tryz.prog 269 G0 0 [] [.str l, .clo (.func 271) []] (fun d os=>d= .h 0∧os=[.row 9 1 ((iC [] l).map encS)]):=by
 refine ak.UF (callFunc_enter Tryz.func269 rfl aB) fun w F vs hF hln hro hG=> ?_
 have h0:vs.getD 0 undef= .string ⟨l.toArray⟩:=(Rep.ro (β:=fun _=>none) _ _ (hro 0 (Nat.lt_of_sub_eq_succ rfl))).nC
 have h1:vs.getD 1 undef= .func (.func 271) #[] #[]:=by
  have h2:RO F w (vs.getD 1 undef) (.clo (.func 271) []):=hro 1 (Nat.lt_of_sub_eq_succ rfl)
  generalize vs.getD 1 undef=x at h2
  cases h2 with
  |clo f cs ds hlc h=>
   have:cs=[]:=List.length_eq_zero_iff.1 hlc
   rw[this]
 have hvs:vs=[vs.getD 0 undef,vs.getD 1 undef]:=by
  match vs,hln with
  |[v,u],_=>rfl
 rw[hvs,h0,h1]
 have hp:PredGrows Tryz.prog 271 #[] yV w:=fun W x hx hb=>by
  have h3:=(YJ x).truth (w:=W) (vs:=[.int .i32 x]) rfl (fun i hi=>by
   have:i=0:=by have h4:i<1:=hi;omega
   subst this
   exact .int _ _)
  simpa using h3
 refine(Tryz.strings_FieldsFunc_grows 271 #[] (callFunc_enter Tryz.func271 rfl aB) yV ⟨l.toArray⟩ w (by simp[ByteArray.size];omega) hp).mono ?_
 rintro e w' ⟨A,rfl,hA,hown,hb⟩
 rw[adx l ha] at hown⊢
 have hlen:=Ar l []
 have hsum:=FM l []
 rw[List.length_map] at hown⊢
 refine⟨_,rfl,Ot hb,?_,fun b hb=> ?_⟩
 ·rcases hown.2 with⟨hn,_⟩|⟨g,cap,cur,hv,hbg,hg,hcap,hmax,hcs,htk⟩
  ·cases hn
  ·have e1:=hv
   simp only[Value.slice.injEq,Option.some.injEq,Addr.mk.injEq] at e1
   obtain⟨⟨rfl,_⟩,_,rfl⟩:=e1
   refine Wy (cur:=cur) hg (Nat.le_refl _) hmax (by simpa using hcs) (fun i t ht=> ?_) (fun t ht=> ?_)
   ·have hi:=(List.getElem?_eq_some_iff.1 ht).1
    have h5:=congrArg (fun z=>z[i]?) htk
    simp only[Nat.mul_one,List.map_map] at h5
    rw[List.getElem?_take_of_lt ah,List.getElem?_map,ht] at h5
    rw[←Array.getElem?_toList]
    exact h5
   ·have h6:t.length≤((iC [] l).map List.length).sum:=Uk (List.mem_map_of_mem ht)
    simp at hsum
    exact Nat.le_trans (Nat.le_trans h6 (Nat.le_trans hsum hl)) iU
 ·have:A=b:=Option.some.inj hb
  omega
theorem Zz(l:List UInt8)(hl:l.length≤1048576)(ha: ∀c∈l,c.toNat<128):ak Tryz.prog 221 G0 0 [] [.str l] (fun d os=>d= .h 0∧os=[.row 9 1 ((yB l).map encS)]):=by
 have hll:=TT l
 have hfl:=Ar (gG l) []
 rw[List.length_nil,Nat.zero_add,hll] at hfl
 have hms:((iC [] (gG l)).mergeSort fun x y=>decide (x≤y)).length=(iC [] (gG l)).length:=List.length_mergeSort _
 have hw:yB l=Lib.compact ((iC [] (gG l)).mergeSort fun x y=>decide (x≤y)):=(Xe _).symm
 rw[hw]
 refine aF Tryz.func221 rfl aB rfl (fun w0 F0 lent β0=> ?_)
 repeat'(first|refine sC ?_|((with_reducible refine aj ?_);first|(refine sS ?_;intro Q' hn he hr)|refine sA ?_)|(refine sH ?_;clear hn he hr Q')|((conv=>whnf);first|refine sK ?_|((with_reducible refine aH ?_);first|(refine aG (aa3 l hl ha) rfl rfl ?_)|(refine oq (aa1 (gG l) ah (aeJ ha)) rfl (oM (iV.map fun _=>rfl)) dQ ?_)|(refine Ja 0 rfl (Pz _ ah) ?_;rintro d os ⟨rfl,rfl⟩;refine⟨_,_,rfl,?_⟩)|(refine PZ 0 rfl (Py _ ah) rfl (oM (iV.map fun _=>rfl)) dQ ?_))|((with_reducible refine bP ?_);(refine au [1] rfl rfl rfl ⟨rfl,?_⟩))))
 all_goals rfl
end Go.Eng
