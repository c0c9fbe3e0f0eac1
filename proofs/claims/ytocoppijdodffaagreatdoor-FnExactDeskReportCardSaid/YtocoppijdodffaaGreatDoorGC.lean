/-
  Rows of findings laid end to end: slices.Grow of no slice at all, slices.Concat.
  No conditions.
-/
import Derived.Test.YtocoppijdodffaaGreatDoorRW
import Derived.Test.YtocoppijdodffaaGreatDoorMF0
import Derived.Shelf.Spec.SlicesGrow
set_option linter.unusedVariables false
set_option linter.unusedSimpArgs false
set_option maxHeartbeats 4000000
namespace Go.Proofs
open Go.Shelf
def Tryz.RG:Go.Shelf.Ren:=⟨fun|4=>156|n=>n,fun|22=>77|25=>152|3=>3|4=>4|9=>9|20=>20|0=>0|n=>n,fun|n=>n⟩
theorem Tryz.RF:Go.Proofs.Lays8.n4 Tryz.prog Tryz.RG:= {
 mixed:=by kernel_rfl
 f4:=⟨Tryz.f156.name,by decide,Tryz.func156.trans (congrArg some (by kernel_rfl))⟩
 t0:=Tryz.underlying0
 a0:=Tryz.isAgg0
 z0:=Tryz.sizeOf0
 v0:=Tryz.zeroValue0
 t3:=Tryz.underlying3
 a3:=Tryz.isAgg3
 z3:=Tryz.sizeOf3
 v3:=Tryz.zeroValue3
 t4:=Tryz.underlying4
 a4:=Tryz.isAgg4
 z4:=Tryz.sizeOf4
 v4:=Tryz.zeroValue4
 t9:=Tryz.underlying9
 a9:=Tryz.isAgg9
 z9:=Tryz.sizeOf9
 v9:=Tryz.zeroValue9
 t20:=Tryz.underlying20
 a20:=Tryz.isAgg20
 z20:=Tryz.sizeOf20
 v20:=Tryz.zeroValue20
 t22:=Tryz.underlying77
 a22:=Tryz.isAgg77
 z22:=Tryz.sizeOf77
 v22:=Tryz.zeroValue77 }
end Go.Proofs
namespace Go.Eng
open Go Go.RowKit Go.Proofs
set_option maxRecDepth 100000
theorem ac8: ∃i z,Tryz.prog.info? 152=some i∧i.zero=some z∧i.size=3∧i.bytes≤1000∧z.cells.size=3:=by
 have h:(match Tryz.prog.info? 152 with|some i=>(match i.zero with|some z=>Nat.beq i.size 3&&Nat.ble i.bytes 1000&&Nat.beq z.cells.size 3|none=>false)|none=>false)=true:=by kernel_rfl
 split at h
 ·rename_i i hi
  split at h
  ·rename_i z hz
   simp only[Bool.and_eq_true] at h
   exact⟨i,z,hi,hz,Nat.eq_of_beq_eq_true h.1.1,Nat.le_of_ble_eq_true h.1.2,Nat.eq_of_beq_eq_true h.2⟩
  ·cases h
 ·cases h
theorem ZM(n:Nat)(hn:n≤1000000):ak Tryz.prog 156 G0 0 [] [.v (.slice none 0 0), .int .i64 n] (fun d os=>d= .h 0∧os=[.row 152 3 []]):=by
 refine ak.UF (callFunc_enter Tryz.func156 rfl aB) fun w F vs hF hl hro hG=> ?_
 have h0:vs.getD 0 undef= .slice none 0 0:=(Rep.ro (β:=fun _=>none) _ _ (hro 0 (Nat.lt_of_sub_eq_succ rfl))).kZ
 have h1:vs.getD 1 undef= .int .i64 n:=(Rep.ro (β:=fun _=>none) _ _ (hro 1 (Nat.lt_of_sub_eq_succ rfl))).eU
 have hvs:vs=[vs.getD 0 undef,vs.getD 1 undef]:=by
  match vs,hl with
  |[v,v'],_=>rfl
 rw[hvs,h0,h1]
 rcases Nat.eq_zero_or_pos n with rfl|hp
 ·refine(Any8.slices_Grow_room Tryz.RF none 0 0 0 w (Nat.le_refl _) iU iU (Nat.le_refl _)).mono ?_
  rintro e w' ⟨rfl,rfl⟩
  exact⟨_,rfl,⟨rfl,rfl,rfl,Nat.le_refl _,fun _ _ _=>rfl⟩,⟨Nat.zero_le _,fun i hi=>absurd hi (Nat.not_lt_zero _),[],⟨rfl, .inl ⟨rfl,rfl⟩⟩,fun u hu=>absurd hu (List.not_mem_nil),fun i j hi=>absurd hi (Nat.not_lt_zero _)⟩,fun b hb=>by simp[blk] at hb⟩
 ·obtain⟨i0,z,hi0,hz0,hs0,hb0,hzc⟩:=ac8
  have hm:n*i0.bytes≤n*1000:=Nat.mul_le_mul_left _ hb0
  refine(Any8.slices_Grow_grow Tryz.RF i0 z hi0 hz0 ah none 0 0 n [] w (Nat.le_refl _) ah (by rw[Nat.zero_add];omega) ah fB (fun _=>rfl) (fun a ha=>by cases ha)).mono ?_
  rintro e w' ⟨rfl,rfl⟩
  have hge:0+n≤grownCap w (0+n) 0 (Tryz.RG.t 25):=grownCap_ge w _ _ _
  refine⟨_,rfl,⟨rfl,rfl,rfl,by simp,fun k hk _=>heap_alloc_old w.drew _ hk⟩,⟨Nat.zero_le _,fun i hi=>absurd hi (Nat.not_lt_zero _),[],⟨rfl, .inr ⟨w.heap.size,_,_,rfl,Nat.zero_le _,heap_alloc_new w.drew _,Nat.zero_le _,grownCap_le_maxLen w _ _ _ (by unfold maxLen;omega),?_,by simp⟩⟩,fun u hu=>absurd hu (List.not_mem_nil),fun i j hi=>absurd hi (Nat.not_lt_zero _)⟩,fun b hb=> ?_⟩
  ·simp only[Array.size_append,Builtin.zeroCells,Array.size_map,Array.size_range,hzc,List.size_toArray,List.length_nil]
   omega
  ·have:w.heap.size=b:=Option.some.inj hb
   omega
def vF(ps:List (List gU)):List (List D):=ps.map fun p=>[.sl 3 (p.map eG)]
def ou(ps:List (List gU)):Nat:=(ps.map List.length).sum
theorem P6{ps:List (List gU)}{p:List gU}{k:Nat}(h:ps[k]? =some p):ou (ps.take (k+1))=ou (ps.take k)+p.length:=by
 unfold ou
 rw[List.take_add_one,h]
 simp
theorem Fe(ps:List (List gU))(k:Nat):ou (ps.take k)≤ou ps:=by
 unfold ou
 have:=congrArg (fun l=>(l.map List.length).sum) (List.take_append_drop k ps)
 simp only[List.map_append,List.sum_append] at this
 omega
theorem adf{ps:List (List gU)}{p:List gU}{k:Nat}(h:ps[k]? =some p):(ps.take (k+1)).flatten=(ps.take k).flatten++p:=by
 rw[List.take_add_one,h]
 simp
theorem FK: ∀ps:List (List gU),ps.flatten.length=ou ps
 |[]=>rfl
 |p::r=>by
  have:=FK r
  unfold ou at*
  simp[this]
set_option maxHeartbeats 8000000 in
theorem ZI(ps:List (List gU))(hp:ps.length≤1000)(hl:ou ps≤1000000):ak Tryz.prog 81 G0 0 [] [.sl 1 (vF ps)] (fun d os=>d= .h 0∧os=[.row 152 3 (ps.flatten.map eG)]):=by
 refine aF Tryz.func81 rfl aB rfl (fun w0 F0 lent β0=> ?_)
 repeat'(first|refine sC ?_|((with_reducible refine aj ?_);first|(refine sS ?_;intro Q' hn he hr)|refine sA ?_)|(refine sH ?_;clear hn he hr Q')|((conv=>whnf);first|refine sK ?_|(refine sL ?_;intro hlen)))
 refine aQ (fun k:Nat=>[(0,.sl 1 (vF ps)),(3,.int .i64 (ou (ps.take k))),(9,.sl 1 (vF ps)),(10,.int .i64 ps.length),(11,.int .i64 k)]) (fun _=>[]) (fun k=>k≤ps.length) (fun k=>ps.length-k) 0 ah aI (fun k hk Q' hn he hr=> ?_)
 have hkn:=Fe ps k
 by_cases hkl:k<ps.length
 ·obtain⟨p,hp0⟩: ∃p,ps[k]? =some p:=⟨_,List.getElem?_eq_getElem hkl⟩
  have hst:=P6 hp0
  have adS:=Fe ps (k+1)
  have hat:(vF ps)[k]? =some [.sl 3 (p.map eG)]:=by rw[vF,List.getElem?_map,hp0];rfl
  repeat'(first|refine sC ?_|((with_reducible refine aj ?_);first|(refine sS ?_;intro Q' hn he hr)|refine sA ?_)|(refine sH ?_;clear hn he hr Q')|((conv=>whnf);first|refine sK ?_|(refine sB ?_;repeat'(refine aA ?_ ?_<;>intro hb<;>try exact cls))|refine sP ?_|(refine sL ?_;intro hlen)))
  ·refine⟨k+1,by omega,by omega,?_⟩
   rw[hst]
   exact aI
 ·obtain rfl:k=ps.length:=by omega
  rw[List.take_length]
  repeat'(first|refine sC ?_|((with_reducible refine aj ?_);first|(refine sS ?_;intro Q' hn he hr)|refine sA ?_)|(refine sH ?_;clear hn he hr Q')|((conv=>whnf);first|refine sK ?_|(refine sB ?_;repeat'(refine aA ?_ ?_<;>intro hb<;>try exact cls))|((with_reducible refine aH ?_);(refine jP (ZM (ou ps) hl) rfl dQ ?_))|(refine sL ?_;intro hlen)|(refine sH ?_;clear hn he hr Q')))
  refine aQ (fun k:Nat=>[(0,.sl 1 (vF ps)),(6,.h 0),(25,.sl 1 (vF ps)),(26,.int .i64 ps.length),(27,.int .i64 k)]) (fun k=>[.row 152 3 ((ps.take k).flatten.map eG)]) (fun k=>k≤ps.length) (fun k=>ps.length-k) 0 ah aI (fun k hk Q' hn he hr=> ?_)
  have hkn:=Fe ps k
  have hfl:(ps.take k).flatten.length≤ou ps:=by rw[FK];exact hkn
  by_cases hkl:k<ps.length
  ·obtain⟨p,hp0⟩: ∃p,ps[k]? =some p:=⟨_,List.getElem?_eq_getElem hkl⟩
   have hst:=P6 hp0
   have adS:=Fe ps (k+1)
   have ahv:(ps.take k).flatten.length+p.length≤ou ps:=by rw[FK];omega
   have hat:(vF ps)[k]? =some [.sl 3 (p.map eG)]:=by rw[vF,List.getElem?_map,hp0];rfl
   repeat'(first|refine sC ?_|((with_reducible refine aj ?_);first|(refine sS ?_;intro Q' hn he hr)|refine sA ?_)|(refine sH ?_;clear hn he hr Q')|((conv=>whnf);first|refine sK ?_|(refine sB ?_;repeat'(refine aA ?_ ?_<;>intro hb<;>try exact cls))|refine sP ?_))
   ·refine⟨k+1,by omega,by omega,?_⟩
    exact(by refine aC rfl rfl (by rw[adf hp0,List.map_append];rfl) ?_;((repeat'(first|exact trivial|refine And.intro ?_ ?_))<;>(first|rfl|(conv=>rhs;whnf)<;>(first|rfl|(refine congrArg (D.int _) ?_;omega)))))
  ·obtain rfl:k=ps.length:=by omega
   rw[List.take_length]
   repeat'(first|refine sC ?_|((with_reducible refine aj ?_);first|(refine sS ?_;intro Q' hn he hr)|refine sA ?_)|(refine sH ?_;clear hn he hr Q')|((conv=>whnf);first|refine sK ?_|(refine sB ?_;repeat'(refine aA ?_ ?_<;>intro hb<;>try exact cls))|((with_reducible refine bP ?_);(refine au [0] rfl rfl rfl ⟨rfl,?_⟩))|(refine sH ?_;clear hn he hr Q')))
   all_goals rfl
end Go.Eng
