/-
  Texts joined, lists of numbers as texts: the contracts of the program's functions.
  No conditions.
-/
import Derived.Test.YtocoppijdodffaaGreatDoorD1
import Derived.Test.YtocoppijdodffaaGreatDoorP1
import Derived.Test.YtocoppijdodffaaGreatDoorRW
import Derived.Test.YtocoppijdodffaaGreatDoorV0
import Derived.Test.YtocoppijdodffaaGreatDoorShelf3
import Derived.Test.YtocoppijdodffaaGreatDoorTX
set_option linter.unusedVariables false
set_option linter.unusedSimpArgs false
set_option maxHeartbeats 4000000
namespace Go.Eng
open Go Go.RowKit Go.Proofs
set_option maxRecDepth 100000
def N9:List D:=[.str []]
theorem agV{F:Nat→Prop}{w:World}{v:Value}{a:List (List UInt8)}(h:RO F w v (.sl 1 (a.map encS))):
 (a=[]∧ ∃ad c,v= .slice ad 0 c)∨ ∃b off cap,v= .slice (some ⟨b,off,none⟩) a.length cap∧F b∧a.length≤cap∧cap≤maxLen∧ ∀i x,a[i]? =some x→w.cell? ⟨b,off+i,none⟩=some (.string ⟨x.toArray⟩):=by
 rcases h.zF with⟨he,ad,c,hv⟩|⟨b,off,cap,c,hv,hF,hcap,hm,hs,hc,hr⟩
 ·left
  exact⟨by simpa using he,ad,c,hv⟩
 ·right
  refine⟨b,off,cap,by simpa using hv,hF,by simpa using hcap,hm,fun i x hx=> ?_⟩
  have hi:i<(a.map encS).length:=by simpa using(List.getElem?_eq_some_iff.1 hx).1
  have e:(a.map encS).getD i []=encS x:=by simp[List.getD_eq_getElem?_getD,hx]
  have h0:=hr i 0 hi ah
  rw[e] at h0
  have c0:=(Rep.ro (β:=fun _=>none) _ _ (show RO F w (c i 0) (.str x) from h0)).nC
  have:=(hc i 0 hi ah).1
  rw[Nat.mul_one,Nat.add_zero] at this
  rw[←c0]
  exact this
theorem aa2(l:List (List UInt8))(s:List UInt8)(hl:l.length≤1000)(hlen:(Lib.join l s).length≤1048576):ak Tryz.prog 225 G0 0 [] [.sl 1 (l.map encS), .str s] (fun d os=>d= .str (Lib.join l s)∧os=[]):=by
 refine ak.LH (callFunc_enter Tryz.func225 rfl aB) fun w F vs hF hln hr hG=> ?_
 have h1:vs.getD 1 undef= .string ⟨s.toArray⟩:=(Rep.ro (β:=fun _=>none) _ _ (hr 1 (Nat.lt_of_sub_eq_succ rfl))).nC
 have h0:=hr 0 (Nat.lt_of_sub_eq_succ rfl)
 have ok: ∀w':World,RO (fun b=>F b∨(w.heap.size≤b∧b<w'.heap.size)) w' (.string ⟨(Lib.join l s).toArray⟩) (.str (Lib.join l s)):=fun w'=> .str _ (by unfold maxLen;omega)
 rcases agV (show RO F w (vs.getD 0 undef) (.sl 1 (l.map encS)) from h0) with⟨he,ad,c,hv⟩|⟨b,off,cap,hv,hFb,hcap,hm,hcells⟩
 ·have e:vs.toArray= #[.slice ad 0 c, .string ⟨s.toArray⟩]:=by rw[La hln,hv,h1]
  rw[e]
  refine(Tryz.strings_Join_none ad c ⟨s.toArray⟩ w).mono ?_
  rintro e w' ⟨rfl,rfl⟩
  subst he
  exact⟨_,rfl,⟨rfl,rfl,rfl,Nat.le_refl _,fun _ _ _=>rfl⟩,ok _⟩
 ·have e:vs.toArray= #[.slice (some ⟨b,off,none⟩) (l.map fun x=>(⟨x.toArray⟩:ByteArray)).length cap, .string ⟨s.toArray⟩]:=by rw[La hln,hv,h1,List.length_map]
  rw[e]
  have em:(l.map fun x=>(⟨x.toArray⟩:ByteArray)).map (·.data.toList)=l:=by
   rw[List.map_map]
   conv=>rhs;rw[←List.map_id l]
   exact List.map_congr_left fun x _=>by simp
  have es:(⟨s.toArray⟩:ByteArray).data.toList=s:=by simp
  have hj:=Tryz.strings_Join b off cap (l.map fun x=>(⟨x.toArray⟩:ByteArray)) ⟨s.toArray⟩ w (fun j x hx=>by
   rw[List.getElem?_map] at hx
   cases hy:l[j]? with
   |none=>rw[hy] at hx;cases hx
   |some y=>
    rw[hy] at hx
    cases hx
    exact hcells j y hy) (hF b hFb) EJ (by rw[List.length_map];exact hcap) (by rw[em,es];omega)
  rw[em,es] at hj
  refine hj.mono ?_
  rintro e w' ⟨rfl,hb⟩
  exact⟨_,rfl,⟨hb.os,hb.tape,hb.output,hb.size,fun k hk _=>hb.block k hk⟩,ok _⟩
theorem TA: ∀l:List (List UInt8),Lib.join l [44]=joinL l:=by
 intro l
 cases l with
 |nil=>rfl
 |cons x r=>
  rw[Lib.join_cons]
  induction r generalizing x with
  |nil=>simp[Lib.joinTail,joinL]
  |cons y r ih=>
   rw[joinL,←ih y]
   simp[Lib.joinTail]
theorem YQ(L:List Int)(h1:1≤L.length∧L.length≤64)(hb0: ∀(k:Nat) n,L[k]? =some n→ -1000000000000≤n∧n≤1000000000000):ak Tryz.prog 158 GP 0 [] [.sl 1 (L.map encI)] (fun d os=>d= .str (joinL (L.map Lib.itoa))∧os=[]):=by
 have hjl:(joinL (L.map Lib.itoa)).length≤1048576:=by
  have h2:=Tv (L.map Lib.itoa) fun x hx=>by
   obtain⟨n,hn,rfl⟩:=List.mem_map.1 hx
   obtain⟨k,hk⟩:=List.getElem?_of_mem hn
   have:=hb0 k n hk
   have:=Lib.itoa_length_le n ah ah
   omega
  rw[List.length_map] at h2
  omega
 have hcj:=aa2 (L.map Lib.itoa) [44] EJ (by rw[TA];exact hjl)
 rw[TA] at hcj
 refine aF Tryz.func158 rfl aB rfl (fun w0 F0 lent β0=> ?_)
 repeat'(first|refine sC ?_|((with_reducible refine aj ?_);first|(refine sS ?_;intro Q' hn he hr)|refine sA ?_)|(refine sH ?_;clear hn he hr Q')|((conv=>whnf);first|refine sK ?_|(refine sB ?_;repeat'(refine aA ?_ ?_<;>intro hb<;>try exact cls))|refine sP ?_|(refine sL ?_;intro hlen)))
 refine aQ (fun k:Nat=>[(0,.sl 1 (L.map encI)),(3,.h 0),(15,.sl 1 (L.map encI)),(16,.int .i64 L.length),(17,.int .i64 k)]) (fun k=>[.row 9 1 (fill encS N9 (L.map Lib.itoa) k)]) (fun k=>k≤L.length) (fun k=>L.length-k) 0 ah (by refine aC rfl rfl ?_ ?_;rw[oJ,List.length_map];rfl;exact⟨rfl,rfl,rfl,rfl,rfl,trivial⟩) (fun k hk Q' hn he hr=> ?_)
 by_cases hkl:k<L.length
 ·obtain⟨n,hnk⟩: ∃n,L[k]? =some n:=⟨_,List.getElem?_eq_getElem hkl⟩
  have hbn:=hb0 k n hnk
  have hv:inB n (-1000000000000) 1000000000000=true:=by simp[inB];omega
  have hx9:(L.map Lib.itoa)[k]? =some (Lib.itoa n):=by rw[List.getElem?_map,hnk];rfl
  repeat'(first|refine sC ?_|((with_reducible refine aj ?_);first|(refine sS ?_;intro Q' hn he hr)|refine sA ?_)|(refine sH ?_;clear hn he hr Q')|((conv=>whnf);first|refine sK ?_|(refine sB ?_;repeat'(refine aA ?_ ?_<;>intro hb<;>try exact cls))|(refine aJ.the hnk ?_)|(refine aW.fill EJ ?_)|(refine aJ.fill EJ ?_)|((with_reducible refine aH ?_);first|(refine aG (ak.aU (iQ _ _ _)) rfl rfl ?_)|(refine aG (CW n ah) rfl rfl ?_))|refine sP ?_))
  all_goals first
   |(refine⟨k+1,by omega,by omega,?_⟩
     refine aC rfl rfl ?_ ⟨rfl,rfl,rfl,rfl,rfl,trivial⟩
     rw[←oI _ _ _ hx9]
     rfl)
   |trace_state
 ·obtain rfl:k=L.length:=by omega
  have hfa:fill encS N9 (L.map Lib.itoa) L.length=(L.map Lib.itoa).map encS:=by
   have:=oH encS N9 (L.map Lib.itoa)
   rwa [List.length_map] at this
  rw[hfa]
  repeat'(first|refine sC ?_|((with_reducible refine aj ?_);first|(refine sS ?_;intro Q' hn he hr)|refine sA ?_)|(refine sH ?_;clear hn he hr Q')|((conv=>whnf);first|refine sK ?_|(refine sB ?_;repeat'(refine aA ?_ ?_<;>intro hb<;>try exact cls))|((with_reducible refine aH ?_);(refine jq (hcj.aU) rfl ?_))|(refine au [] rfl rfl rfl ⟨?_,rfl⟩;conv=>lhs;whnf)|(refine sH ?_;clear hn he hr Q')))
  all_goals rfl
end Go.Eng
