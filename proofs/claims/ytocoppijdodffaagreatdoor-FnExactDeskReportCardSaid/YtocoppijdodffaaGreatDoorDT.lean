/-
  A statement whose order is open: besides operations that look at temporaries alone, numbers less a constant may come first.
  No conditions.
-/
import Derived.Test.YtocoppijdodffaaGreatDoorED
set_option linter.unusedVariables false
set_option linter.unusedSimpArgs false
namespace Go.Eng
open Go Go.RowKit
def JO:Op→Bool
 | .move _=>true
 | .assign _=>true
 | .extract _ _=>true
 | .binOp .sub _ _ (.const (.int _ _)) _=>true
 |_=>false
theorem adi{X:Ctx}{st:St}{K':St→Prop}{β:Nat→Option Value}{a:Act}{w:World}{dst:Option Nat}{t yt ty:TypeId}{x:Operand}{k:IntKind}{n:Int}{pos:String}{after:Array Edge}{guard:Option (Nat×Bool)}
 (h:AY X ⟨dst, .binOp .sub t x (.const (.int k n)) yt,ty,pos,after,guard⟩ st K')(hr:Rel X st β a w):
 ∃v,(∀w',(execOp a.eval ⟨dst, .binOp .sub t x (.const (.int k n)) yt,ty,pos,after,guard⟩).run X.P w'= .ok (.value v) w')∧PostR X K' (a.put dst v) w:=by
 have h0:=tV (Q:=fun _ _ _=>False) h hr
 have h1:CP X.P t .sub (st.ev x) (.int k n) (fun d=>force d fun d=>gK st dst d K'):=h
 have hx: ∃k' b,st.ev x= .int k' b:=by
  unfold CP at h1
  split at h1
  ·rename_i hx hy
   exact⟨_,_,hx⟩
  all_goals first
   |(rename_i hx hy;cases hy)
   |(exact h1.elim)
 obtain⟨k',b,hx⟩:=hx
 have hev:a.eval x= .int k' b:=by
  have:=hr.ev x
  rw[hx] at this
  exact this.eU
 have hc:a.eval (.const (.int k n))= .int k n:=rfl
 by_cases hk:k'=k
 ·subst hk
  have e: ∀w',(execOp a.eval ⟨dst, .binOp .sub t x (.const (.int k' n)) yt,ty,pos,after,guard⟩).run X.P w'= .ok (.value (.int k' (k'.wrap (b-n)))) w':=fun w'=>by
   simp[execOp,hev,hc,eqGuard,binOp,Op.intArith]
  refine⟨_,e,?_⟩
  unfold Oper.wp at h0
  rw[e] at h0
  exact h0
 ·exfalso
  unfold Oper.wp at h0
  have e: ∃z,(execOp a.eval ⟨dst, .binOp .sub t x (.const (.int k n)) yt,ty,pos,after,guard⟩).run X.P w= .halt (.stuck z) w:=⟨_,by
   simp[execOp,hev,hc,eqGuard,binOp,hk,stuck]
   rfl⟩
  obtain⟨z,e⟩:=e
  rw[e] at h0
  exact h0
theorem Rj{X:Ctx}{o:Oper}{st:St}{K':St→Prop}{β:Nat→Option Value}{a:Act}{w:World}(hf:JO o.op=true)(h:AY X o st K')(hr:Rel X st β a w):
 ∃v,(∀w',(execOp a.eval o).run X.P w'= .ok (.value v) w')∧PostR X K' (a.put o.dst v) w:=by
 by_cases hf0:Aw o.op=true
 ·exact FQ hf0 (tV (Q:=fun _ _ _=>False) h hr)
 ·obtain⟨dst,op,ty,pos,after,guard⟩:=o
  cases op<;>try(exact absurd rfl hf0)
  all_goals try(cases hf;done)
  rename_i X6 t x y yt
  cases X6<;>try(cases hf;done)
  cases y<;>try(cases hf;done)
  rename_i v
  cases v<;>try(cases hf;done)
  exact adi h hr
def yx(ops:Array Oper):OT→Nat→Array Bool→List Nat→Bool
 | .nil,_,listed,hs=>hs.isEmpty&&(Region.ready .any ops listed).isEmpty
 | .cons i t,fuel+1,listed,hs=>(match ops[i]? with
    |some oi=>(Region.ready .any ops listed).contains i&&((Region.ready .any ops listed).all (fun j=>Nat.beq i j||hs.contains j)||(hs.isEmpty&&JO oi.op&&apartB ops listed i oi))
    |none=>false)&&yx ops t fuel (listed.setIfInBounds i true) []
 | .fork i t r,fuel+1,listed,hs=>(match ops[i]? with
    |some _=>true
    |none=>false)&&yx ops t fuel (listed.setIfInBounds i true) []&&yx ops r (fuel+1) listed (i::hs)
 |_,0,_,_=>false
section
variable {X:Ctx} {K:St→Prop} {ops:Array Oper}
theorem RS{o:Oper}{st:St}{K':St→Prop}{β:Nat→Option Value}{a:Act}{w:World}{i:Nat}{Q:Exit→Act→World→Prop}(hi:ops[i]? =some o)(h:iE X ops o st K')(hr:Rel X st β a w):
 wpOp X.P ops Q i (PostR X K') a w∧(JO o.op=true→ ∃v,Go.Yields X.P ops o v a∧PostR X K' (a.put o.dst v) w):=by
 unfold iE at h
 unfold wpOp
 simp only[hi]
 split at h
 ·rename_i hg
  have hw:Region.wanted o (yielded ops a.tmps)=true:=by simp[Region.wanted,hg]
  rw[if_pos hw]
  refine⟨.inl (tV h hr),fun hf=> ?_⟩
  obtain⟨v,h1,h2⟩:=Rj hf h hr
  exact⟨v, .inl ⟨hw,h1⟩,h2⟩
 ·rename_i j want hg
  split at h
  ·rename_i t hj
   split at h
   ·rename_i c ht
    have hy:=zI hr hj ht
    by_cases hc:c=want
    ·subst hc
     have hw:Region.wanted o (yielded ops a.tmps)=true:=by simp[Region.wanted,hg,hy]
     rw[if_pos hw]
     have h1:=fun Q=>tV (Q:=Q) (eX (h.1 rfl)) (hr.self ht)
     refine⟨.inl (h1 Q),fun hf=> ?_⟩
     obtain⟨v,h2,h3⟩:=Rj hf (eX (h.1 rfl)) (hr.self ht)
     exact⟨v, .inl ⟨hw,h2⟩,h3⟩
    ·have hc':c= !want:=by cases c<;>cases want<;>simp_all
     have hw:Region.wanted o (yielded ops a.tmps)=false:=by simp[Region.wanted,hg,hy,hc]
     rw[if_neg (by simp[hw])]
     have h2:=eX (eX (h.2 hc'))
     have h3:PostR X K' (a.put o.dst undef) w:=⟨_,β,h2,(hr.self (by rw[ht,hc'])).put _ oZ⟩
     exact⟨h3,fun _=>⟨undef, .inr ⟨hw,rfl⟩,h3⟩⟩
   ·rename_i ht
    have hy:=EH hr hj ht
    have hw:Region.wanted o (yielded ops a.tmps)=false:=by simp[Region.wanted,hg,hy]
    rw[if_neg (by simp[hw])]
    have h3:PostR X K' (a.put o.dst undef) w:=⟨_,β,eX h,hr.put _ oZ⟩
    exact⟨h3,fun _=>⟨undef, .inr ⟨hw,rfl⟩,h3⟩⟩
   ·exact h.elim
  ·exact h.elim
theorem GY(hsel: ∀(j:Nat) (o:Oper) cs b,ops[j]? =some o→o.op≠ .select cs b): ∀(t:OT) (fuel:Nat) (listed:Array Bool) (hs:List Nat) (st:St) (β:Nat→Option Value) (a:Act) (w:World),
 yx ops t fuel listed hs=true→opsT X ops t st K→Rel X st β a w→
 (∀fuel',fuel=fuel'+1→ ∀j∈hs,wpOp X.P ops (jm X K) j (wpAny X.P .any ops (jm X K) fuel' (listed.setIfInBounds j true)) a w)→wpAny X.P .any ops (jm X K) fuel listed a w
 | .nil,fuel,listed,hs,st,β,a,w,hB,h,hr,_=>by
   have hB:(hs.isEmpty&&(Region.ready .any ops listed).isEmpty)=true:=by cases fuel<;>exact hB
   have he:Region.ready .any ops listed=[]:=List.isEmpty_iff.1 (Bool.and_eq_true _ _▸hB).2
   have hq:jm X K .normal a w:=⟨st,β,h,hr⟩
   cases fuel with
   |zero=>exact⟨he,hq⟩
   |succ fuel=>exact⟨fun _=>hq,fun i hi=>by rw[he] at hi;cases hi⟩
 | .cons i t,0,listed,hs,st,β,a,w,hB,h,hr,_=>by cases hB
 | .fork i t r,0,listed,hs,st,β,a,w,hB,h,hr,_=>by cases hB
 | .cons i t,fuel+1,listed,hs,st,β,a,w,hB,h,hr,hp=>by
   simp only[yx,Bool.and_eq_true] at hB
   obtain⟨hB,hB2⟩:=hB
   have h:(match ops[i]? with
    |some o=>iE X ops o st fun st'=>opsT X ops t st' K
    |none=>False):=h
   split at hB
   ·rename_i oi hi
    simp only[hi] at h
    simp only[Bool.and_eq_true,List.contains_eq_mem,decide_eq_true_eq] at hB
    obtain⟨hrd,hB⟩:=hB
    have next: ∀a' w',PostR X (fun st'=>opsT X ops t st' K) a' w'→wpAny X.P .any ops (jm X K) fuel (listed.setIfInBounds i true) a' w':=by
     rintro a' w' ⟨st',β',hk,hr'⟩
     exact GY hsel t fuel _ [] st' β' a' w' hB2 hk hr' (fun _ _ j hj=>by cases hj)
    obtain⟨h1,h2⟩:=RS (Q:=jm X K) hi h hr
    rcases Bool.or_eq_true _ _▸hB with hall|hfree
    ·refine⟨fun he=>Ob,fun j hj=> ?_⟩
     have hc:=List.all_eq_true.1 hall j hj
     simp only[Bool.or_eq_true,List.contains_eq_mem,decide_eq_true_eq] at hc
     rcases hc with hc|hc
     ·have:=Nat.eq_of_beq_eq_true hc
      subst this
      exact wpOp_mono next h1
     ·exact hp fuel rfl j hc
    ·simp only[Bool.and_eq_true] at hfree
     obtain⟨v,hy,hp⟩:=h2 hfree.1.2
     refine wpAny_first hi hsel (fun c a w h=>h) fuel listed a w (fun j oj hj hne hun hnw=> ?_) hrd hy (next _ _ hp)
     have hlt:j<ops.size:=(Array.getElem?_eq_some_iff.1 hj).1
     have hb:=List.all_eq_true.1 hfree.2 j (List.mem_range.2 hlt)
     simp only[hj,Bool.or_eq_true,hun,Bool.false_eq_true,or_false] at hb
     rcases hb with(hb|hb)|hb
     ·exact absurd (Nat.eq_of_beq_eq_true hb) hne
     ·exfalso
      rw[show(oj.after.all fun e=> !Region.binds .any e|| !Nat.beq e.on i)=true from Array.all_eq_true_iff_forall_mem.2 fun e he=>by
       cases hbb:Region.binds .any e with
       |false=>rfl
       |true=>simp[lQ (hnw e he hbb)]] at hb
      cases hb
     ·exact hb
   ·cases hB
 | .fork i t r,fuel+1,listed,hs,st,β,a,w,hB,h,hr,hp=>by
   simp only[yx,Bool.and_eq_true] at hB
   obtain⟨⟨hB0,hB⟩,hB2⟩:=hB
   have h:(match ops[i]? with
    |some o=>iE X ops o st fun st'=>opsT X ops t st' K
    |none=>False)∧opsT X ops r st K:=h
   split at hB0
   ·rename_i oi hi
    simp only[hi] at h
    have next: ∀a' w',PostR X (fun st'=>opsT X ops t st' K) a' w'→wpAny X.P .any ops (jm X K) fuel (listed.setIfInBounds i true) a' w':=by
     rintro a' w' ⟨st',β',hk,hr'⟩
     exact GY hsel t fuel _ [] st' β' a' w' hB hk hr' (fun _ _ j hj=>by cases hj)
    obtain⟨h1,_⟩:=RS (Q:=jm X K) hi h.1 hr
    refine GY hsel r (fuel+1) listed (i::hs) st β a w hB2 h.2 hr (fun fuel' hf j hj=> ?_)
    obtain rfl:fuel=fuel':=by omega
    rcases List.mem_cons.1 hj with rfl|hj
    ·exact wpOp_mono next h1
    ·exact hp fuel rfl j hj
   ·cases hB0
theorem acD{st:St}(order:OT)(hm:X.P.follows .mixedOrders=true)(hs:ops.toList.all (fun o=>Gj o.op)=true)(hB:yx ops order ops.size (Array.replicate ops.size false) []=true)
 (h:opsT X ops order st K):jf X ops K st:=by
 refine jf.mk fun β a w id Q hr hQ=> ?_
 have hsel: ∀(j:Nat) (o:Oper) cs b,ops[j]? =some o→o.op≠ .select cs b:=by
  intro j o cs b hj e
  have hm:o∈ops.toList:=by
   have:=Array.mem_of_getElem? hj
   simpa using this
  have:=List.all_eq_true.1 hs o hm
  rw[e] at this
  cases this
 have h1:=wp_region_any (id:=id) hm (GY (X:=X) (K:=K) hsel order ops.size _ [] st β a _ hB h hr.drew (fun _ _ j hj=>by cases hj))
 refine Code.wp_mono (fun e a' w' hq=> ?_) h1
 cases e<;>first|exact hQ a' w' hq|exact hq.elim
end
structure uD (X:Ctx) (ops:Array Oper) (t:OT) (K:St→Prop) (st:St):Prop where
 out:opsT X ops t st K
theorem aes{X:Ctx}{ops:Array Oper}{t:OT}{K:St→Prop}{st:St}(h:uD X ops t K st):uD X ops t K st:=h
theorem WQ{X:Ctx}{ops:Array Oper}{t:OT}{K:St→Prop} :uD X ops t K=fun st=>opsT X ops t st K:=funext fun _=>propext ⟨fun h=>h.out,fun h=>⟨h⟩⟩
theorem agZ{X:Ctx}{ops:Array Oper}{K:St→Prop}{st:St}(h:K st):uD X ops .nil K st:=⟨h⟩
theorem agX{X:Ctx}{ops:Array Oper}{i:Nat}{t:OT}{o:Oper}{K:St→Prop}{st:St}(ho:ops[i]? =some o)(h:iE X ops o st (uD X ops t K)):uD X ops (.cons i t) K st:=by
 rw[WQ] at h
 refine⟨?_⟩
 show(match ops[i]? with
  |some o=>iE X ops o st fun st'=>opsT X ops t st' K
  |none=>False)
 rw[ho]
 exact h
theorem agY{X:Ctx}{ops:Array Oper}{i:Nat}{t r:OT}{o:Oper}{K:St→Prop}{st:St}(ho:ops[i]? =some o)(h:iE X ops o st (uD X ops t K))(h2:uD X ops r K st):uD X ops (.fork i t r) K st:=by
 rw[WQ] at h
 refine⟨?_⟩
 show(match ops[i]? with
  |some o=>iE X ops o st fun st'=>opsT X ops t st' K
  |none=>False)∧opsT X ops r st K
 rw[ho]
 exact⟨h,h2.out⟩
theorem acE{P:Program}{w0:World}{F0 lent:Nat→Prop}{β0:Nat→Option Value}{ops:Array Oper}{K:St→Prop}{st:St}(order:OT)(hm:P.follows .mixedOrders=true)(hs:ops.toList.all (fun o=>Gj o.op)=true)(hB:yx ops order ops.size (Array.replicate ops.size false) []=true)
 (h:uD ⟨P,w0,F0,lent,β0⟩ ops order K st):jf ⟨P,w0,F0,lent,β0⟩ ops K st:=acD order hm hs hB h.out
end Go.Eng
