/-
  Contracts of functions of the program and of the reference, and plain laws: a bundle of texts.
  No conditions.
-/
import Derived.Test.YtocoppijdodffaaGreatDoorMF0
import Derived.Test.YtocoppijdodffaaGreatDoorWF0
set_option linter.unusedVariables false
set_option linter.unusedSimpArgs false
set_option maxHeartbeats 4000000
namespace Go.Eng
open Go Go.RowKit Go.Proofs
set_option maxRecDepth 100000
def yM(a b:aV):Bool:=(a.kR==b.kR)&&(decide (b.dK=a.dK)||decide (b.dK<a.dK+a.iZ))
def lT(a:aV)(i:Nat):List aV→Nat→List (List Int)
 |[],_=>[]
 |b::r,k=>(if yM a b=true then [[(i:Int),(k:Int)]] else [])++lT a i r (k+1)
def fA:List aV→Nat→List (List Int)
 |[],_=>[]
 |a::r,i=>lT a i r (i+1)++fA r (i+1)
theorem drop_at{α:Type}{a:List α}{k:Nat}{x:α}(hx:a[k]? =some x):a.drop k=x::a.drop (k+1):=
 (List.getElem?_eq_some_iff.1 hx).2▸List.drop_eq_getElem_cons (List.getElem?_eq_some_iff.1 hx).1
theorem Qd{C:List aV}{a b:aV}{i k:Nat}(hb:C[k]? =some b)(h:yM a b=true):lT a i (C.drop k) k=[(i:Int),(k:Int)]::lT a i (C.drop (k+1)) (k+1):=by
 rw[drop_at hb,lT,if_pos h];rfl
theorem Qc{C:List aV}{a b:aV}{i k:Nat}(hb:C[k]? =some b)(h:yM a b=false):lT a i (C.drop k) k=lT a i (C.drop (k+1)) (k+1):=by
 rw[drop_at hb,lT,h];rfl
theorem P9{C:List aV}{a:aV}{i k:Nat}(h:C.length≤k):lT a i (C.drop k) k=[]:=by
 rw[List.drop_of_length_le h];rfl
theorem Qg{C:List aV}{a:aV}{i:Nat}(ha:C[i]? =some a):fA (C.drop i) i=lT a i (C.drop (i+1)) (i+1)++fA (C.drop (i+1)) (i+1):=by
 rw[drop_at ha,fA]
theorem Qe{C:List aV}{i:Nat}(h:C.length≤i):fA (C.drop i) i=[]:=by
 rw[List.drop_of_length_le h];rfl
theorem Qa(a:aV)(i:Nat): ∀(r:List aV) (k:Nat),(lT a i r k).length≤r.length
 |[],_=>by simp[lT]
 |b::r,k=>by
  have h:=Qa a i r (k+1)
  simp only[lT,List.length_append,List.length_cons]
  split<;>simp<;>omega
theorem Dk: ∀(r:List aV) (i:Nat),r.length≤32→(fA r i).length≤32*r.length
 |[],_,_=>by simp[fA]
 |a::r,i,hl=>by
  have h:=Dk r (i+1) (by simp at hl;omega)
  have h2:=Qa a i r (i+1)
  simp only[fA,List.length_append,List.length_cons] at hl⊢
  omega
def UU(n:Nat)(s:List Int):Prop:= ∃i k:Nat,s=[(i:Int),(k:Int)]∧i<n∧k<n
theorem Qb(a:aV)(i n:Nat)(hi:i<n): ∀(r:List aV) (k:Nat),k+r.length≤n→ ∀s∈lT a i r k,UU n s
 |[],_,_,s,h=>by cases h
 |b::r,k,hl,s,h=>by
  simp only[List.length_cons] at hl
  rw[lT] at h
  rcases List.mem_append.1 h with h|h
  ·split at h
   ·rcases List.mem_singleton.1 h with rfl
    exact⟨i,k,rfl,hi,by omega⟩
   ·cases h
  ·exact Qb a i n hi r (k+1) ah s h
theorem Jh(n:Nat): ∀(r:List aV) (i:Nat),i+r.length≤n→ ∀s∈fA r i,UU n s
 |[],_,_,s,h=>by cases h
 |a::r,i,hl,s,h=>by
  simp only[List.length_cons] at hl
  rw[fA] at h
  rcases List.mem_append.1 h with h|h
  ·exact Qb a i n ah r (i+1) ah s h
  ·exact Jh n r (i+1) ah s h
def fD(S:List aY):Nat→Nat→Int→Nat→List Int→Int
 |0,p,_,_,_=>if p<S.length then 5 else 0
 |n+1,p,t,e,c=>match S[p]? with
  |none=>0
  |some x=>
   if x.bT=2 then(if 7200000<t+x.fValue then 6 else fD S n (p+1) (t+x.fValue) e c)
   else if x.bT=3 then(if e=64 then 5 else fD S n (p+1) t (e+1) c)
   else if x.bT=4 then(if c.getD p 0<x.fValue then fD S n (dV (gY x.fName) S).toNat t e (c.set p (c.getD p 0+1)) else fD S n (p+1) t e (c.set p 0))
   else if x.bT=5 then 0
   else fD S n (p+1) t e c
def lJ(S:List aY)(b:Int):Int:=fD S b.toNat 0 0 0 (List.replicate S.length 0)
section
variable {S:List aY} {n p e:Nat} {t:Int} {c:List Int} {x:aY}
theorem Gy(h: ¬p<S.length):fD S n p t e c=0:=by
 cases n with
 |zero=>rw[fD,if_neg h]
 |succ n=>rw[fD,List.getElem?_eq_none ah]
theorem VK(h:p<S.length):fD S 0 p t e c=5:=by rw[fD,if_pos h]
theorem Nk(hx:S[p]? =some x)(hk:x.bT=2)(h:7200000<t+x.fValue):fD S (n+1) p t e c=6:=by simp[fD,hx,hk,h]
theorem Nq(hx:S[p]? =some x)(hk:x.bT=2)(h: ¬7200000<t+x.fValue):fD S (n+1) p t e c=fD S n (p+1) (t+x.fValue) e c:=by simp[fD,hx,hk,h]
theorem Nl(hx:S[p]? =some x)(hk:x.bT=3)(h:e=64):fD S (n+1) p t e c=5:=by simp[fD,hx,hk,h]
theorem Nc(hx:S[p]? =some x)(hk:x.bT=3)(h: ¬e=64):fD S (n+1) p t e c=fD S n (p+1) t (e+1) c:=by simp[fD,hx,hk,h]
theorem Nh{v:Int}(hx:S[p]? =some x)(hk:x.bT=4)(hv:c[p]? =some v)(h:v<x.fValue):fD S (n+1) p t e c=fD S n (dV (gY x.fName) S).toNat t e (c.set p (v+1)):=by
 simp[fD,hx,hk,hv,h]
theorem Np{v:Int}(hx:S[p]? =some x)(hk:x.bT=4)(hv:c[p]? =some v)(h: ¬v<x.fValue):fD S (n+1) p t e c=fD S n (p+1) t e (c.set p 0):=by
 simp[fD,hx,hk,hv,h]
theorem Ew(hx:S[p]? =some x)(hk:x.bT=5):fD S (n+1) p t e c=0:=by simp[fD,hx,hk]
theorem Nj(hx:S[p]? =some x)(h2: ¬x.bT=2)(h3: ¬x.bT=3)(h4: ¬x.bT=4)(h5: ¬x.bT=5):fD S (n+1) p t e c=fD S n (p+1) t e c:=by simp[fD,hx,h2,h3,h4,h5]
end
theorem agu(S:List aY): ∀(n p:Nat) (t:Int) (e:Nat) (c:List Int),fD S n p t e c=0∨fD S n p t e c=5∨fD S n p t e c=6:=by
 intro n
 induction n with
 |zero=>intro p t e c;unfold fD;split<;>omega
 |succ n ih=>
  intro p t e c
  unfold fD
  split
  ·omega
  ·(repeat' split)<;>first|omega|exact ih _ _ _ _
theorem VJ(S:List aY)(b:Int):lJ S b=0∨lJ S b=5∨lJ S b=6:=agu S _ _ _ _ _
theorem V5{S:List aY}(h:kV S=true){k:Nat}{x:aY}(hx:S[k]? =some x):(x.bT=2→1≤x.fValue∧x.fValue≤7200000)∧(x.bT=4→(1≤x.fValue∧x.fValue≤100)∧0≤dV (gY x.fName) S):=by
 simp only[kV,Bool.and_eq_true] at h
 have h2:=Ig h.2 hx
 simp only[qH,Bool.and_eq_true] at h2
 refine⟨fun hk=> ?_,fun hk=> ?_⟩
 ·have h3:=h2.1
  rw[Nu hk] at h3
  simp only[inB,Bool.and_eq_true,decide_eq_true_eq] at h3
  exact h3.2
 ·have h3:=h2.1
  rw[Nv hk] at h3
  simp only[inB,Bool.and_eq_true,decide_eq_true_eq] at h3
  have h4:=h2.2.2
  rw[hk] at h4
  simp at h4
  exact⟨h3.2,h4⟩
theorem zB{S:List aY}(h:kV S=true):S.length≤40:=by
 simp only[kV,Bool.and_eq_true,decide_eq_true_eq] at h
 exact h.1
theorem SG{α:Type}(q:α→Bool)(a:List α): -1≤dV q a∧dV q a<a.length:=by
 unfold dV
 split<;>omega
def nM(S:List aY):List (List UInt8):=(S.filter fun x=>decide (x.bT=3)).map (·.fName)
def dF(S:List aY):List (List UInt8):=(nM S).foldl jw []
theorem Q5{S:List aY}{k:Nat}{x:aY}(hx:S[k]? =some x)(h:x.bT=3):nM (S.take (k+1))=nM (S.take k)++[x.fName]:=by
 unfold nM
 rw[List.take_add_one,hx,Option.toList_some,List.filter_append,List.map_append]
 simp[h]
theorem QZ{S:List aY}{k:Nat}{x:aY}(hx:S[k]? =some x)(h: ¬x.bT=3):nM (S.take (k+1))=nM (S.take k):=by
 unfold nM
 rw[List.take_add_one,hx,Option.toList_some,List.filter_append,List.map_append]
 simp[h]
theorem JG(S:List aY):(nM S).length≤S.length:=by
 unfold nM
 rw[List.length_map]
 exact List.length_filter_le _ _
theorem ada{S:List aY}{k:Nat}{x:aY}(hx:S[k]? =some x)(h:x.bT=3):dF (S.take (k+1))=jw (dF (S.take k)) x.fName:=by
 unfold dF
 rw[Q5 hx h,List.foldl_append]
 rfl
theorem ac9{S:List aY}{k:Nat}{x:aY}(hx:S[k]? =some x)(h: ¬x.bT=3):dF (S.take (k+1))=dF (S.take k):=by
 unfold dF
 rw[QZ hx h]
theorem FD(S:List aY):(dF S).length≤S.length:=by
 have h:=Rf (nM S) []
 have h2:=JG S
 unfold dF
 simp only[List.length_nil] at h
 omega
theorem ael{a:List (List UInt8)}{t:List UInt8}(h:a[dN Op.bytesLess a t]? =some t):jw a t=a:=by
 have hf:qo Op.bytesLess (fun x y=>x==y) a t=true:=by simp[qo,h]
 unfold jw insL mQ
 rw[if_pos hf,←drop_at h,List.take_append_drop]
theorem KQ{a:List (List UInt8)}{t:List UInt8}(h: ∀x,a[dN Op.bytesLess a t]? =some x→x≠t):jw a t=a.take (dN Op.bytesLess a t)++t::a.drop (dN Op.bytesLess a t):=by
 have hf: ¬qo Op.bytesLess (fun x y=>x==y) a t=true:=by
  intro h2
  unfold qo at h2
  cases h3:a[dN Op.bytesLess a t]? with
  |none=>rw[h3] at h2;simp at h2
  |some x=>
   rw[h3] at h2
   simp at h2
   exact h x h3 h2.symm
 unfold jw insL mQ
 rw[if_neg hf]
def Fj:List (List UInt8):=[[111,107],[105,110,118,97,108,105,100],[114,97,110,103,101],[110,111,116,45,102,111,117,110,100],[101,120,105,115,116,115],[102,117,108,108],[115,116,97,116,101],[111,114,100,101,114],[115,121,110,116,97,120],[102,111,114,109,97,116],[99,104,101,99,107,115,117,109],[116,114,117,110,99,97,116,101,100]]
def Ad(c:Int):List UInt8:=if 0≤c∧c≤11 then Fj.getD c.toNat [] else []
def UC:aV:=⟨[],0,0,[],0,0⟩
def Ef(C:List aV)(s:List Int):gU:=⟨2,(C.getD (s.getD 0 0).toNat UC).fId,(C.getD (s.getD 1 0).toNat UC).fId⟩
def qX(t:List UInt8)(f:cu):Bool:=f.fName==t
def Ll(F:List cu)(c:aV):Bool:=decide (dV (qX c.kR) F<0)
def mg(F:List cu)(C:List aV):List gU:=(C.filter (Ll F)).map fun c=>⟨4,c.fId,c.kR⟩
def runT:List UInt8:=[114,117,110]
def WT:List UInt8:=[117,110,107,110,111,119,110]
def zy(c:Int):List gU:=if c=0 then [] else [⟨3,runT,Ad c⟩]
def NM(C:List aV)(n:List UInt8):Bool:=decide (dV (jy n) C<0)
def kY(C:List aV)(N:List (List UInt8)):List gU:=(N.filter (NM C)).map fun n=>⟨3,n,WT⟩
def pO(h:bM):List gU:=(fA h.aX 0).map (Ef h.aX)
def wP(h:bM):List gU:=pO h++mg h.eF h.aX
def kC(h:bM):List gU:=wP h++zy (lJ h.bD h.iL)
def sG(h:bM):List gU:=kC h++kY h.aX (dF h.bD)
theorem WM{F:List cu}{C:List aV}{k:Nat}{c:aV}(hc:C[k]? =some c)(h:dV (qX c.kR) F<0):mg F (C.take (k+1))=mg F (C.take k)++[⟨4,c.fId,c.kR⟩]:=by
 unfold mg
 rw[List.take_add_one,hc,Option.toList_some,List.filter_append,List.map_append]
 simp[Ll,h]
theorem WL{F:List cu}{C:List aV}{k:Nat}{c:aV}(hc:C[k]? =some c)(h: ¬dV (qX c.kR) F<0):mg F (C.take (k+1))=mg F (C.take k):=by
 unfold mg
 rw[List.take_add_one,hc,Option.toList_some,List.filter_append,List.map_append]
 simp[Ll,h]
theorem EC(F:List cu)(C:List aV):(mg F C).length≤C.length:=by
 unfold mg
 rw[List.length_map]
 exact List.length_filter_le _ _
theorem G5{C:List aV}{N:List (List UInt8)}{k:Nat}{n:List UInt8}(hn:N[k]? =some n)(h:dV (jy n) C<0):kY C (N.take (k+1))=kY C (N.take k)++[⟨3,n,WT⟩]:=by
 unfold kY
 rw[List.take_add_one,hn,Option.toList_some,List.filter_append,List.map_append]
 simp[NM,h]
theorem GZ{C:List aV}{N:List (List UInt8)}{k:Nat}{n:List UInt8}(hn:N[k]? =some n)(h: ¬dV (jy n) C<0):kY C (N.take (k+1))=kY C (N.take k):=by
 unfold kY
 rw[List.take_add_one,hn,Option.toList_some,List.filter_append,List.map_append]
 simp[NM,h]
theorem NP(C:List aV)(N:List (List UInt8)):(kY C N).length≤N.length:=by
 unfold kY
 rw[List.length_map]
 exact List.length_filter_le _ _
end Go.Eng
namespace Go.Eng
open Go Go.RowKit Go.Proofs
set_option maxRecDepth 100000
theorem TS{X:Ctx}{b:Code}{Q:DExit→St→Prop}{lU:List (Nat×D)}{nt:Nat}{lX:List Obj}{g:Nat→Option (List D)}{pin:Nat}{α1 α2 α3 α4 α5 α6:Type}
 (E:α1→α2→α3→α4→α5→α6→List (Nat×D))(O:α1→α2→α3→α4→α5→α6→List Obj)(inv:α1→α2→α3→α4→α5→α6→Prop)(μ:α1→α2→α3→α4→α5→α6→Nat)(a1:α1)(a2:α2)(a3:α3)(a4:α4)(a5:α5)(a6:α6)
 (h0:inv a1 a2 a3 a4 a5 a6)(hw:Weak ⟨lU,nt,lX,g,pin⟩ ⟨E a1 a2 a3 a4 a5 a6,nt,O a1 a2 a3 a4 a5 a6,g,pin⟩)
 (round: ∀x1 x2 x3 x4 x5 x6,inv x1 x2 x3 x4 x5 x6→ ∀Q':DExit→St→Prop,(∀st',(∃y1 y2 y3 y4 y5 y6,inv y1 y2 y3 y4 y5 y6∧μ y1 y2 y3 y4 y5 y6<μ x1 x2 x3 x4 x5 x6∧Weak st' ⟨E y1 y2 y3 y4 y5 y6,nt,O y1 y2 y3 y4 y5 y6,g,pin⟩)→Q' .normal st')→(∀i st',Q (.exit i) st'→Q' (.exit i) st')→
   (∀st',Q .ret st'→Q' .ret st')→awp X b Q' ⟨E x1 x2 x3 x4 x5 x6,nt,O x1 x2 x3 x4 x5 x6,g,pin⟩):iP X (.loop b) Q ⟨lU,nt,lX,g,pin⟩:=
 aQ (γ:=α1×α2×α3×α4×α5×α6) (fun x=>E x.1 x.2.1 x.2.2.1 x.2.2.2.1 x.2.2.2.2.1 x.2.2.2.2.2) (fun x=>O x.1 x.2.1 x.2.2.1 x.2.2.2.1 x.2.2.2.2.1 x.2.2.2.2.2) (fun x=>inv x.1 x.2.1 x.2.2.1 x.2.2.2.1 x.2.2.2.2.1 x.2.2.2.2.2) (fun x=>μ x.1 x.2.1 x.2.2.1 x.2.2.2.1 x.2.2.2.2.1 x.2.2.2.2.2) (a1,a2,a3,a4,a5,a6) h0 hw
  (fun x hx Q' hn he hr=>round x.1 x.2.1 x.2.2.1 x.2.2.2.1 x.2.2.2.2.1 x.2.2.2.2.2 hx Q' (fun st' ⟨y1,y2,y3,y4,y5,y6,h1,h2,h3⟩=>hn st' ⟨(y1,y2,y3,y4,y5,y6),h1,h2,h3⟩) he hr)
theorem Rep.aez{F:Nat→Prop}{β:Nat→Option Value}{w:World}{v:Value}{c0 c1 c2 c3 b:D}(h:Rep F β w v (.aN [.agg [c0,c1,c2,c3],b])):Rep F β w v (.aN [.agg [.junk, .junk, .junk, .junk],b]):=by
 obtain⟨cs,rfl,hl,hr⟩:=h.pz
 refine .aN cs _ pI (fun i hi=> ?_)
 match i with
 |0=>
  have h0:Rep F β w (cs.getD 0 undef) (.agg [c0,c1,c2,c3]):=hr 0 fB
  obtain⟨us,hus,hlen,h1,hrr⟩:=h0.jM
  show Rep F β w (cs.getD 0 undef) (.agg [.junk, .junk, .junk, .junk])
  rw[hus]
  refine .agg us _ (by simpa using hlen) h1 (fun j hj=> ?_)
  have e: [D.junk,D.junk,D.junk,D.junk].getD j .junk= .junk:=by
   match j with
   |0=>rfl
   |1=>rfl
   |2=>rfl
   |3=>rfl
   |j+4=>rfl
  rw[e]
  exact .ro _ _ (.junk _)
 |1=>exact hr 1 fB
 |i+2=>simp at hi;omega
theorem MW{X:Ctx}{G:Nat→Option (List D)}{pin:Nat}{st:St}{c0 c1 c2 c3 b:D}{post:D→List Obj→Prop}(h:gI X G pin st (.aN [.agg [.junk, .junk, .junk, .junk],b]) post):gI X G pin st (.aN [.agg [c0,c1,c2,c3],b]) post:=
 gI.mk fun β a w v hr hv=>h.use β a w v hr hv.aez
theorem Rep.aey{F:Nat→Prop}{β:Nat→Option Value}{w:World}{v:Value}{a b:D}(h:Rep F β w v (.aN [a,b])):Rep F β w v (.aN [.junk,b]):=by
 obtain⟨cs,rfl,hl,hr⟩:=h.pz
 refine .aN cs _ pI (fun i hi=> ?_)
 match i with
 |0=>exact .ro _ _ (.junk _)
 |1=>exact hr 1 fB
 |i+2=>simp at hi;omega
theorem Gv{X:Ctx}{G:Nat→Option (List D)}{pin:Nat}{st:St}{a b:D}{post:D→List Obj→Prop}(h:gI X G pin st (.aN [.junk,b]) post):gI X G pin st (.aN [a,b]) post:=
 gI.mk fun β a w v hr hv=>h.use β a w v hr hv.aey
def QO(e:Int×List UInt8):List D:=[.int .i64 e.1, .str e.2]
def X5(b:Bool):List D:=[.bool b]
def D6:D:= .v (.slice none 0 0)
def Dy(c:List Int):Prop:= ∀(k:Nat) v,c[k]? =some v→0≤v∧v≤100
theorem Az{c:List Int}(h:Dy c)(k:Nat){v:Int}(hv:0≤v∧v≤100):Dy (c.set k v):=by
 intro j x hx
 rw[List.getElem?_set] at hx
 split at hx
 ·split at hx
  ·cases hx;exact hv
  ·cases hx
 ·exact h j x hx
theorem RD(n:Nat):Dy (List.replicate n 0):=by
 intro j x hx
 rw[List.getElem?_replicate] at hx
 split at hx
 ·cases hx;omega
 ·cases hx
set_option maxHeartbeats 16000000 in
theorem Zl(S:List aY)(b:Int)(hv:kV S=true)(hb0:1≤b∧b≤20000):ak Tryz.prog 227 G0 0 [] [.sl 3 (S.map dH), .int .i64 b] (fun d os=>d= .aN [.agg [.junk, .junk, .junk, .junk], .int .i64 (lJ S b)]∧os=[]):=by
 have hv2:inB b 1 20000=true:=by simp[inB];omega
 have hsl:=zB hv
 refine aF Tryz.func227 rfl aB rfl (fun w0 F0 lent β0=> ?_)
 repeat'(first|refine sC ?_|((with_reducible refine aj ?_);first|(refine sS ?_;intro Q' hn he hr)|refine sA ?_)|(refine sH ?_;clear hn he hr Q')|((conv=>whnf);first|refine sK ?_|(refine sB ?_;repeat'(refine aA ?_ ?_<;>intro hb<;>try exact cls))|((with_reducible refine aH ?_);first|(refine aG (IJ S) rfl rfl ?_)|(refine aG (iQ _ _ _) rfl rfl ?_))|refine sP ?_|(refine sL ?_;intro hlen)))
 refine TS (fun(n p:Nat) (t:Int) (ev:List (Int×List UInt8)) (rb:List Bool) (c:List Int)=>[(0,.sl 3 (S.map dH)),(1,.int .i64 b),(4,.hp 0 0),(6,.hp 2 0),(7,.h 3),(8,.int .i64 p)]) (fun n p t ev rb c=>[.box [D6, .int .i64 0, .int .i64 0,D6], .row 4 1 (rb.map X5), .box [.h 4, .int .i64 t, .int .i64 (b-n), .h 1], .row 2 1 (c.map encI), .row 330 2 (ev.map QO)]) (fun n p t ev rb c=>fD S n p t ev.length c=lJ S b∧(n:Int)≤b∧(0≤t∧t≤7200000)∧(ev.length≤64∧rb.length=S.length∧c.length=S.length∧Dy c∧p≤S.length)) (fun n _ _ _ _ _=>n) b.toNat 0 0 [] (List.replicate S.length false) (List.replicate S.length 0) ⟨rfl,by omega,by omega,by simp,by simp,by simp,RD _,by omega⟩ (by refine Weak.trans (Xa 2 0 330 2 rfl rfl rfl rfl) (aC rfl rfl ?_ ?_);(simp only[List.map_replicate];rw[show b-((b.toNat:Nat):Int)=0 by omega];rfl);exact⟨rfl,rfl,rfl,rfl,rfl,rfl,trivial⟩) (fun n p t ev rb c hk Q' hn he hr=> ?_)
 obtain⟨hk1,hk2,hk3,hk4,hk5,hk6,kK,hk8⟩:=hk
 by_cases hpl:p<S.length
 ·obtain⟨ln,hx0⟩: ∃ln,S[p]? =some ln:=⟨_,List.getElem?_eq_getElem hpl⟩
  obtain⟨v,hcv⟩: ∃v,c[p]? =some v:=⟨_,List.getElem?_eq_getElem ah⟩
  obtain⟨hl2,hl4⟩:=V5 hv hx0
  have hcb:=kK _ _ hcv
  have hix:=SG (gY ln.fName) S
  cases n with
  |zero=>
   rw[VK hpl] at hk1
   repeat'(first|refine sC ?_|((with_reducible refine aj ?_);first|(refine sS ?_;intro Q' hn he hr)|refine sA ?_)|(refine sH ?_;clear hn he hr Q')|((conv=>whnf);first|refine sK ?_|(refine sB ?_;repeat'(refine aA ?_ ?_<;>intro hb<;>try exact cls))|((with_reducible refine bP ?_);(refine MW ?_;refine au [] rfl rfl rfl ⟨?_,rfl⟩))|(refine sL ?_;intro hlen)))
   all_goals first
    |(exfalso;omega)
    |(rw[←hk1];rfl)
  |succ n=>
   have hst:b-(n:Int)=b-((n+1:Nat):Int)+1:=by omega
   repeat'(first|refine sC ?_|((with_reducible refine aj ?_);first|(refine sS ?_;intro Q' hn he hr)|refine sA ?_)|(refine sH ?_;clear hn he hr Q')|refine sO ?_|((conv=>whnf);first|refine sK ?_|(refine sB ?_;repeat'(refine aA ?_ ?_<;>intro hb<;>try exact cls))|(refine aJ.the hx0 ?_)|(refine aJ.the hcv ?_)|((with_reducible refine aH ?_);(refine aG (IQ S ln.fName) rfl rfl ?_))|((with_reducible refine bP ?_);(refine MW ?_;refine au [] rfl rfl rfl ⟨?_,rfl⟩))|refine sP ?_|(refine sE ?_;intro x hx)|(refine sL ?_;intro hlen)|refine sD ?_))
   all_goals first
    |(exfalso;omega)
    |(rw[←hk1,Nk hx0 aO ah];rfl)
    |(rw[←hk1,Nl hx0 aO ah];rfl)
    |(rw[←hk1,Ew hx0 aO];rfl)
    |exact⟨n,p+1,t+ln.fValue,ev,rb.set p true,c,⟨by rw[←hk1,Nq hx0 aO ah],by omega,by omega,hk4,by rw[List.length_set];exact hk5,hk6,kK,by omega⟩,by omega,BQ⟩
    |exact⟨n,p+1,t,ev++[(t,ln.fName)],rb.set p true,c,⟨by rw[←hk1,Nc hx0 aO ah,List.length_append];rfl,by omega,by omega,by rw[List.length_append];simp;omega,by rw[List.length_set];exact hk5,hk6,kK,by omega⟩,by omega,(by refine aC rfl rfl (by rw[hst,List.map_set,List.map_append];rfl) ?_;((repeat'(first|exact trivial|refine And.intro ?_ ?_))<;>(first|rfl|(conv=>rhs;whnf)<;>(first|rfl|(refine congrArg (D.int _) ?_;omega)))))⟩
    |exact⟨n,(dV (gY ln.fName) S).toNat,t,ev,rb.set p true,c.set p (v+1),⟨by rw[←hk1,Nh hx0 aO hcv ah],by omega,by omega,hk4,by rw[List.length_set];exact hk5,by rw[List.length_set];exact hk6,Az kK _ Oa,by omega⟩,by omega,(by refine aC rfl rfl (by rw[hst,List.map_set,List.map_set];rfl) ?_;((repeat'(first|exact trivial|refine And.intro ?_ ?_))<;>(first|rfl|(conv=>rhs;whnf)<;>(first|rfl|(refine congrArg (D.int _) ?_;omega)))))⟩
    |exact⟨n,p+1,t,ev,rb.set p true,c.set p 0,⟨by rw[←hk1,Np hx0 aO hcv ah],by omega,by omega,hk4,by rw[List.length_set];exact hk5,by rw[List.length_set];exact hk6,Az kK _ ah,by omega⟩,by omega,(by refine aC rfl rfl (by rw[hst,List.map_set,List.map_set];rfl) ?_;((repeat'(first|exact trivial|refine And.intro ?_ ?_))<;>(first|rfl|(conv=>rhs;whnf)<;>(first|rfl|(refine congrArg (D.int _) ?_;omega)))))⟩
    |exact⟨n,p+1,t,ev,rb.set p true,c,⟨by rw[←hk1,Nj hx0 aO aO aO aO],by omega,by omega,hk4,by rw[List.length_set];exact hk5,hk6,kK,by omega⟩,by omega,BQ⟩
    |skip
 ·rw[Gy hpl] at hk1
  repeat'(first|refine sC ?_|((with_reducible refine aj ?_);first|(refine sS ?_;intro Q' hn he hr)|refine sA ?_)|(refine sH ?_;clear hn he hr Q')|((conv=>whnf);first|refine sK ?_|(refine sB ?_;repeat'(refine aA ?_ ?_<;>intro hb<;>try exact cls))|((with_reducible refine bP ?_);(refine MW ?_;refine au [] rfl rfl rfl ⟨?_,rfl⟩))|(refine sL ?_;intro hlen)|(refine sH ?_;clear hn he hr Q')))
  rw[←hk1]
  rfl
theorem OB(S:List aY)(b:Int)(hv:kV S=true)(hb0:1≤b∧b≤20000):ak Tryz.prog 162 G0 0 [] [.sl 3 (S.map dH), .int .i64 b] (fun d os=>d= .aN [.junk, .int .i64 (lJ S b)]∧os=[]):=by
 refine aF Tryz.func162 rfl aB rfl (fun w0 F0 lent β0=> ?_)
 repeat'(first|refine sC ?_|((with_reducible refine aj ?_);first|(refine sS ?_;intro Q' hn he hr)|refine sA ?_)|(refine sH ?_;clear hn he hr Q')|((conv=>whnf);first|refine sK ?_|((with_reducible refine aH ?_);(refine aG (Zl S b hv hb0) rfl rfl ?_))|(refine au [] rfl rfl rfl ⟨?_,rfl⟩;conv=>lhs;whnf)))
 all_goals rfl
end Go.Eng
namespace Go.Eng
open Go Go.RowKit Go.Proofs
set_option maxRecDepth 100000
def fC(x:Int):List Int→Bool→List Int
 |[],b=>if b=true then [] else [x]
 |y::r,true=>y::fC x r true
 |y::r,false=>if x≤y then(if x<y then [x] else [])++y::fC x r true else y::fC x r false
theorem Gs(x:Int): ∀(a:List Int) (b:Bool),(fC x a b).length≤a.length+1
 |[],b=>by unfold fC;split<;>simp
 |y::r,true=>by
  have:=Gs x r true
  simp only[fC,List.length_cons];omega
 |y::r,false=>by
  have h1:=U9 x r
  have h2:=Gs x r false
  unfold fC
  split
  ·simp only[List.length_append,List.length_cons,h1]
   split<;>simp<;>omega
  ·simp only[List.length_cons];omega
where U9 (x:Int): ∀(a:List Int),(fC x a true).length=a.length
 |[]=>by simp[fC]
 |y::r=>by simp[fC,U9 x r]
theorem afV{x:Int}{a:List Int}{k:Nat}(h:a.length≤k)(b:Bool):fC x (a.drop k) b=if b=true then [] else [x]:=by
 rw[List.drop_of_length_le h,fC]
theorem afY{x y:Int}{a:List Int}{k:Nat}(hy:a[k]? =some y):fC x (a.drop k) true=y::fC x (a.drop (k+1)) true:=by
 rw[drop_at hy,fC]
theorem afW{x y:Int}{a:List Int}{k:Nat}(hy:a[k]? =some y)(h: ¬x≤y):fC x (a.drop k) false=y::fC x (a.drop (k+1)) false:=by
 rw[drop_at hy,fC,if_neg h]
theorem afZ{x y:Int}{a:List Int}{k:Nat}(hy:a[k]? =some y)(h:x≤y)(h2: ¬x<y):fC x (a.drop k) false=y::fC x (a.drop (k+1)) true:=by
 rw[drop_at hy,fC,if_pos h,if_neg h2];rfl
theorem afX{x y:Int}{a:List Int}{k:Nat}(hy:a[k]? =some y)(h2:x<y):fC x (a.drop k) false=x::y::fC x (a.drop (k+1)) true:=by
 rw[drop_at hy,fC,if_pos ah,if_pos h2];rfl
set_option maxHeartbeats 8000000 in
theorem ZX(a:List Int)(x0:Int)(hl:a.length≤100000):ak Tryz.prog 254 G0 0 [] [.sl 1 (a.map encI), .int .i64 x0] (fun d os=>d= .sl 1 ((fC x0 a false).map encI)∧os=[]):=by
 refine aF Tryz.func254 rfl aB rfl (fun w0 F0 lent β0=> ?_)
 repeat'(first|refine sC ?_|((with_reducible refine aj ?_);first|(refine sS ?_;intro Q' hn he hr)|refine sA ?_)|(refine sH ?_;clear hn he hr Q')|((conv=>whnf);refine sK ?_))
 refine qY (fun(k:Nat) (b:Bool) (out:List Int)=>[(0,.sl 1 (a.map encI)),(1,.int .i64 x0),(5,.h 0),(6,.bool b),(7,.int .i64 k)]) (fun _ _ out=>[.row 2 1 (out.map encI)]) (fun k b out=>k≤a.length∧out++fC x0 (a.drop k) b=fC x0 a false) (fun k _ _=>a.length-k) 0 false [] ⟨by omega,rfl⟩ aI (fun k b out hk Q' hn he hr=> ?_)
 obtain⟨hk1,hk3⟩:=hk
 have hk2:out.length≤100001:=by
  have h1:=congrArg List.length hk3
  have h2:=Gs x0 a false
  rw[List.length_append] at h1
  omega
 by_cases hkl:k<a.length
 ·obtain⟨y,hy0⟩: ∃y,a[k]? =some y:=⟨_,List.getElem?_eq_getElem hkl⟩
  cases b with
  |false=>
   repeat'(first|refine sC ?_|((with_reducible refine aj ?_);first|(refine sS ?_;intro Q' hn he hr)|refine sA ?_)|(refine sH ?_;clear hn he hr Q')|((conv=>whnf);first|refine sK ?_|(refine sB ?_;repeat'(first|refine sb0 ?_|(refine aA ?_ ?_<;>intro hb<;>try exact cls)))|(refine aJ.the hy0 ?_)|refine sP ?_|(refine sL ?_;intro hlen)))
   all_goals first
    |exact⟨k+1,true,out++[x0]++[y],⟨by omega,by rw[←hk3,afX hy0 ah];simp⟩,by omega,Hu⟩
    |exact⟨k+1,true,out++[y],⟨by omega,by rw[←hk3,afZ hy0 ah ah];simp⟩,by omega,Hu⟩
    |exact⟨k+1,false,out++[y],⟨by omega,by rw[←hk3,afW hy0 ah];simp⟩,by omega,Hu⟩
  |true=>
   rw[afY hy0] at hk3
   repeat'(first|refine sC ?_|((with_reducible refine aj ?_);first|(refine sS ?_;intro Q' hn he hr)|refine sA ?_)|(refine sH ?_;clear hn he hr Q')|((conv=>whnf);first|refine sK ?_|(refine sB ?_;repeat'(first|refine sb0 ?_|(refine aA ?_ ?_<;>intro hb<;>try exact cls)))|(refine aJ.the hy0 ?_)|refine sP ?_|(refine sL ?_;intro hlen)))
   all_goals exact⟨k+1,true,out++[y],⟨by omega,by rw[←hk3];simp⟩,by omega,Hu⟩
 ·obtain rfl:k=a.length:=by omega
  rw[afV (Nat.le_refl _)] at hk3
  cases b with
  |false=>
   repeat'(first|refine sC ?_|((with_reducible refine aj ?_);first|(refine sS ?_;intro Q' hn he hr)|refine sA ?_)|(refine sH ?_;clear hn he hr Q')|((conv=>whnf);first|refine sK ?_|(refine sB ?_;repeat'(first|refine sb0 ?_|(refine aA ?_ ?_<;>intro hb<;>try exact cls)))|((with_reducible refine bP ?_);(refine uh 0 rfl (Nat.zero_le _) ?_;refine au [] rfl rfl rfl ⟨?_,rfl⟩))|refine sP ?_|(refine sL ?_;intro hlen)|(refine sH ?_;clear hn he hr Q')))
   rw[←hk3,if_neg fB,List.map_append]
   rfl
  |true=>
   repeat'(first|refine sC ?_|((with_reducible refine aj ?_);first|(refine sS ?_;intro Q' hn he hr)|refine sA ?_)|(refine sH ?_;clear hn he hr Q')|((conv=>whnf);first|refine sK ?_|(refine sB ?_;repeat'(first|refine sb0 ?_|(refine aA ?_ ?_<;>intro hb<;>try exact cls)))|((with_reducible refine bP ?_);(refine uh 0 rfl (Nat.zero_le _) ?_;refine au [] rfl rfl rfl ⟨?_,rfl⟩))|(refine sL ?_;intro hlen)|(refine sH ?_;clear hn he hr Q')))
   rw[←hk3,if_pos rfl,List.append_nil]
   rfl
theorem ZY(x0:Int):ak Tryz.prog 254 G0 0 [] [D6, .int .i64 x0] (fun d os=>d= .sl 1 ([x0].map encI)∧os=[]):=by
 unfold D6
 refine aF Tryz.func254 rfl aB rfl (fun w0 F0 lent β0=> ?_)
 repeat'(first|refine sC ?_|((with_reducible refine aj ?_);first|(refine sS ?_;intro Q' hn he hr)|refine sA ?_)|(refine sH ?_;clear hn he hr Q')|((conv=>whnf);refine sK ?_))
 refine aQ (fun _:Nat=>[(0,.v (.slice none 0 0)),(1,.int .i64 x0),(5,.h 0),(6,.bool false),(7,.int .i64 0)]) (fun _=>[.row 2 1 []]) (fun _=>True) (fun _=>0) 0 trivial aI (fun k hk Q' hn he hr=> ?_)
 repeat'(first|refine sC ?_|((with_reducible refine aj ?_);first|(refine sS ?_;intro Q' hn he hr)|refine sA ?_)|(refine sH ?_;clear hn he hr Q')|((conv=>whnf);first|refine sK ?_|(refine sB ?_;repeat'(first|refine sb0 ?_|(refine aA ?_ ?_<;>intro hb<;>try exact cls)))|((with_reducible refine bP ?_);(refine uh 0 rfl (Nat.zero_le _) ?_;refine au [] rfl rfl rfl ⟨?_,rfl⟩))|refine sP ?_|(refine sH ?_;clear hn he hr Q')))
 all_goals rfl
def seenD:Option (List Int)→D
 |none=>D6
 |some l=> .sl 1 (l.map encI)
def agC:Option (List Int)→Nat
 |none=>0
 |some l=>l.length
set_option maxHeartbeats 16000000 in
theorem PL(S:List aY)(b:Int)(hv:kV S=true)(hb0:1≤b∧b≤20000):ak Tryz.prog 201 G0 0 [] [.sl 3 (S.map dH), .int .i64 b] (fun d os=>d= .aN [.junk, .int .i64 (lJ S b)]∧os=[]):=by
 have hv2:inB b 1 20000=true:=by simp[inB];omega
 have hsl:=zB hv
 refine aF Tryz.func201 rfl aB rfl (fun w0 F0 lent β0=> ?_)
 repeat'(first|refine sC ?_|((with_reducible refine aj ?_);first|(refine sS ?_;intro Q' hn he hr)|refine sA ?_)|(refine sH ?_;clear hn he hr Q')|((conv=>whnf);first|refine sK ?_|(refine sB ?_;repeat'(refine aA ?_ ?_<;>intro hb<;>try exact cls))|((with_reducible refine aH ?_);first|(refine aG (I5 S) rfl rfl ?_)|(refine aG (iy _ _ _) rfl rfl ?_))|refine sP ?_|(refine sL ?_;intro hlen)))
 refine TS (fun(n p:Nat) (t:Int) (ev:List (Int×List UInt8)) (sn:Option (List Int)) (c:List Int)=>[(0,.sl 3 (S.map dH)),(1,.int .i64 b),(6,.hp 0 0),(7,.h 1),(8,.int .i64 p)]) (fun n p t ev sn c=>[.box [.h 2, .int .i64 t, .int .i64 (b-n),seenD sn], .row 2 1 (c.map encI), .row 330 2 (ev.map QO)]) (fun n p t ev sn c=>fD S n p t ev.length c=lJ S b∧(n:Int)≤b∧(0≤t∧t≤7200000)∧(ev.length≤64∧(agC sn:Int)≤b-n∧c.length=S.length∧Dy c∧p≤S.length)) (fun n _ _ _ _ _=>n) b.toNat 0 0 [] none (List.replicate S.length 0) ⟨rfl,by omega,by omega,by simp,by show((0:Nat):Int)≤_;omega,by simp,RD _,by omega⟩ (by refine Weak.trans (Xa 0 0 330 2 rfl rfl rfl rfl) (aC rfl rfl ?_ ?_);(simp only[List.map_replicate];rw[show b-((b.toNat:Nat):Int)=0 by omega];rfl);exact⟨rfl,rfl,rfl,rfl,rfl,trivial⟩) (fun n p t ev sn c hk Q' hn he hr=> ?_)
 obtain⟨hk1,hk2,hk3,hk4,hk5,hk6,kK,hk8⟩:=hk
 by_cases hpl:p<S.length
 ·obtain⟨ln,hx0⟩: ∃ln,S[p]? =some ln:=⟨_,List.getElem?_eq_getElem hpl⟩
  obtain⟨v,hcv⟩: ∃v,c[p]? =some v:=⟨_,List.getElem?_eq_getElem ah⟩
  obtain⟨hl2,hl4⟩:=V5 hv hx0
  have hcb:=kK _ _ hcv
  have hix:=SG (gY ln.fName) S
  cases n with
  |zero=>
   rw[VK hpl] at hk1
   repeat'(first|refine sC ?_|((with_reducible refine aj ?_);first|(refine sS ?_;intro Q' hn he hr)|refine sA ?_)|(refine sH ?_;clear hn he hr Q')|((conv=>whnf);first|refine sK ?_|(refine sB ?_;repeat'(refine aA ?_ ?_<;>intro hb<;>try exact cls))|((with_reducible refine bP ?_);(refine Gv ?_;refine au [] rfl rfl rfl ⟨?_,rfl⟩))|refine sP ?_|(refine sL ?_;intro hlen)))
   all_goals first
    |(exfalso;omega)
    |(rw[←hk1];rfl)
    |trace_state
  |succ n=>
   have hst:b-(n:Int)=b-((n+1:Nat):Int)+1:=by omega
   cases sn with
   |none=>
    repeat'(first|refine sC ?_|((with_reducible refine aj ?_);first|(refine sS ?_;intro Q' hn he hr)|refine sA ?_)|(refine sH ?_;clear hn he hr Q')|refine sO ?_|((conv=>whnf);first|refine sK ?_|(refine sB ?_;repeat'(refine aA ?_ ?_<;>intro hb<;>try exact cls))|(refine QI 13 [0] aB aB aB ?_)|(refine bn.to (p:Int) ah (wrap64 ah) ?_)|(refine aJ.the hx0 ?_)|(refine aJ.the hcv ?_)|((with_reducible refine aH ?_);first|(refine aG (I4 S ln.fName) rfl rfl ?_)|(refine aG (ZY _) rfl rfl ?_))|((with_reducible refine bP ?_);(refine Gv ?_;refine au [] rfl rfl rfl ⟨?_,rfl⟩))|refine sP ?_|(refine sL ?_;intro hlen)|refine sD ?_))
    all_goals first
     |(exfalso;omega)
     |(rw[←hk1,Nk hx0 aO ah];rfl)
     |(rw[←hk1,Nl hx0 aO ah];rfl)
     |(rw[←hk1,Ew hx0 aO];rfl)
     |exact⟨n,p+1,t+ln.fValue,ev,some [(p:Int)],c,⟨by rw[←hk1,Nq hx0 aO ah],by omega,by omega,hk4,Cc,hk6,kK,by omega⟩,by omega,BR⟩
     |exact⟨n,p+1,t,ev++[(t,ln.fName)],some [(p:Int)],c,⟨by rw[←hk1,Nc hx0 aO ah,List.length_append];rfl,by omega,by omega,by rw[List.length_append];simp;omega,Cc,hk6,kK,by omega⟩,by omega,(by refine aC rfl rfl (by rw[hst,List.map_append];rfl) ?_;((repeat'(first|exact trivial|refine And.intro ?_ ?_))<;>(first|rfl|(conv=>rhs;whnf)<;>(first|rfl|(refine congrArg (D.int _) ?_;omega)))))⟩
     |exact⟨n,(dV (gY ln.fName) S).toNat,t,ev,some [(p:Int)],c.set p (v+1),⟨by rw[←hk1,Nh hx0 aO hcv ah],by omega,by omega,hk4,Cc,by rw[List.length_set];exact hk6,Az kK _ Oa,by omega⟩,by omega,BQ⟩
     |exact⟨n,p+1,t,ev,some [(p:Int)],c.set p 0,⟨by rw[←hk1,Np hx0 aO hcv ah],by omega,by omega,hk4,Cc,by rw[List.length_set];exact hk6,Az kK _ ah,by omega⟩,by omega,BQ⟩
     |exact⟨n,p+1,t,ev,some [(p:Int)],c,⟨by rw[←hk1,Nj hx0 aO aO aO aO],by omega,by omega,hk4,Cc,hk6,kK,by omega⟩,by omega,BR⟩
     |(rw[Ew hx0 aO] at hk1;exact⟨n,S.length,t,ev,some [(p:Int)],c,⟨by rw[←hk1];exact Gy ah,by omega,by omega,hk4,Cc,hk6,kK,by omega⟩,by omega,BR⟩)
     |skip
   |some l=>
    have hl0:(l.length:Int)≤b-((n+1:Nat):Int):=hk5
    have hpl2:=Gs (p:Int) l false
    repeat'(first|refine sC ?_|((with_reducible refine aj ?_);first|(refine sS ?_;intro Q' hn he hr)|refine sA ?_)|(refine sH ?_;clear hn he hr Q')|refine sO ?_|((conv=>whnf);first|refine sK ?_|(refine sB ?_;repeat'(refine aA ?_ ?_<;>intro hb<;>try exact cls))|(refine QI 13 [0] aB aB aB ?_)|(refine bn.to (p:Int) ah (wrap64 ah) ?_)|(refine aJ.the hx0 ?_)|(refine aJ.the hcv ?_)|((with_reducible refine aH ?_);first|(refine aG (I4 S ln.fName) rfl rfl ?_)|(refine aG (ZX l _ ah) rfl rfl ?_))|((with_reducible refine bP ?_);(refine Gv ?_;refine au [] rfl rfl rfl ⟨?_,rfl⟩))|refine sP ?_|(refine sL ?_;intro hlen)|refine sD ?_))
    all_goals first
     |(exfalso;omega)
     |(rw[←hk1,Nk hx0 aO ah];rfl)
     |(rw[←hk1,Nl hx0 aO ah];rfl)
     |(rw[←hk1,Ew hx0 aO];rfl)
     |exact⟨n,p+1,t+ln.fValue,ev,some (fC (p:Int) l false),c,⟨by rw[←hk1,Nq hx0 aO ah],by omega,by omega,hk4,Ce,hk6,kK,by omega⟩,by omega,BR⟩
     |exact⟨n,p+1,t,ev++[(t,ln.fName)],some (fC (p:Int) l false),c,⟨by rw[←hk1,Nc hx0 aO ah,List.length_append];rfl,by omega,by omega,by rw[List.length_append];simp;omega,Ce,hk6,kK,by omega⟩,by omega,(by refine aC rfl rfl (by rw[hst,List.map_append];rfl) ?_;((repeat'(first|exact trivial|refine And.intro ?_ ?_))<;>(first|rfl|(conv=>rhs;whnf)<;>(first|rfl|(refine congrArg (D.int _) ?_;omega)))))⟩
     |exact⟨n,(dV (gY ln.fName) S).toNat,t,ev,some (fC (p:Int) l false),c.set p (v+1),⟨by rw[←hk1,Nh hx0 aO hcv ah],by omega,by omega,hk4,Ce,by rw[List.length_set];exact hk6,Az kK _ Oa,by omega⟩,by omega,BQ⟩
     |exact⟨n,p+1,t,ev,some (fC (p:Int) l false),c.set p 0,⟨by rw[←hk1,Np hx0 aO hcv ah],by omega,by omega,hk4,Ce,by rw[List.length_set];exact hk6,Az kK _ ah,by omega⟩,by omega,BQ⟩
     |exact⟨n,p+1,t,ev,some (fC (p:Int) l false),c,⟨by rw[←hk1,Nj hx0 aO aO aO aO],by omega,by omega,hk4,Ce,hk6,kK,by omega⟩,by omega,BR⟩
     |(rw[Ew hx0 aO] at hk1;exact⟨n,S.length,t,ev,some (fC (p:Int) l false),c,⟨by rw[←hk1];exact Gy ah,by omega,by omega,hk4,Ce,hk6,kK,by omega⟩,by omega,BR⟩)
     |skip
 ·rw[Gy hpl] at hk1
  repeat'(first|refine sC ?_|((with_reducible refine aj ?_);first|(refine sS ?_;intro Q' hn he hr)|refine sA ?_)|(refine sH ?_;clear hn he hr Q')|((conv=>whnf);first|refine sK ?_|(refine sB ?_;repeat'(refine aA ?_ ?_<;>intro hb<;>try exact cls))|((with_reducible refine bP ?_);(refine Gv ?_;refine au [] rfl rfl rfl ⟨?_,rfl⟩))|(refine sL ?_;intro hlen)|(refine sH ?_;clear hn he hr Q')))
  rw[←hk1]
  rfl
end Go.Eng
