/-
  Contracts of functions of the program and of the reference, and plain laws: a bundle of texts.
  No conditions.
-/
import Derived.Test.YtocoppijdodffaaGreatDoorAY
import Derived.Test.YtocoppijdodffaaGreatDoorMF0
set_option linter.unusedVariables false
set_option linter.unusedSimpArgs false
namespace Go.Eng
open Go Go.RowKit Go.Proofs
set_option maxRecDepth 100000
theorem Ir(a b:bI):0≤jO a b∧jO a b≤360000:=by
 unfold jO
 split
 ·omega
 ·exact yI _ _
noncomputable def vW(p:bW)(v:bI):Int:=if p.lV<jO (fO p.jS p.jR) v then 0 else(1000*(p.lV-jO (fO p.jS p.jR) v)).tdiv p.lV+1
theorem Vl{p:bW}{v:bI}(h:p.lV<jO (fO p.jS p.jR) v):vW p v=0:=by unfold vW;rw[if_pos h]
theorem Vm{p:bW}{v:bI}(h: ¬p.lV<jO (fO p.jS p.jR) v):vW p v=(1000*(p.lV-jO (fO p.jS p.jR) v)).tdiv p.lV+1:=by unfold vW;rw[if_neg h]
theorem U5{p:bW}(h:ni p=true):(0≤p.jS∧p.jS≤359999)∧(-90000≤p.jR∧p.jR≤90000)∧(5000≤p.lV∧p.lV≤120000)∧(1≤p.xH∧p.xH≤1000):=by
 simp only[ni,wR,inB,Bool.and_eq_true,decide_eq_true_eq] at h
 omega
theorem Vk{f d:Int}(hf:5000≤f∧f≤120000)(hd:0≤d∧d≤f):0≤(1000*(f-d)).tdiv f∧(1000*(f-d)).tdiv f≤1000:=by
 rw[Int.tdiv_eq_ediv_of_nonneg ah]
 refine⟨Int.ediv_nonneg ah ah,?_⟩
 exact Int.ediv_le_of_le_mul ah ah
noncomputable def uf(ps:List bW)(a h:Int):Nat:=ps.countP fun p=>decide (0<vW p (fO a h))
theorem Vp{ps:List bW}{k:Nat}{p:bW}(hp:ps[k]? =some p)(a h:Int):uf (ps.take (k+1)) a h=uf (ps.take k) a h+if 0<vW p (fO a h) then 1 else 0:=by
 unfold uf
 rw[List.take_add_one,hp]
 by_cases hx:0<vW p (fO a h)<;>simp[hx]
theorem Vo(ps:List bW)(a h:Int):uf ps a h≤ps.length:=List.countP_le_length
def jF(s:List Int):List D:=[.sl 1 (s.map encI)]
def nZ(step h:Int):Nat→Int→List (List Int)
 |0,_=>[]
 |n+1,a=>if a<360000 then [a,h]::nZ step h n (a+step) else []
def nH(step:Int):Nat→Int→List (List Int)
 |0,_=>[]
 |n+1,h=>if h≤90000 then nZ step h 40 0++nH step n (h+step) else []
def dL(step:Int):List (List Int):=nH step 12 0
theorem Iw{step h a:Int}{n:Nat}(ha:a<360000):nZ step h (n+1) a=[a,h]::nZ step h n (a+step):=by simp[nZ,ha]
theorem Iu{step h a:Int}{n:Nat}(ha: ¬a<360000):nZ step h n a=[]:=by
 cases n with
 |zero=>rfl
 |succ n=>simp[nZ,ha]
theorem Ij{step h:Int}{n:Nat}(hh:h≤90000):nH step (n+1) h=nZ step h 40 0++nH step n (h+step):=by simp[nH,hh]
theorem Ii{step h:Int}{n:Nat}(hh: ¬h≤90000):nH step n h=[]:=by
 cases n with
 |zero=>rfl
 |succ n=>simp[nH,hh]
def Nz(s:List Int):Prop:= ∃a h,s=[a,h]∧(0≤a∧a≤359999)∧(0≤h∧h≤90000)
theorem X3{step h:Int}(hs:0≤step)(hh:0≤h∧h≤90000): ∀(n:Nat) (a:Int),0≤a→ ∀s∈nZ step h n a,Nz s:=by
 intro n
 induction n with
 |zero=>intro a _ s h;cases h
 |succ n ih=>
  intro a ha s hm
  by_cases h1:a<360000
  ·rw[Iw h1] at hm
   rcases List.mem_cons.1 hm with rfl|hm
   ·exact⟨a,h,rfl,by omega,hh⟩
   ·exact ih _ ah s hm
  ·rw[Iu h1] at hm;cases hm
theorem XA{step:Int}(hs:0≤step): ∀(n:Nat) (h:Int),0≤h→ ∀s∈nH step n h,Nz s:=by
 intro n
 induction n with
 |zero=>intro h _ s hm;cases hm
 |succ n ih=>
  intro h hh s hm
  by_cases h1:h≤90000
  ·rw[Ij h1] at hm
   rcases List.mem_append.1 hm with hm|hm
   ·exact X3 hs ⟨hh,h1⟩ 40 0 ah s hm
   ·exact ih _ ah s hm
  ·rw[Ii h1] at hm;cases hm
theorem X0{step h:Int} : ∀(n:Nat) (a:Int),(nZ step h n a).length≤n:=by
 intro n
 induction n with
 |zero=>intro a;simp[nZ]
 |succ n ih=>
  intro a
  unfold nZ
  split
  ·have:=ih (a+step);simp only[List.length_cons];omega
  ·simp
theorem Xz{step:Int} : ∀(n:Nat) (h:Int),(nH step n h).length≤40*n:=by
 intro n
 induction n with
 |zero=>intro h;simp[nH]
 |succ n ih=>
  intro h
  unfold nH
  split
  ·have h1:=ih (h+step);have h2:=X0 (step:=step) (h:=h) 40 0;simp only[List.length_append];omega
  ·simp
theorem BG(step:Int):(dL step).length≤480:=Xz 12 0
theorem GU{step:Int}(hs:0≤step){s:List Int}(h:s∈dL step):Nz s:=XA hs 12 0 ah s h
noncomputable def Dp(ps:List bW)(s:List Int):Bool:=decide (uf ps (s.getD 0 0) (s.getD 1 0)=0)
noncomputable def iD(ps:List bW)(L:List (List Int)):List (List Int):=L.filter (Dp ps)
theorem Qz{ps:List bW}{L:List (List Int)}{k:Nat}{s:List Int}(hs:L[k]? =some s)(h:Dp ps s=true):iD ps (L.take (k+1))=iD ps (L.take k)++[s]:=by
 unfold iD
 rw[List.take_add_one,hs,Option.toList_some,List.filter_append]
 simp[h]
theorem Qy{ps:List bW}{L:List (List Int)}{k:Nat}{s:List Int}(hs:L[k]? =some s)(h:Dp ps s=false):iD ps (L.take (k+1))=iD ps (L.take k):=by
 unfold iD
 rw[List.take_add_one,hs,Option.toList_some,List.filter_append]
 simp[h]
theorem Ah(ps:List bW)(L:List (List Int)):(iD ps L).length≤L.length:=List.length_filter_le _ _
theorem Qx{ps:List bW}{L:List (List Int)}{s:List Int}(h:s∈iD ps L):s∈L:=(List.mem_filter.1 h).1
def acy:List UInt8:=[100,111,109,101]
def Jt(s:List Int):gU:=⟨1,acy,joinL (s.map Lib.itoa)⟩
noncomputable def sU(h:bM):List gU:=(iD h.dU (dL h.dw)).map Jt
def dB:List bK→Int→Nat×Int
 |[],_=>(0,0)
 |r::rs,k=>if k<r.fCount then(0,k) else((dB rs (k-r.fCount)).1+1,(dB rs (k-r.fCount)).2)
theorem agK{R:List bK}{i:Nat}{r:bK}(hr:R[i]? =some r){k:Int}(h:k<r.fCount):dB (R.drop i) k=(0,k):=by
 have:R.drop i=r::R.drop (i+1):=(List.getElem?_eq_some_iff.1 hr).2▸List.drop_eq_getElem_cons (List.getElem?_eq_some_iff.1 hr).1
 rw[this,dB,if_pos h]
theorem agL{R:List bK}{i:Nat}{r:bK}(hr:R[i]? =some r){k:Int}(h: ¬k<r.fCount):dB (R.drop i) k=((dB (R.drop (i+1)) (k-r.fCount)).1+1,(dB (R.drop (i+1)) (k-r.fCount)).2):=by
 have:R.drop i=r::R.drop (i+1):=(List.getElem?_eq_some_iff.1 hr).2▸List.drop_eq_getElem_cons (List.getElem?_eq_some_iff.1 hr).1
 rw[this,dB,if_neg h]
theorem WE{R:List bK}{i:Nat}{r:bK}(hr:R[i]? =some r):dO (R.drop i)=r.fCount+dO (R.drop (i+1)):=by
 have:R.drop i=r::R.drop (i+1):=(List.getElem?_eq_some_iff.1 hr).2▸List.drop_eq_getElem_cons (List.getElem?_eq_some_iff.1 hr).1
 rw[this]
 simp[dO]
theorem agM: ∀ {R:List bK} {k:Int},0≤k→k<dO R→ ∃r,R[(dB R k).1]? =some r∧0≤(dB R k).2∧(dB R k).2<r.fCount:=by
 intro R
 induction R with
 |nil=>intro k h1 h2;simp[dO] at h2;omega
 |cons r R ih=>
  intro k h1 h2
  by_cases h:k<r.fCount
  ·refine⟨r,?_⟩
   rw[dB,if_pos h]
   exact⟨rfl,h1,h⟩
  ·have h3:k-r.fCount<dO R:=by simp[dO] at h2⊢;omega
   obtain⟨r',h4,h5,h6⟩:=ih (k:=k-r.fCount) ah h3
   refine⟨r',?_⟩
   rw[dB,if_neg h]
   exact⟨by simpa using h4,h5,h6⟩
def ae9:bK:=⟨0,0,0,0,0⟩
def ringAt(R:List bK)(k:Int):bK:=R.getD (dB R k).1 ae9
def kW(R:List bK)(k:Int):Int:=(ringAt R k).vH+(dB R k).2*(ringAt R k).dw
def jU(R:List bK)(k:Int):bI:=⟨fU ((ringAt R k).bY*jI (kW R k)) 1000000,fU ((ringAt R k).bY*lC (kW R k)) 1000000,0⟩
def BA(R:List bK)(k:Int):List UInt8:=114::Lib.itoa (((dB R k).1:Int)+1)++115::Lib.itoa ((dB R k).2+1)
def mV(d:dn)(v:bI):Bool:=inB v.fX (-(d.bY-1)) (d.bY-1)&&(inB v.fY (-(d.bY-1)) (d.bY-1)&&(inB v.fZ (-(d.bY-1)) (d.bY-1)&&decide (v.fX*v.fX+v.fY*v.fY+v.fZ*v.fZ<(d.bY-1)*(d.bY-1))))
def Bd(d:dn)(a h:Int):bI:=⟨fU (d.bY*(fO ((90000-a) % 360000) h).fX) 1000000,fU (d.bY*(fO ((90000-a) % 360000) h).fY) 1000000,fU (d.bY*(fO ((90000-a) % 360000) h).fZ) 1000000⟩
def jC(d:dn)(v:bI)(a h:Int):bI:=⟨(Bd d a h).fX-v.fX,(Bd d a h).fY-v.fY,(Bd d a h).fZ-v.fZ⟩
def kT(v:bI):Int:=if v.fX=0∧v.fY=0 then 0 else lN v.fY v.fX
noncomputable def ji(v:bI):Int:=lN v.fZ (iH (v.fX*v.fX+v.fY*v.fY).toNat)
noncomputable def iR(v:bI):Int:=if 90000<ji v then ji v-360000 else ji v
noncomputable def yR(d:dn)(v:bI)(a h:Int):Int:=jO (fO a h) (fO ((90000-kT (jC d v a h)) % 360000) (iR (jC d v a h)))
noncomputable def rP(d:dn)(v:bI)(a:Int):Nat→Int→Int→Int
 |0,_,w=>w
 |n+1,h,w=>if h≤90000 then rP d v a n (h+45000) (max w (yR d v a h)) else w
noncomputable def qL(d:dn)(v:bI):Nat→Int→Int→Int
 |0,_,w=>w
 |n+1,a,w=>if a<360000 then qL d v n (a+45000) (rP d v a 4 0 w) else w
noncomputable def qM(d:dn)(v:bI):Int:=qL d v 9 0 0
theorem NW{d:dn}{v:bI}{a h w:Int}{n:Nat}(hh:h≤90000):rP d v a (n+1) h w=rP d v a n (h+45000) (max w (yR d v a h)):=by rw[rP,if_pos hh]
theorem NV{d:dn}{v:bI}{a h w:Int}{n:Nat}(hh: ¬h≤90000):rP d v a n h w=w:=by
 cases n with
 |zero=>rfl
 |succ n=>rw[rP,if_neg hh]
theorem NZ{d:dn}{v:bI}{a w:Int}{n:Nat}(ha:a<360000):qL d v (n+1) a w=qL d v n (a+45000) (rP d v a 4 0 w):=by rw[qL,if_pos ha]
theorem NY{d:dn}{v:bI}{a w:Int}{n:Nat}(ha: ¬a<360000):qL d v n a w=w:=by
 cases n with
 |zero=>rfl
 |succ n=>rw[qL,if_neg ha]
theorem JB(d:dn)(v:bI)(a h:Int):0≤yR d v a h∧yR d v a h≤360000:=Ir _ _
theorem ahf(d:dn)(v:bI)(a:Int): ∀(n:Nat) (h w:Int),0≤w∧w≤360000→0≤rP d v a n h w∧rP d v a n h w≤360000:=by
 intro n
 induction n with
 |zero=>intro h w hw;exact hw
 |succ n ih=>
  intro h w hw
  by_cases hh:h≤90000
  ·rw[NW hh]
   have:=JB d v a h
   exact ih _ _ ah
  ·rw[NV hh];exact hw
theorem ahg(d:dn)(v:bI): ∀(n:Nat) (a w:Int),0≤w∧w≤360000→0≤qL d v n a w∧qL d v n a w≤360000:=by
 intro n
 induction n with
 |zero=>intro a w hw;exact hw
 |succ n ih=>
  intro a w hw
  by_cases ha:a<360000
  ·rw[NZ ha]
   exact ih _ _ (ahf d v a 4 0 w hw)
  ·rw[NY ha];exact hw
theorem Xf(d:dn)(v:bI):0≤qM d v∧qM d v≤360000:=ahg d v 9 0 0 ah
noncomputable def rH(d:dn)(v:bI):Int:=if mV d v=true then max 0 (1000-(qM d v).tdiv 90) else 0
theorem VR(d:dn)(v:bI):0≤rH d v∧rH d v≤1000:=by
 have h:=Xf d v
 unfold rH
 split
 ·have h1:0≤(qM d v).tdiv 90:=Int.tdiv_nonneg h.1 ah
  omega
 ·omega
noncomputable def vY(h:bM)(k:Int):Int:=rH h.fP (jU h.dW k)
noncomputable def rJ(h:bM):Nat→List gU
 |0=>[]
 |k+1=>rJ h k++match h.dZ[k]? with
  |none=>[]
  |some x=>if vY h x<h.oG then [⟨5,BA h.dW x,Lib.itoa (vY h x)⟩] else []
theorem Ey(h:bM): ∀k,(rJ h k).length≤k
 |0=>Nat.le_refl _
 |k+1=>by
  have h1:=Ey h k
  simp only[rJ,List.length_append]
  split
  ·simp;omega
  ·split<;>simp<;>omega
theorem V8{h:bM}{k:Nat}{x:Int}(hx:h.dZ[k]? =some x)(h1:vY h x<h.oG):rJ h (k+1)=rJ h k++[⟨5,BA h.dW x,Lib.itoa (vY h x)⟩]:=by
 simp only[rJ,hx,if_pos h1]
theorem V7{h:bM}{k:Nat}{x:Int}(hx:h.dZ[k]? =some x)(h1: ¬vY h x<h.oG):rJ h (k+1)=rJ h k:=by
 simp only[rJ,hx,if_neg h1,List.append_nil]
theorem XJ:lN 0 0=0:=by
 have hb: ∀(low high:Nat),mG (nI (min (bQ 0) (bQ 0)) (max (bQ 0) (bQ 0))) low high=low∨high<low:=by
  intro low high
  induction hn:high-low using Nat.strongRecOn generalizing low high with
  |_ n ih=>
   by_cases h:low<high
   ·left
    rw[CS h (by simp[nI,bQ])]
    rcases ih _ ah low ((low+high)/2) rfl with h1|h1
    ·exact h1
    ·omega
   ·by_cases h2:high<low
    ·exact .inr h2
    ·left;exact CQ h
 have h0:rW 0 0=0:=by
  unfold rW
  rcases hb 0 45000 with h|h
  ·exact h
  ·omega
 unfold lN rV
 rw[h0]
 simp
theorem VD{R:List bK}{B:List Int}(hr:gZ R=true)(hb:oP (dO R) B=true){j:Nat}{k:Int}(hk:B[j]? =some k):0≤k∧k<dO R:=by
 have h3:=AP hb hk
 simp only[inB,decide_eq_true_eq] at h3
 omega
theorem Eo{R:List bK}(hr:gZ R=true){k:Int}(h1:0≤k)(h2:k<dO R):R[(dB R k).1]? =some (ringAt R k)∧jH (ringAt R k)=true∧0≤(dB R k).2∧(dB R k).2<(ringAt R k).fCount∧(dB R k).1<6:=by
 obtain⟨r,h3,h4,h5⟩:=agM h1 h2
 have e:ringAt R k=r:=by simp[ringAt,List.getD_eq_getElem?_getD,h3]
 obtain⟨h6,h7,_⟩:=Bq hr
 have h8:=(List.getElem?_eq_some_iff.1 h3).1
 rw[e]
 exact⟨h3,h6 _ _ h3,h4,h5,by omega⟩
theorem Bo{r:bK}(h:jH r=true):(500≤r.bY∧r.bY≤30000)∧(1≤r.fCount∧r.fCount≤60)∧(0≤r.vH∧r.vH≤359999)∧(1000≤r.dw∧r.dw≤90000)∧r.fCount*r.dw≤360000:=by
 simp only[jH,inB,Bool.and_eq_true,decide_eq_true_eq] at h
 omega
theorem V6{r:bK}(h:jH r=true){n:Int}(h0:0≤n)(h1:n<r.fCount):0≤n*r.dw∧n*r.dw≤360000:=by
 obtain⟨_,h2,_,h3,h4⟩:=Bo h
 refine⟨Int.mul_nonneg h0 ah,Int.le_trans (Int.mul_le_mul_of_nonneg_right ah ah) h4⟩
end Go.Eng
namespace Go.Eng
open Go Go.RowKit Go.Proofs
set_option maxRecDepth 100000
theorem adp{G:Nat→Option (List D)}{k:Nat}{c:List D}(h:G k=some c): ∀g cs,G1 k c g=some cs→G g=some cs:=by
 intro g cs hg
 unfold G1 at hg
 split at hg
 ·rename_i e
  subst e
  cases hg
  exact h
 ·cases hg
theorem ak.nU{P:Program}{f:FuncId}{k:Nat}{c:List D}{G:Nat→Option (List D)}{pin:Nat}{os:List Obj}{ds:List D}{post:D→List Obj→Prop}(h:ak P f (G1 k c) pin os ds post)(hG:G k=some c):ak P f G pin os ds post:=h.Lm (adp hG)
def zN:Nat→Option (List D):=fun g=>if g=1 then some (Lib.pow10Tab.map fun z=> .int .u64 z) else if g=2 then some (jW.map (.int .i64)) else none
theorem ak.Wu{f:FuncId}{pin:Nat}{os:List Obj}{ds:List D}{post:D→List Obj→Prop}(h:ak Tryz.prog f GS pin os ds post):ak Tryz.prog f zN pin os ds post:=ak.nU h rfl
theorem ak.Ny{f:FuncId}{pin:Nat}{os:List Obj}{ds:List D}{post:D→List Obj→Prop}(h:ak Tryz.prog f GP pin os ds post):ak Tryz.prog f zN pin os ds post:=ak.nU h rfl
end Go.Eng
