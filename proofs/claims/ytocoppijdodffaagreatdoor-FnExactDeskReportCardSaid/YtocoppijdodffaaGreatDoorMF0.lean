/-
  Plans of loading, and the findings of the media, in plain words.
  No conditions.
-/
import Derived.Test.YtocoppijdodffaaGreatDoorVY
set_option linter.unusedVariables false
set_option linter.unusedSimpArgs false
namespace Go.Eng
open Go Go.RowKit Go.Proofs
set_option maxRecDepth 100000
structure gU where
 bT:Int
 QX:List UInt8
 QW:List UInt8
def eG(x:gU):List D:=[.int .i64 x.bT, .str x.QX, .str x.QW]
def gU.sz(x:gU):Nat:=x.QX.length+x.QW.length
def loadT(M:List bC)(b:Int)(n:List UInt8):Int:=(1000*kX M n+b-1).tdiv b
def jl(M:List bC)(b:Int):List bg→Int
 |[]=>0
 |x::r=>loadT M b x.fName+jl M b r
theorem U3(M:List bC)(b:Int): ∀(a r:List bg),jl M b (a++r)=jl M b a+jl M b r
 |[],r=>by simp[jl]
 |x::a,r=>by simp only[List.cons_append,jl,U3 M b a r];omega
theorem Gn{M:List bC}{b:Int}{N:List bg}{k:Nat}{x:bg}(hx:N[k]? =some x):jl M b (N.take (k+1))=jl M b (N.take k)+loadT M b x.fName:=by
 rw[List.take_add_one,hx,Option.toList_some,U3]
 simp[jl]
def qG(M:List bC)(b:Int)(N:List bg):List Int:=(List.range N.length).map fun k=>jl M b (N.take k)
theorem MH(M:List bC)(b:Int)(N:List bg):(qG M b N).length=N.length:=by simp[qG]
theorem MG(M:List bC)(b:Int){N:List bg}{k:Nat}(h:k<N.length):(qG M b N)[k]? =some (jl M b (N.take k)):=by
 simp[qG,h]
theorem BN{M:List bC}(h:iT M=true)(n:List UInt8):0≤kX M n∧kX M n≤100000:=by
 unfold kX
 split
 ·rename_i x hx
  have h2:pF x=true:=by
   have h3:=AP (show jG pF yc M=true by simp only[iT,Bool.and_eq_true] at h;exact h.2) hx
   exact h3
  simp only[pF,inB,Bool.and_eq_true,decide_eq_true_eq] at h2
  omega
 ·omega
theorem DV{M:List bC}{b:Int}(h:iT M=true)(hb:1≤b∧b≤100000)(n:List UInt8):0≤loadT M b n∧loadT M b n≤100000000:=by
 obtain⟨h1,h2⟩:=BN h n
 unfold loadT
 rw[Int.tdiv_eq_ediv_of_nonneg ah]
 refine⟨Int.ediv_nonneg ah ah,?_⟩
 refine Int.ediv_le_of_le_mul ah ?_
 have h3:100000000*1≤100000000*b:=by omega
 have h4:1000*kX M n≤100000000:=by omega
 have h5:b-1≤99999*b:=by omega
 by_cases hs:kX M n=100000
 ·have h6:(100000000-1)*1≤(100000000-1)*b:=Int.mul_le_mul_of_nonneg_left hb.1 ah
  omega
 ·omega
theorem U4{M:List bC}{b:Int}(h:iT M=true)(hb:1≤b∧b≤100000): ∀N:List bg,0≤jl M b N∧jl M b N≤N.length*100000000
 |[]=>by simp[jl]
 |x::r=>by
  have h1:=DV h hb x.fName
  have h2:=U4 h hb r
  simp only[jl,List.length_cons,Int.natCast_add,Int.natCast_one]
  omega
def vP(M:List bC)(b:Int)(N:List bg)(k:Nat)(x:bg):Int:=jl M b (N.take (k+1))-x.dK
def ru(M:List bC)(b:Int)(N:List bg):Nat→List gU
 |0=>[]
 |k+1=>ru M b N k++match N[k]? with
  |none=>[]
  |some x=>if 0<vP M b N k x then [⟨6,x.fName,Lib.itoa (vP M b N k x)⟩] else []
theorem DW(M:List bC)(b:Int)(N:List bg): ∀k,(ru M b N k).length≤k
 |0=>Nat.le_refl _
 |k+1=>by
  have h:=DW M b N k
  simp only[ru,List.length_append]
  split
  ·simp;omega
  ·split<;>simp<;>omega
theorem Uj{M:List bC}{b:Int}{N:List bg}{k:Nat}{x:bg}(hx:N[k]? =some x)(h:0<vP M b N k x):ru M b N (k+1)=ru M b N k++[⟨6,x.fName,Lib.itoa (vP M b N k x)⟩]:=by
 simp only[ru,hx,if_pos h]
theorem Ui{M:List bC}{b:Int}{N:List bg}{k:Nat}{x:bg}(hx:N[k]? =some x)(h: ¬0<vP M b N k x):ru M b N (k+1)=ru M b N k:=by
 simp only[ru,hx,if_neg h,List.append_nil]
end Go.Eng
