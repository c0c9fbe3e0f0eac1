/-
  Texts in order, and each once: what slices.Sort and slices.Compact come to.
  No conditions.
-/
import Derived.Test.YtocoppijdodffaaGreatDoorRW
import Derived.Test.YtocoppijdodffaaGreatDoorWF0
import Derived.Test.YtocoppijdodffaaGreatDoorShelf3
import Derived.Test.YtocoppijdodffaaGreatDoorP1
set_option linter.unusedVariables false
set_option linter.unusedSimpArgs false
namespace Go.Eng
open Go Go.RowKit Go.Proofs
set_option maxRecDepth 100000
theorem Ot{w w':World}(h:Below w.heap.size w w'):w.grownBy w' none:=⟨h.os,h.tape,h.output,h.size,fun k hk _=>h.block k hk⟩
theorem RN(w:World)(x:Option Nat):w.grownBy w x:=⟨rfl,rfl,rfl,Nat.le_refl _,fun _ _ _=>rfl⟩
theorem ady(w:World):Go.Sort.grow w #[]=w:=by
 simp[Go.Sort.grow]
theorem Ws{F:Nat→Prop}{w:World}{g cap n:Nat}{cur:Array Value}{e:TypeId}{l m z:List (List UInt8)}{os:Array Go.Obj}(hg:w.heap[g]? =some (.cells cur e (0,0)))(h1:l.length≤cap)(h2:cap≤maxLen)(h3:cur.size=cap)(hm:m.length+z.length=l.length)(h5: ∀t∈m,t.length≤maxLen):
 gu F (Go.Sort.grow (Go.Sort.putRow encStr (Go.Sort.ahead w n) g 0 (m++z).toArray) os) e 1 (m.map encS) (.slice (some ⟨g,0,none⟩) m.length cap):=by
 refine Wy (cur:=Go.Sort.putCells encStr 0 (m++z).toArray cur) (af0 hg) ah h2 (by simpa[Go.Sort.putCells] using h3) (fun i t ht=> ?_) h5
 have hi:=(List.getElem?_eq_some_iff.1 ht).1
 refine afU ah ?_
 rw[List.getElem?_toArray,List.getElem?_append_left hi]
 exact ht
theorem Pz(l:List (List UInt8))(hl:l.length≤1048576):ak Tryz.prog 228 G0 1 [.row 9 1 (l.map encS)] [.h 0] (fun d os=>d= .aN []∧os=[.row 9 1 ((l.mergeSort fun x y=>decide (x≤y)).map encS)]):=by
 refine ak.aff (callFunc_enter Tryz.func228 rfl aB) fun w F x hown hlt=> ?_
 obtain⟨h1,h2,hx|⟨g,cap,cur,rfl,hg,h3,h4,h5,h6⟩⟩:=WA hown
 ·obtain⟨rfl,rfl⟩:=hx
  refine(Tryz.slices_Sort_string_none none 0 w).mono ?_
  rintro e w' ⟨rfl,rfl⟩
  exact⟨rfl,RN _ _,by simpa using hown⟩
 ·refine(Tryz.slices_Sort_string g 0 cap l w (Sj hg h6) (hlt g rfl) ah).mono ?_
  rintro e w' ⟨rfl,n,os,rfl⟩
  refine⟨rfl,Va,?_⟩
  have hlen:(l.mergeSort fun x y=>decide (x≤y)).length=l.length:=List.length_mergeSort _
  have h7:=Ws (F:=F) (n:=n) (os:=os) (l:=l) (m:=l.mergeSort fun x y=>decide (x≤y)) (z:=[]) hg h3 h4 h5 fB (fun t ht=>h1 t (List.mem_mergeSort.1 ht))
  rw[List.append_nil,hlen] at h7
  exact h7
theorem Py(l:List (List UInt8))(hl:l.length≤1048576):ak Tryz.prog 229 G0 0 [.row 9 1 (l.map encS)] [.h 0] (fun d os=>d= .h 0∧os=[.row 9 1 ((Lib.compact l).map encS)]):=by
 refine ak.afe (callFunc_enter Tryz.func229 rfl aB) fun w F x hown hlt=> ?_
 obtain⟨h1,h2,hx|⟨g,cap,cur,rfl,hg,h3,h4,h5,h6⟩⟩:=WA hown
 ·obtain⟨rfl,rfl⟩:=hx
  refine(Tryz.slices_Compact_string_empty none 0 w).mono ?_
  rintro e w' ⟨rfl,rfl⟩
  exact⟨_,rfl,RN _ _,by rw[Jl];exact hown,fun b hb=>hb⟩
 ·refine(Tryz.slices_Compact_string g 0 cap l w (Sj hg h6) ah h3).mono ?_
  rintro e w' ⟨rfl,q,rfl⟩
  have hle:=ab7 l
  rw[←ady (Go.Sort.putRow encStr (Go.Sort.ahead w q) g 0 _)]
  refine⟨_,rfl,Va,?_,fun b hb=>hb⟩
  exact Ws (F:=F) (n:=q) (os:= #[]) (l:=l) (m:=Lib.compact l) hg h3 h4 h5 nX (fun t ht=>h1 t (ab8 l t ht))
end Go.Eng
