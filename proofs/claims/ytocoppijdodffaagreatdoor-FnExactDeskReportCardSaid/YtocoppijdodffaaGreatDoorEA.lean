/-
  The engine, bundle EA: values as data, objects, states, the walk's rules, and that the model follows them.
  No conditions.
-/
import Derived.WalkKit
import Derived.Below
import Derived.Laws.OwnMore
import Derived.StillTail
import Derived.ProofKit
import Derived.Maps.Views
import Derived.StringKeys
import Derived.WalkLawsBesides
import Derived.Laws.StructEq
import Derived.Stop.IfaceNil
import Derived.Laws.FloatArith
set_option linter.unusedVariables false
set_option linter.unusedSimpArgs false
namespace Go.Eng
open Go Go.RowKit
theorem fB{P:Prop}(h:P:=by simp):P:=h
theorem ah{P:Prop}(h:P:=by omega):P:=h
theorem iU{P:Prop}(h:P:=by decide):P:=h
theorem qN{P:Prop}(h:P:=by exact hd):P:=h
theorem jX{P:Prop}(h:P:=by cases hx):P:=h
theorem zL{P:Prop}(h:P:=by simp[*]):P:=h
theorem jY{P:Prop}(h:P:=by simp[hl]):P:=h
theorem aO{P:Prop}(h:P:=by assumption):P:=h
theorem dA{P:Prop}(h:P:=by kernel_rfl):P:=h
theorem wE{P:Prop}(h:P:=by simp[stOf]):P:=h
theorem nX{P:Prop}(h:P:=by simp;omega):P:=h
theorem BZ{P:Prop}(h:P:=by rw[hst];rfl):P:=h
theorem iI{P:Prop}(h:P:=by simpa using hi):P:=h
theorem qP{P:Prop}(h:P:=by simpa using hj):P:=h
theorem pI{P:Prop}(h:P:=by simpa using hl):P:=h
theorem EL{P:Prop}(h:P:=by simpa using hx):P:=h
theorem aB{P:Prop}(h:P:=by decide+kernel):P:=h
theorem lM{P:Prop}(h:P:=by simp[stOf,St.n]):P:=h
theorem zK{P:Prop}(h:P:=by rwa [Nat.mul_comm]):P:=h
theorem eY{P:Prop}(h:P:=by unfold bU;omega):P:=h
theorem zJ{P:Prop}(h:P:=by rw[inv.size];omega):P:=h
theorem Ia{P:Prop}(h:P:=by unfold vY;omega):P:=h
theorem H7{P:Prop}(h:P:=by simp[uP];omega):P:=h
theorem Cb{P:Prop}(h:P:=by rw[←hmid];exact hT):P:=h
theorem EK{P:Prop}(h:P:=by rw[←hFX];exact hrep):P:=h
theorem Ob{P:Prop}(h:P:=by rw[he] at hrd;cases hrd):P:=h
theorem BU{P:Prop}(h:P:=by rw[List.map_append];rfl):P:=h
theorem uy{P:Prop}(h:P:=by simp[mY];omega):P:=h
theorem Hz{P:Prop}(h:P:=by rw[DF];exact oZ):P:=h
theorem H9{P:Prop}(h:P:=by simpa[bG,eqStr] using hb):P:=h
theorem lg{P:Prop}(h:P:=by rintro d os ⟨rfl,rfl⟩;rfl):P:=h
theorem EJ{P:Prop}(h:P:=by rw[List.length_map];omega):P:=h
theorem BX{P:Prop}(h:P:=by rw[hst,List.map_set];rfl):P:=h
theorem yD{P:Prop}(h:P:=by rw[List.length_take];omega):P:=h
theorem yE{P:Prop}(h:P:=by simp[Region.wanted,hg,hy]):P:=h
theorem HY{P:Prop}(h:P:=by rw[GZ hm (by omega)];rfl):P:=h
theorem H8{P:Prop}(h:P:=by simp only[List.map_append];rfl):P:=h
theorem Cc{P:Prop}(h:P:=by show((1:Nat):Int)≤_;omega):P:=h
theorem Oa{P:Prop}(h:P:=by have:=hl4 (by assumption);omega):P:=h
theorem Hy{P:Prop}(h:P:=by rw[getD_replicate_false] at hl;cases hl):P:=h
theorem Ce{P:Prop}(h:P:=by show((fC (p:Int) l false).length:Int)≤_;omega):P:=h
theorem Oc{P:Prop}(h:P:=by rw[show Op.bytesLess y x.fName=false by assumption];rfl):P:=h
theorem Ho{P:Prop}(h:P:=by(try simp only[gJ,oQ,qp,qw,qx,uN,uK,uM]);omega):P:=h
theorem BO{P:Prop}(h:P:=by first|(rw[List.length_map];show _<91;omega)|(show _<91;omega)):P:=h
theorem rQ{P:Prop}(h:P:=by refine aC rfl rfl ?_ ?_;rw[oJ];rfl;exact⟨rfl,rfl,rfl,trivial⟩):P:=h
theorem H6{P:Prop}(h:P:=by rw[G5 hm (by omega),←List.append_assoc,List.map_append (l₂:=[_])];rfl):P:=h
theorem Hw{P:Prop}(h:P:=by rw[List.take_zero,zT (show kY h.aX []=[] from rfl)];first|rfl|(rw[e3,List.map_append];rfl)):P:=h
theorem qO{P:Prop}(h:P:=by refine aC rfl rfl ?_ ?_;rw[qB];rfl;exact⟨rfl,by(conv=>rhs;whnf);refine congrArg (D.int _) ?_;omega,rfl,trivial⟩):P:=h
theorem aI{P:Prop}(h:P:=by refine aC rfl rfl rfl ?_;((repeat'(first|exact trivial|refine And.intro ?_ ?_))<;>(first|rfl|(conv=>rhs;whnf)<;>(first|rfl|(refine congrArg (D.int _) ?_;omega))))):P:=h
theorem BR{P:Prop}(h:P:=by refine aC rfl rfl (by rw[hst];rfl) ?_;((repeat'(first|exact trivial|refine And.intro ?_ ?_))<;>(first|rfl|(conv=>rhs;whnf)<;>(first|rfl|(refine congrArg (D.int _) ?_;omega))))):P:=h
theorem BP{P:Prop}(h:P:=by refine aC rfl rfl (by rw[List.map_append];rfl) ?_;((repeat'(first|exact trivial|refine And.intro ?_ ?_))<;>(first|rfl|(conv=>rhs;whnf)<;>(first|rfl|(refine congrArg (D.int _) ?_;omega))))):P:=h
theorem BQ{P:Prop}(h:P:=by refine aC rfl rfl (by rw[hst,List.map_set];rfl) ?_;((repeat'(first|exact trivial|refine And.intro ?_ ?_))<;>(first|rfl|(conv=>rhs;whnf)<;>(first|rfl|(refine congrArg (D.int _) ?_;omega))))):P:=h
theorem Hr{P:Prop}(h:P:=by refine aC rfl rfl (by rw[GZ hm (by omega)];rfl) ?_;((repeat'(first|exact trivial|refine And.intro ?_ ?_))<;>(first|rfl|(conv=>rhs;whnf)<;>(first|rfl|(refine congrArg (D.int _) ?_;omega))))):P:=h
theorem Hu{P:Prop}(h:P:=by refine aC rfl rfl (by simp only[List.map_append];rfl) ?_;((repeat'(first|exact trivial|refine And.intro ?_ ?_))<;>(first|rfl|(conv=>rhs;whnf)<;>(first|rfl|(refine congrArg (D.int _) ?_;omega))))):P:=h
theorem Ht{P:Prop}(h:P:=by refine aC rfl rfl (by rw[G5 hm (by omega),←List.append_assoc,List.map_append (l₂:=[_])];rfl) ?_;((repeat'(first|exact trivial|refine And.intro ?_ ?_))<;>(first|rfl|(conv=>rhs;whnf)<;>(first|rfl|(refine congrArg (D.int _) ?_;omega))))):P:=h
theorem Hq{P:Prop}(h:P:=by refine aC rfl rfl (by rw[List.take_zero,zT (show kY h.aX []=[] from rfl)];first|rfl|(rw[e3,List.map_append];rfl)) ?_;((repeat'(first|exact trivial|refine And.intro ?_ ?_))<;>(first|rfl|(conv=>rhs;whnf)<;>(first|rfl|(refine congrArg (D.int _) ?_;omega))))):P:=h
theorem dQ{P:Prop}(h:P:=by first|exact(rfl:_=0)|exact(rfl:_=1)|exact(rfl:_=2)|exact(rfl:_=3)|exact(rfl:_=4)|exact(rfl:_=5)|exact(rfl:_=6)|exact(rfl:_=7)|exact(rfl:_=8)|exact(rfl:_=9)|exact(rfl:_=10)|exact(rfl:_=11)|exact(rfl:_=12)|exact(rfl:_=13)|exact(rfl:_=14)|exact(rfl:_=15)|exact(rfl:_=16)|exact(rfl:_=17)|exact(rfl:_=18)|exact(rfl:_=19)|exact(rfl:_=20)|exact(rfl:_=21)|exact(rfl:_=22)|exact(rfl:_=23)|exact(rfl:_=24)|exact(rfl:_=25)|exact(rfl:_=26)|exact(rfl:_=27)|exact(rfl:_=28)|exact(rfl:_=29)|exact(rfl:_=30)|exact(rfl:_=31)|exact(rfl:_=32)|exact(rfl:_=33)|exact(rfl:_=34)|exact(rfl:_=35)|exact(rfl:_=36)|exact(rfl:_=37)|exact(rfl:_=38)|exact(rfl:_=39)):P:=h
inductive D where
 |junk
 |int (k:IntKind) (n:Int)
 |bool (b:Bool)
 |str (l:List UInt8)
 |v (x:Value)
 |agg (cs:List D)
 |sl (s:Nat) (es:List (List D))
 |rp (cs:List D)
 |h (o:Nat)
 |hp (o:Nat) (off:Nat)
 |hr (o:Nat) (s:Nat) (i:Nat) (off:Nat)
 |hs (o:Nat) (s:Nat) (a b:Nat)
 |aN (ds:List D)
 |clo (f:Fn) (ds:List D)
instance:Inhabited D:=⟨.junk⟩
inductive RO (F:Nat→Prop) (w:World):Value→D→Prop
 |junk (x:Value):RO F w x .junk
 |int (k:IntKind) (n:Int):RO F w (.int k n) (.int k n)
 |bool (b:Bool):RO F w (.bool b) (.bool b)
 |str (l:List UInt8) (hl:l.length≤maxLen):RO F w (.string ⟨l.toArray⟩) (.str l)
 |v (x:Value):RO F w x (.v x)
 |agg (cs:List Value) (ds:List D) (hl:cs.length=ds.length) (h1: ∀u∈cs,u.oneCell'=true)
   (h: ∀i,i<ds.length→RO F w (cs.getD i undef) (ds.getD i .junk)):RO F w (.agg cs.toArray) (.agg ds)
 |aN (cs:List Value) (ds:List D) (hl:cs.length=ds.length)
   (h: ∀i,i<ds.length→RO F w (cs.getD i undef) (ds.getD i .junk)):RO F w (.tuple cs.toArray) (.aN ds)
 |clo (f:Fn) (cs:List Value) (ds:List D) (hl:cs.length=ds.length)
   (h: ∀i,i<ds.length→RO F w (cs.getD i undef) (ds.getD i .junk)):RO F w (.func f #[] cs.toArray) (.clo f ds)
 |slnil (s:Nat) (a:Option Addr) (cap:Nat):RO F w (.slice a 0 cap) (.sl s [])
 |sl (s:Nat) (es:List (List D)) (b off len cap:Nat) (c:Nat→Nat→Value) (hlen:len=es.length) (hF:F b) (hcap:len≤cap) (hm:cap≤maxLen)
   (hs: ∀i,i<es.length→(es.getD i []).length=s)
   (hc: ∀i j,i<es.length→j<s→w.cell? ⟨b,off+i*s+j,none⟩=some (c i j)∧(c i j).oneCell'=true)
   (hr: ∀i j,i<es.length→j<s→RO F w (c i j) ((es.getD i []).getD j .junk)):RO F w (.slice (some ⟨b,off,none⟩) len cap) (.sl s es)
 |rp (cs:List D) (b off:Nat) (c:Nat→Value) (hF:F b)
   (hc: ∀j,j<cs.length→w.cell? ⟨b,off+j,none⟩=some (c j)∧(c j).oneCell'=true)
   (hr: ∀j,j<cs.length→RO F w (c j) (cs.getD j .junk)):RO F w (.pointer (some ⟨b,off,none⟩)) (.rp cs)
theorem P7{w w':World}{a:Addr}(h:w'.heap[a.block]? =w.heap[a.block]?):w'.cell? a=w.cell? a:=World.cell?_of_block h
theorem RO.mono{F F':Nat→Prop}{w w':World}(hF: ∀b,F b→F' b∧w'.heap[b]? =w.heap[b]?){v:Value}{d:D}(h:RO F w v d):RO F' w' v d:=by
 induction h with
 |junk x=>exact .junk x
 |int k n=>exact .int k n
 |bool b=>exact .bool b
 |str l hl=>exact .str l hl
 |v x=>exact .v x
 |agg cs ds hl h1 _ ih=>exact .agg cs ds hl h1 ih
 |aN cs ds hl _ ih=>exact .aN cs ds hl ih
 |clo f cs ds hl _ ih=>exact .clo f cs ds hl ih
 |slnil s a cap=>exact .slnil s a cap
 |sl s es b off len cap c hlen hb hcap hm hs hc _ ih=>
  exact .sl s es b off len cap c hlen (hF b hb).1 hcap hm hs (fun i j hi hj=>by rw[P7 (hF b hb).2];exact hc i j hi hj) ih
 |rp cs b off c hb hc _ ih=>
  exact .rp cs b off c (hF b hb).1 (fun j hj=>by rw[P7 (hF b hb).2];exact hc j hj) ih
def nY(F:Nat→Prop)(w:World)(g:Nat)(cs:List D):Prop:=
 RO F w (.pointer (some ⟨g,0,none⟩)) (.rp cs)∧F g∧ ∃c T fr,w.heap[g]? =some (.cells c T fr)∧c.size=cs.length
theorem nY.mono{F F':Nat→Prop}{w w':World}{g:Nat}{cs:List D}(h:nY F w g cs)(hF: ∀b,F b→F' b∧w'.heap[b]? =w.heap[b]?):nY F' w' g cs:=by
 obtain⟨h1,h2,c,T,fr,h3,h4⟩:=h
 exact⟨h1.mono hF,(hF g h2).1,c,T,fr,by rw[(hF g h2).2];exact h3,h4⟩
def blk:Value→Option Nat
 | .slice (some a) _ _=>some a.block
 | .pointer (some a)=>some a.block
 | .map (some b)=>some b
 |_=>none
def Sub(s a b:Nat)(x v:Value):Prop:= ∃p len cap q,x= .slice p len cap∧a≤b∧b≤cap∧len≤cap∧v= .slice q (b-a) (cap-a)∧(a<cap∨a=0→q=p.map (·.add (a*s)))
inductive Rep (F:Nat→Prop) (β:Nat→Option Value) (w:World):Value→D→Prop
 |ro (x:Value) (d:D) (h:RO F w x d):Rep F β w x d
 |h (o:Nat) (x:Value) (h:β o=some x):Rep F β w x (.h o)
 |hp (o off b:Nat) (x:Value) (h:β o=some x) (hb:blk x=some b):Rep F β w (.pointer (some ⟨b,off,none⟩)) (.hp o off)
 |hr (o s i off b:Nat) (x:Value) (h:β o=some x) (hb:blk x=some b):Rep F β w (.pointer (some ⟨b,i*s+off,none⟩)) (.hr o s i off)
 |hs (o s a b:Nat) (x v:Value) (h:β o=some x) (hv:Sub s a b x v):Rep F β w v (.hs o s a b)
 |agg (cs:List Value) (ds:List D) (hl:cs.length=ds.length) (h1: ∀u∈cs,u.oneCell'=true)
   (h: ∀i,i<ds.length→Rep F β w (cs.getD i undef) (ds.getD i .junk)):Rep F β w (.agg cs.toArray) (.agg ds)
 |aN (cs:List Value) (ds:List D) (hl:cs.length=ds.length)
   (h: ∀i,i<ds.length→Rep F β w (cs.getD i undef) (ds.getD i .junk)):Rep F β w (.tuple cs.toArray) (.aN ds)
 |clo (f:Fn) (cs:List Value) (ds:List D) (hl:cs.length=ds.length)
   (h: ∀i,i<ds.length→Rep F β w (cs.getD i undef) (ds.getD i .junk)):Rep F β w (.func f #[] cs.toArray) (.clo f ds)
end Go.Eng
namespace Go.Eng
open Go Go.RowKit
theorem Rep.mono{F F':Nat→Prop}{β β':Nat→Option Value}{w w':World}(hF: ∀b,F b→F' b∧w'.heap[b]? =w.heap[b]?)
 (hβ: ∀o x,β o=some x→β' o=some x){v:Value}{d:D}(h:Rep F β w v d):Rep F' β' w' v d:=by
 induction h with
 |ro x d h=>exact .ro x d (h.mono hF)
 |h o x h=>exact .h o x (hβ _ _ h)
 |hp o off b x h hb=>exact .hp o off b x (hβ _ _ h) hb
 |hr o s i off b x h hb=>exact .hr o s i off b x (hβ _ _ h) hb
 |hs o s a b x v h hv=>exact .hs o s a b x v (hβ _ _ h) hv
 |agg cs ds hl h1 _ ih=>exact .agg cs ds hl h1 ih
 |aN cs ds hl _ ih=>exact .aN cs ds hl ih
 |clo f cs ds hl _ ih=>exact .clo f cs ds hl ih
def look:List (Nat×D)→Nat→D
 |[],_=> .junk
 |(k,d)::r,i=>bif Nat.beq i k then d else look r i
inductive Obj where
 |dead
 |row (e:TypeId) (s:Nat) (es:List (List D))
 |box (cs:List D)
 |frame (vs:List Value) (e:List (Nat×D))
 |blk (e:TypeId) (s:Nat) (cs:List (List D)) (c:Nat)
 |raw (e:TypeId) (s:Nat) (es:List (List D))
 |map (P:Program) (k e:TypeId) (n:Nat) (f:List UInt8→Int)
instance:Inhabited Obj:=⟨.dead⟩
def Obj.live:Obj→Prop
 | .dead=>False
 |_=>True
def gu(F:Nat→Prop)(w:World)(e:TypeId)(s:Nat)(es:List (List D))(x:Value):Prop:=
 es.length≤maxLen∧(∀i,i<es.length→(es.getD i []).length=s)∧
  ∃xs,w.ownsRow 0 e s x es.length xs∧(∀u∈xs,u.oneCell'=true)∧ ∀i j,i<es.length→j<s→RO F w (xs.getD (i*s+j) undef) ((es.getD i []).getD j .junk)
def Ic(F:Nat→Prop)(β:Nat→Option Value)(w:World)(cs:List D)(x:Value):Prop:=
 ∃b c T,x= .pointer (some ⟨b,0,none⟩)∧w.heap[b]? =some (.cells c T (0,0))∧c.size=cs.length∧(∀u∈c.toList,u.oneCell'=true)∧
  ∀j,j<cs.length→Rep F β w (c.toList.getD j undef) (cs.getD j .junk)
def Xw(F:Nat→Prop)(β:Nat→Option Value)(w:World)(vs:List Value)(e:List (Nat×D))(x:Value):Prop:=x= .bool true∧ ∀i,Rep F β w (vs.getD i undef) (look e i)
def wH(F:Nat→Prop)(w:World)(e:TypeId)(s:Nat)(cs:List (List D))(c:Nat)(x:Value):Prop:=
 ∃g cur,x= .slice (some ⟨g,0,none⟩) c c∧w.heap[g]? =some (.cells cur e (0,0))∧cs.length≤c∧c≤maxLen∧cur.size=c*s∧(∀i,i<cs.length→(cs.getD i []).length=s)∧
  ∀i j,i<cs.length→j<s→(cur.toList.getD (i*s+j) undef).oneCell'=true∧RO F w (cur.toList.getD (i*s+j) undef) ((cs.getD i []).getD j .junk)
def EN(F:Nat→Prop)(w:World)(e:TypeId)(s:Nat)(es:List (List D))(x:Value):Prop:=
 ∃g cap cur m,x= .slice (some ⟨g,0,none⟩) es.length cap∧w.heap[g]? =some (.cells cur e (m,m+1))∧cur.size≤m∧(es.length≤cap∧cap≤maxLen)∧es.length*s≤cur.size∧(∀i,i<es.length→(es.getD i []).length=s)∧
  ∀i j,i<es.length→j<s→(cur.toList.getD (i*s+j) undef).oneCell'=true∧RO F w (cur.toList.getD (i*s+j) undef) ((es.getD i []).getD j .junk)
structure Oe (P:Program) (k e:TypeId):Prop where
 keyed:Go.Maps.Keyed P k
 str:P.underlying k=some .string
 int:P.underlying e=some (.int .i64)
 zero: ∀w,(zeroValue e).run P w= .ok (.int .i64 0) w
def yH(w:World)(P:Program)(k e:TypeId)(n:Nat)(f:List UInt8→Int)(x:Value):Prop:=
 Oe P k e∧ ∃b m D,x= .map (some b)∧m≤n∧w.ownsMap (H:=Unit) P k (plainElem P e) b m D∧Go.Maps.IsMap D∧ ∀l:List UInt8,D.atKey (.string l) (.lit (.int .i64 0))= .lit (.int .i64 (f l))
theorem afM{w w':World}{P:Program}{k e:TypeId}{b m:Nat}{D:DataW Unit}(hb:w'.heap[b]? =w.heap[b]?)(h:w.ownsMap P k (plainElem P e) b m D):w'.ownsMap P k (plainElem P e) b m D:=by
 obtain⟨es,clock,h1,h2⟩:=h
 exact⟨es,clock,by rw[hb];exact h1,h2⟩
theorem yH.heap{w w':World}{P:Program}{k e:TypeId}{n:Nat}{f:List UInt8→Int}{x:Value}(hb: ∀b,blk x=some b→w'.heap[b]? =w.heap[b]?)(h:yH w P k e n f x):yH w' P k e n f x:=by
 obtain⟨h1,b,m,D,rfl,h2,h3,h4,h5⟩:=h
 exact⟨h1,b,m,D,rfl,h2,afM (hb b rfl) h3,h4,h5⟩
def Own(F:Nat→Prop)(β:Nat→Option Value)(w:World):Obj→Value→Prop
 | .dead,_=>True
 | .row e s es,x=>gu F w e s es x
 | .box cs,x=>Ic F β w cs x
 | .frame vs e,x=>Xw F β w vs e x
 | .blk e s cs c,x=>wH F w e s cs c x
 | .raw e s es,x=>EN F w e s es x
 | .map P k e n f,x=>yH w P k e n f x
theorem Own.lt{F:Nat→Prop}{β:Nat→Option Value}{w:World}{o:Obj}{x:Value}(hl:o.live)(h:Own F β w o x): ∀b,blk x=some b→b<w.heap.size:=by
 intro b hb
 cases o with
 |dead=>exact hl.elim
 |row e s es=>
  obtain⟨_,_,xs,h,_⟩:=h
  rcases h.2 with⟨rfl,_⟩|⟨g,cap,cur,rfl,_,hg,_⟩
  ·simp[blk] at hb
  ·simp[blk] at hb
   subst hb
   exact(Array.getElem?_eq_some_iff.1 hg).1
 |box cs=>
  obtain⟨b',c,T,rfl,hg,_⟩:=h
  simp[blk] at hb
  subst hb
  exact(Array.getElem?_eq_some_iff.1 hg).1
 |frame vs e=>
  obtain⟨rfl,_⟩:=h
  simp[Eng.blk] at hb
 |blk e s cs c=>
  obtain⟨g,cur,rfl,hg,_⟩:=h
  simp[Eng.blk] at hb
  subst hb
  exact(Array.getElem?_eq_some_iff.1 hg).1
 |raw e s es=>
  obtain⟨g,cap,cur,m,rfl,hg,_⟩:=h
  simp[Eng.blk] at hb
  subst hb
  exact(Array.getElem?_eq_some_iff.1 hg).1
 |map P k e n f=>
  obtain⟨_,b',m,D,rfl,_,h3,_⟩:=h
  simp[Eng.blk] at hb
  subst hb
  exact h3.lt
theorem MB{w w':World}{base:Nat}{e:TypeId}{s:Nat}{x:Value}{n:Nat}{xs:List Value}(hb: ∀b,blk x=some b→w'.heap[b]? =w.heap[b]?)
 (h:w.ownsRow base e s x n xs):w'.ownsRow base e s x n xs:=by
 refine⟨h.1,?_⟩
 rcases h.2 with hn|⟨g,cap,cur,rfl,hbg,hg,r⟩
 ·exact .inl hn
 ·exact .inr ⟨g,cap,cur,rfl,hbg,by rw[hb g rfl];exact hg,r⟩
theorem Own.mono{F F':Nat→Prop}{β β':Nat→Option Value}{w w':World}(hF: ∀b,F b→F' b∧w'.heap[b]? =w.heap[b]?)
 (hβ: ∀o x,β o=some x→β' o=some x){o:Obj}{x:Value}(hb: ∀b,blk x=some b→w'.heap[b]? =w.heap[b]?)(h:Own F β w o x):Own F' β' w' o x:=by
 cases o with
 |dead=>trivial
 |row e s es=>
  obtain⟨h1,h2,xs,h3,h4,h5⟩:=h
  exact⟨h1,h2,xs,MB hb h3,h4,fun i j hi hj=>(h5 i j hi hj).mono hF⟩
 |box cs=>
  obtain⟨b,c,T,rfl,hg,hs,h1,hr⟩:=h
  exact⟨b,c,T,rfl,by rw[hb b rfl];exact hg,hs,h1,fun j hj=>(hr j hj).mono hF hβ⟩
 |frame vs e=>exact⟨h.1,fun i=>(h.2 i).mono hF hβ⟩
 |blk e s cs c=>
  obtain⟨g,cur,rfl,hg,h2,h3,h4,h5,h6⟩:=h
  exact⟨g,cur,rfl,by rw[hb g rfl];exact hg,h2,h3,h4,h5,fun i j hi hj=>⟨(h6 i j hi hj).1,(h6 i j hi hj).2.mono hF⟩⟩
 |raw e s es=>
  obtain⟨g,cap,cur,m,rfl,hg,h2,h3,h4,h5,h6⟩:=h
  exact⟨g,cap,cur,m,rfl,by rw[hb g rfl];exact hg,h2,h3,h4,h5,fun i j hi hj=>⟨(h6 i j hi hj).1,(h6 i j hi hj).2.mono hF⟩⟩
 |map P k e n f=>exact yH.heap hb h
structure KeptL (B:Nat) (L:Nat→Prop) (w w':World):Prop where
 os:w'.os=w.os
 tape:w'.tape=w.tape
 output:w'.output=w.output
 size:w.heap.size≤w'.heap.size
 block: ∀k,k<B→ ¬L k→w'.heap[k]? =w.heap[k]?
theorem KeptL.refl(B:Nat)(L:Nat→Prop)(w:World):KeptL B L w w:=⟨rfl,rfl,rfl,Nat.le_refl _,fun _ _ _=>rfl⟩
theorem KeptL.trans{B:Nat}{L:Nat→Prop}{a b c:World}(h:KeptL B L a b)(k:KeptL B L b c):KeptL B L a c:=
 ⟨k.os.trans h.os,k.tape.trans h.tape,k.output.trans h.output,Nat.le_trans h.size k.size,fun i hi hl=>(k.block i hi hl).trans (h.block i hi hl)⟩
theorem KeptL.below{B:Nat}{w w':World}(h:KeptL B (fun _=>False) w w'):Below B w w':=
 ⟨h.os,h.tape,h.output,h.size,fun k hk=>h.block k hk (fun f=>f)⟩
structure Ctx where
 P:Program
 w0:World
 F0:Nat→Prop
 lent:Nat→Prop
 β0:Nat→Option Value
structure St where
 env:List (Nat×D)
 nt:Nat
 objs:List Obj
 g:Nat→Option (List D)
 pin:Nat
def St.n(st:St):Nat:=st.objs.length
def St.obj(st:St)(o:Nat):Obj:=st.objs.getD o .dead
theorem lQ{i t:Nat}(h:i≠t):Nat.beq i t=false:=by
 cases hb:Nat.beq i t with
 |false=>rfl
 |true=>exact absurd (Nat.eq_of_beq_eq_true hb) h
theorem AQ(r:List (Nat×D))(t:Nat)(d:D):look ((t,d)::r) t=d:=by simp[look]
theorem x9(r:List (Nat×D)){t i:Nat}(d:D)(h:i≠t):look ((t,d)::r) i=look r i:=by simp[look,lQ h]
def St.put(st:St):Option Nat→D→St
 |none,_=>st
 |some t,d=>bif Nat.blt t st.nt then { st with env:=(t,d)::st.env } else st
def St.push(st:St)(ob:Obj):St:= { st with objs:=st.objs++[ob] }
theorem MK(st:St)(ob:Obj):(st.push ob).obj st.n=ob:=by
 simp[St.push,St.obj,St.n,List.getD_eq_getElem?_getD]
theorem Ej(st:St)(ob:Obj){o:Nat}(h:o≠st.n):(st.push ob).obj o=st.obj o:=by
 have h':o≠st.objs.length:=h
 simp only[St.push,St.obj,List.getD_eq_getElem?_getD]
 rcases Nat.lt_or_ge o st.objs.length with hl|hl
 ·rw[List.getElem?_append_left hl]
 ·rw[List.getElem?_eq_none (by simp;omega),List.getElem?_eq_none hl]
theorem Bh(st:St)(ob:Obj):(st.push ob).n=st.n+1:=by simp[St.push,St.n]
def FX(X:Ctx)(st:St)(β:Nat→Option Value)(w:World)(b:Nat):Prop:=
 b<w.heap.size∧(X.F0 b∨X.w0.heap.size≤b∨X.lent b)∧ ∀o,o<st.n→(st.obj o).live→ ∀x,β o=some x→blk x≠some b
structure Rel (X:Ctx) (st:St) (β:Nat→Option Value) (a:Act) (w:World):Prop where
 defers:a.defers=[]
 size:a.tmps.size=st.nt
 tmps: ∀i,Rep (FX X st β w) β w (a.tmps.getD i undef) (look st.env i)
 dom: ∀o x,β o=some x→o<st.n∧(st.obj o).live
 own: ∀o,o<st.n→(st.obj o).live→ ∃x,β o=some x∧Own (FX X st β w) β w (st.obj o) x
 sep: ∀o o' x x' b,β o=some x→β o'=some x'→blk x=some b→blk x'=some b→o=o'
 low: ∀o x b,β o=some x→blk x=some b→X.w0.heap.size≤b∨X.lent b
 kept:KeptL X.w0.heap.size X.lent X.w0 w
 glob: ∀g cs,st.g g=some cs→nY (FX X st β w) w g cs
 stay: ∀o,o<st.pin→β o=X.β0 o
 pinned:st.pin≤st.n
theorem FX.of_eq{X:Ctx}{st st':St}{β:Nat→Option Value}{w:World}(ho:st'.objs=st.objs):FX X st' β w=FX X st β w:=by
 funext b
 simp[FX,St.n,St.obj,ho]
theorem Rel.lt'{X:Ctx}{st:St}{β:Nat→Option Value}{a:Act}{w:World}(h:Rel X st β a w){o:Nat}{x:Value}(hx:β o=some x){b:Nat}(hb:blk x=some b):b<w.heap.size:=by
 obtain⟨h1,h2⟩:=h.dom o x hx
 obtain⟨y,hy,hw⟩:=h.own o h1 h2
 rw[hx] at hy
 cases hy
 exact Own.lt h2 hw b hb
theorem Rel.put{X:Ctx}{st:St}{β:Nat→Option Value}{a:Act}{w:World}(h:Rel X st β a w)(dst:Option Nat){v:Value}{d:D}(hv:Rep (FX X st β w) β w v d):
 Rel X (st.put dst d) β (a.put dst v) w:=by
 cases dst with
 |none=>exact h
 |some t=>
  unfold St.put Act.put
  by_cases ht:t<st.nt
  ·have hb:Nat.blt t st.nt=true:=by simp[Nat.blt_eq,ht]
   simp only[hb,cond_true]
   refine⟨h.defers,by simp[h.size],fun i=> ?_,h.dom,h.own,h.sep,h.low,h.kept,h.glob,h.stay,h.pinned⟩
   show Rep (FX X st β w) β w ((a.tmps.setIfInBounds t v).getD i undef) (look ((t,d)::st.env) i)
   by_cases hi:i=t
   ·subst hi
    have hs:i<a.tmps.size:=by rw[h.size];exact ht
    simpa[AQ,hs] using hv
   ·rw[x9 _ _ hi]
    have:=h.tmps i
    simpa[Array.getElem?_setIfInBounds_ne (Ne.symm hi)] using this
  ·have hb:Nat.blt t st.nt=false:=by
    cases hb:Nat.blt t st.nt with
    |false=>rfl
    |true=>exact absurd (by simpa using hb) ht
   have hs:a.tmps.setIfInBounds t v=a.tmps:=by
    rw[Array.setIfInBounds_eq_of_size_le (by rw[h.size];omega)]
   simp only[hb,cond_false,hs]
   exact h
theorem Rel.same{X:Ctx}{st:St}{β:Nat→Option Value}{a:Act}{w w':World}(h:Rel X st β a w)(hh:w'.heap=w.heap)(ho:w'.os=w.os)(ht:w'.tape=w.tape)(hu:w'.output=w.output):Rel X st β a w':=by
 have hF: ∀b,FX X st β w b→FX X st β w' b∧w'.heap[b]? =w.heap[b]? :=fun b hb=>⟨by unfold FX at*;rw[hh];exact hb,by rw[hh]⟩
 exact⟨h.defers,h.size,fun i=>(h.tmps i).mono hF (fun _ _ h=>h),h.dom,fun o hn hl=>let⟨x,hx,hw⟩:=h.own o hn hl;⟨x,hx,hw.mono hF (fun _ _ h=>h) (fun b _=>by rw[hh])⟩,
  h.sep,h.low,h.kept.trans ⟨ho,ht,hu,by rw[hh];exact Nat.le_refl _,fun k _ _=>by rw[hh]⟩,fun g cs hg=>(h.glob g cs hg).mono hF,h.stay,h.pinned⟩
theorem Rel.drew{X:Ctx}{st:St}{β:Nat→Option Value}{a:Act}{w:World}(h:Rel X st β a w):Rel X st β a { w with drawn:=w.drawn+1 } :=h.same rfl rfl rfl rfl
def dY(β:Nat→Option Value)(n:Nat)(x:Value):Nat→Option Value:=fun i=>if i=n then some x else β i
theorem dY.ext{β:Nat→Option Value}{n:Nat}{x:Value}(hn:β n=none): ∀o y,β o=some y→dY β n x o=some y:=by
 intro o y h
 unfold dY
 by_cases e:o=n
 ·subst e;rw[hn] at h;cases h
 ·rw[if_neg e];exact h
theorem Rel.newObj{X:Ctx}{st:St}{β:Nat→Option Value}{a:Act}{w w':World}(h:Rel X st β a w)(hg:w.grownBy w' none)(ob:Obj)(hob:ob.live)(x:Value)
 (hx: ∀b,blk x=some b→w.heap.size≤b)
 (ho: ∀F' β',(∀b,FX X st β w b→F' b∧w'.heap[b]? =w.heap[b]?)→(∀o y,β o=some y→β' o=some y)→Own F' β' w' ob x):
 Rel X (st.push ob) (dY β st.n x) a w':=by
 have hn:β st.n=none:=by
  cases e:β st.n with
  |none=>rfl
  |some y=>exact absurd (h.dom _ _ e).1 (by omega)
 have hsame: ∀b,b<w.heap.size→w'.heap[b]? =w.heap[b]? :=fun b hb=>hg.block b hb (by simp)
 have hF: ∀b,FX X st β w b→FX X (st.push ob) (dY β st.n x) w' b∧w'.heap[b]? =w.heap[b]? :=by
  intro b hb
  refine⟨⟨Nat.lt_of_lt_of_le hb.1 hg.size,hb.2.1,fun o hon hl y hy=> ?_⟩,hsame b hb.1⟩
  unfold dY at hy
  by_cases e:o=st.n
  ·rw[if_pos e] at hy
   cases hy
   intro hbx
   have:=hx b hbx
   have:=hb.1
   omega
  ·rw[if_neg e] at hy
   exact hb.2.2 o (h.dom o y hy).1 (h.dom o y hy).2 y hy
 have hext:=dY.ext (x:=x) hn
 refine⟨h.defers,h.size,fun i=>(h.tmps i).mono hF hext,?_,?_,?_,?_,h.kept.trans ⟨hg.os,hg.tape,hg.output,hg.size,fun k hk _=>hsame k (Nat.lt_of_lt_of_le hk h.kept.size)⟩,fun g cs hgl=>(h.glob g cs hgl).mono hF,fun o ho=> ?_,by rw[Bh];exact Nat.le_succ_of_le h.pinned⟩
 ·intro o y hy
  unfold dY at hy
  by_cases e:o=st.n
  ·subst e
   exact⟨by rw[Bh];omega,by rw[MK];exact hob⟩
  ·rw[if_neg e] at hy
   have:=h.dom o y hy
   exact⟨by rw[Bh];omega,by rw[Ej _ _ e];exact this.2⟩
 ·intro o hon hl
  by_cases e:o=st.n
  ·subst e
   refine⟨x,by simp[dY],?_⟩
   rw[MK]
   exact ho _ _ hF hext
  ·have hl':(st.obj o).live:=by
    rwa [Ej _ _ e] at hl
   obtain⟨y,hy,hw⟩:=h.own o (by rw[Bh] at hon;omega) hl'
   refine⟨y,hext _ _ hy,?_⟩
   rw[Ej _ _ e]
   exact hw.mono hF hext (fun b hb=>hsame b (Own.lt hl' hw b hb))
 ·intro o o' y y' b hy hy' hb hb'
  have key: ∀o y,o≠st.n→dY β st.n x o=some y→ ∀b,blk y=some b→b<w.heap.size:=by
   intro o y e hy b hb
   unfold dY at hy
   rw[if_neg e] at hy
   obtain⟨hon,hl⟩:=h.dom o y hy
   obtain⟨y2,hy2,hw⟩:=h.own o hon hl
   rw[hy] at hy2
   cases hy2
   exact Own.lt hl hw b hb
  by_cases e:o=st.n<;>by_cases e':o'=st.n
  ·rw[e,e']
  ·exfalso
   subst e
   simp[dY] at hy
   subst hy
   have:=key o' y' e' hy' b hb'
   have:=hx b hb
   omega
  ·exfalso
   subst e'
   simp[dY] at hy'
   subst hy'
   have:=key o y e hy b hb
   have:=hx b hb'
   omega
  ·unfold dY at hy hy'
   rw[if_neg e] at hy
   rw[if_neg e'] at hy'
   exact h.sep o o' y y' b hy hy' hb hb'
 ·intro o y b hy hb
  unfold dY at hy
  by_cases e:o=st.n
  ·rw[if_pos e] at hy
   cases hy
   exact .inl (Nat.le_trans h.kept.size (hx b hb))
  ·rw[if_neg e] at hy
   exact h.low o y b hy hb
 ·have hp:st.pin≤st.n:=h.pinned
  have ho':o<st.pin:=ho
  unfold dY
  rw[if_neg (by omega)]
  exact h.stay o ho'
end Go.Eng
namespace Go.Eng
open Go Go.RowKit
theorem gy(f:D→D)(hf:f .junk= .junk)(ds:List D)(i:Nat):(ds.map f).getD i .junk=f (ds.getD i .junk):=by
 simp only[List.getD_eq_getElem?_getD,List.getElem?_map]
 cases ds[i]? <;>simp[hf]
section
variable {F:Nat→Prop} {β:Nat→Option Value} {w:World}
theorem Rep.jM{v:Value}{ds:List D}(h:Rep F β w v (.agg ds)): ∃cs:List Value,v= .agg cs.toArray∧cs.length=ds.length∧(∀u∈cs,u.oneCell'=true)∧ ∀i,i<ds.length→Rep F β w (cs.getD i undef) (ds.getD i .junk):=by
 cases h with
 |ro x d h=>
  cases h with
  |agg cs ds hl h1 h=>exact⟨cs,rfl,hl,h1,fun i hi=> .ro _ _ (h i hi)⟩
 |agg cs ds hl h1 h=>exact⟨cs,rfl,hl,h1,h⟩
theorem Rep.pz{v:Value}{ds:List D}(h:Rep F β w v (.aN ds)): ∃cs:List Value,v= .tuple cs.toArray∧cs.length=ds.length∧ ∀i,i<ds.length→Rep F β w (cs.getD i undef) (ds.getD i .junk):=by
 cases h with
 |ro x d h=>
  cases h with
  |aN cs ds hl h=>exact⟨cs,rfl,hl,fun i hi=> .ro _ _ (h i hi)⟩
 |aN cs ds hl h=>exact⟨cs,rfl,hl,h⟩
theorem Rep.qR{v:Value}{f:Fn}{ds:List D}(h:Rep F β w v (.clo f ds)): ∃cs:List Value,v= .func f #[] cs.toArray∧cs.length=ds.length∧ ∀i,i<ds.length→Rep F β w (cs.getD i undef) (ds.getD i .junk):=by
 cases h with
 |ro x d h=>
  cases h with
  |clo f cs ds hl h=>exact⟨cs,rfl,hl,fun i hi=> .ro _ _ (h i hi)⟩
 |clo f cs ds hl h=>exact⟨cs,rfl,hl,h⟩
theorem Rep.iM{v:Value}{o:Nat}(h:Rep F β w v (.h o)):β o=some v:=by
 cases h with
 |ro x d h=>cases h
 |h o x h=>exact h
theorem Rep.xX{v:Value}{o k:Nat}(h:Rep F β w v (.hp o k)): ∃b x,β o=some x∧blk x=some b∧v= .pointer (some ⟨b,k,none⟩):=by
 cases h with
 |ro x d h=>cases h
 |hp o off b x h hb=>exact⟨b,x,h,hb,rfl⟩
theorem Rep.xY{v:Value}{o s i k:Nat}(h:Rep F β w v (.hr o s i k)): ∃b x,β o=some x∧blk x=some b∧v= .pointer (some ⟨b,i*s+k,none⟩):=by
 cases h with
 |ro x d h=>cases h
 |hr o s i off b x h hb=>exact⟨b,x,h,hb,rfl⟩
theorem Rep.mO{v:Value}{o s a b:Nat}(h:Rep F β w v (.hs o s a b)): ∃x,β o=some x∧Sub s a b x v:=by
 cases h with
 |ro x d h=>cases h
 |hs o s a b x v h hv=>exact⟨x,h,hv⟩
theorem Rep.eU{v:Value}{k:IntKind}{n:Int}(h:Rep F β w v (.int k n)):v= .int k n:=by
 cases h with
 |ro x d h=>cases h;rfl
theorem Rep.nJ{v:Value}{b:Bool}(h:Rep F β w v (.bool b)):v= .bool b:=by
 cases h with
 |ro x d h=>cases h;rfl
theorem Rep.nC{v:Value}{l:List UInt8}(h:Rep F β w v (.str l)):v= .string ⟨l.toArray⟩:=by
 cases h with
 |ro x d h=>cases h;rfl
theorem Rep.BI{v:Value}{l:List UInt8}(h:Rep F β w v (.str l)):l.length≤maxLen:=by
 cases h with
 |ro x d h=>cases h;assumption
theorem Rep.kZ{v x:Value}(h:Rep F β w v (.v x)):v=x:=by
 cases h with
 |ro x d h=>cases h;rfl
theorem Rep.uU{v:Value}{s:Nat}{es:List (List D)}(h:Rep F β w v (.sl s es)):RO F w v (.sl s es):=by
 cases h with
 |ro x d h=>exact h
theorem Rep.Eu{v:Value}{cs:List D}(h:Rep F β w v (.rp cs)):RO F w v (.rp cs):=by
 cases h with
 |ro x d h=>exact h
end
def kL(p:Nat→Bool):D→D
 | .h o=>bif p o then .junk else .h o
 | .hp o k=>bif p o then .junk else .hp o k
 | .hr o s i k=>bif p o then .junk else .hr o s i k
 | .hs o s a b=>bif p o then .junk else .hs o s a b
 | .agg _=> .junk
 | .aN _=> .junk
 | .clo _ _=> .junk
 |d=>d
def xZ(p:Nat→Bool):D→D
 | .agg cs=> .agg (cs.map (kL p))
 | .clo f cs=> .clo f (cs.map (kL p))
 | .aN _=> .junk
 |d=>kL p d
def kill(p:Nat→Bool):D→D
 | .aN ds=> .aN (ds.map (xZ p))
 |d=>xZ p d
def killE(p:Nat→Bool):List (Nat×D)→List (Nat×D)
 |[]=>[]
 |(k,d)::r=>(k,kill p d)::killE p r
def lF(p:Nat→Bool):Obj→Obj
 | .box cs=> .box (cs.map (xZ p))
 | .frame vs e=> .frame vs (killE p e)
 |ob=>ob
theorem look_killE(p:Nat→Bool)(e:List (Nat×D))(i:Nat):look (killE p e) i=kill p (look e i):=by
 induction e with
 |nil=>rfl
 |cons x r ih=>
  obtain⟨k,d⟩:=x
  simp only[killE,look]
  cases Nat.beq i k<;>simp[ih]
section
variable {F F':Nat→Prop} {β β':Nat→Option Value} {w w':World} {p:Nat→Bool}
 (hF: ∀b,F b→F' b∧w'.heap[b]? =w.heap[b]?) (hβ: ∀o x,p o=false→β o=some x→β' o=some x)
include hF hβ
theorem Rep.kL{v:Value}{d:D}(h:Rep F β w v d):Rep F' β' w' v (kL p d):=by
 cases h with
 |ro x d h=>
  cases d<;>simp only[Eng.kL]<;>first|exact .ro _ _ (.junk _)|exact .ro _ _ (h.mono hF)|cases h
 |h o x h=>
  simp only[Eng.kL]
  cases hp:p o with
  |true=>exact .ro _ _ (.junk _)
  |false=>exact .h _ _ (hβ _ _ hp h)
 |hp o off b x h hb=>
  simp only[Eng.kL]
  cases hp:p o with
  |true=>exact .ro _ _ (.junk _)
  |false=>exact .hp _ _ _ _ (hβ _ _ hp h) hb
 |hr o s i off b x h hb=>
  simp only[Eng.kL]
  cases hp:p o with
  |true=>exact .ro _ _ (.junk _)
  |false=>exact .hr _ _ _ _ _ _ (hβ _ _ hp h) hb
 |hs o s a b x v h hv=>
  simp only[Eng.kL]
  cases hp:p o with
  |true=>exact .ro _ _ (.junk _)
  |false=>exact .hs _ _ _ _ _ _ (hβ _ _ hp h) hv
 |agg=>exact .ro _ _ (.junk _)
 |aN=>exact .ro _ _ (.junk _)
 |clo=>exact .ro _ _ (.junk _)
theorem Rep.xZ{v:Value}{d:D}(h:Rep F β w v d):Rep F' β' w' v (xZ p d):=by
 cases d with
 |agg ds=>
  obtain⟨cs,rfl,hl,h1,hr⟩:=h.jM
  refine .agg _ _ (by simp[hl]) h1 (fun i hi=> ?_)
  rw[gy _ rfl]
  exact(hr i (by simpa using hi)).kL hF hβ
 |clo f ds=>
  obtain⟨cs,rfl,hl,hr⟩:=h.qR
  refine .clo _ _ _ (by simp[hl]) (fun i hi=> ?_)
  rw[gy _ rfl]
  exact(hr i (by simpa using hi)).kL hF hβ
 |aN ds=>exact .ro _ _ (.junk _)
 |_=>exact h.kL hF hβ
theorem Rep.kill{v:Value}{d:D}(h:Rep F β w v d):Rep F' β' w' v (kill p d):=by
 cases d with
 |aN ds=>
  obtain⟨cs,rfl,hl,hr⟩:=h.pz
  refine .aN _ _ (by simp[hl]) (fun i hi=> ?_)
  rw[gy _ rfl]
  exact(hr i (by simpa using hi)).xZ hF hβ
 |_=>exact h.xZ hF hβ
theorem Own.kill{o:Obj}{x:Value}(hb: ∀b,blk x=some b→w'.heap[b]? =w.heap[b]?)(h:Own F β w o x):Own F' β' w' (lF p o) x:=by
 cases o with
 |dead=>trivial
 |row e s es=>
  obtain⟨h1,h2,xs,h3,h4,h5⟩:=h
  exact⟨h1,h2,xs,MB hb h3,h4,fun i j hi hj=>(h5 i j hi hj).mono hF⟩
 |box cs=>
  obtain⟨b,c,T,rfl,hg,hs,h1,hr⟩:=h
  refine⟨b,c,T,rfl,by rw[hb b rfl];exact hg,by simp[hs],h1,fun j hj=> ?_⟩
  rw[gy _ rfl]
  exact(hr j (by simpa using hj)).xZ hF hβ
 |frame vs e=>
  obtain⟨rfl,hr⟩:=h
  refine⟨rfl,fun i=> ?_⟩
  rw[look_killE]
  exact(hr i).kill hF hβ
 |blk e s cs c=>
  obtain⟨g,cur,rfl,hg,h2,h3,h4,h5,h6⟩:=h
  exact⟨g,cur,rfl,by rw[hb g rfl];exact hg,h2,h3,h4,h5,fun i j hi hj=>⟨(h6 i j hi hj).1,(h6 i j hi hj).2.mono hF⟩⟩
 |raw e s es=>
  obtain⟨g,cap,cur,m,rfl,hg,h2,h3,h4,h5,h6⟩:=h
  exact⟨g,cap,cur,m,rfl,by rw[hb g rfl];exact hg,h2,h3,h4,h5,fun i j hi hj=>⟨(h6 i j hi hj).1,(h6 i j hi hj).2.mono hF⟩⟩
 |map P k e n f=>exact yH.heap hb h
end
theorem AL{p:Nat→Bool}{o:Obj} :(lF p o).live↔o.live:=by cases o<;>simp[lF,Obj.live]
def St.setObj(st:St)(o:Nat)(ob:Obj):St:= { st with objs:=st.objs.set o ob }
theorem GI(st:St)(o:Nat)(ob:Obj):(st.setObj o ob).n=st.n:=by simp[St.setObj,St.n]
theorem Wi(st:St){o:Nat}(ob:Obj)(h:o<st.n):(st.setObj o ob).obj o=ob:=by
 have h':o<st.objs.length:=h
 simp[St.setObj,St.obj,List.getD_eq_getElem?_getD,h']
theorem Wh(st:St){o i:Nat}(ob:Obj)(h:i≠o):(st.setObj o ob).obj i=st.obj i:=by
 simp[St.setObj,St.obj,List.getD_eq_getElem?_getD,List.getElem?_set_ne (Ne.symm h)]
theorem Rel.store{X:Ctx}{st:St}{β:Nat→Option Value}{a:Act}{w w':World}(h:Rel X st β a w){o:Nat}{x:Value}(hx:β o=some x)(hg:w.grownBy w' (blk x))
 (ob:Obj)(hob:ob.live)(hown: ∀F',(∀b,FX X st β w b→F' b∧w'.heap[b]? =w.heap[b]?)→Own F' β w' ob x):Rel X (st.setObj o ob) β a w':=by
 obtain⟨hon,hol⟩:=h.dom o x hx
 have hlive: ∀i,i<st.n→(((st.setObj o ob).obj i).live↔(st.obj i).live):=by
  intro i hi
  by_cases e:i=o
  ·subst e;rw[Wi _ _ hi];exact⟨fun _=>hol,fun _=>hob⟩
  ·rw[Wh _ _ e]
 have hF: ∀b,FX X st β w b→FX X (st.setObj o ob) β w' b∧w'.heap[b]? =w.heap[b]? :=by
  intro b hb
  refine⟨⟨Nat.lt_of_lt_of_le hb.1 hg.size,hb.2.1,fun i hi hl y hy=> ?_⟩,hg.block b hb.1 (fun e=>hb.2.2 o hon hol x hx e.symm)⟩
  rw[GI] at hi
  exact hb.2.2 i hi ((hlive i hi).1 hl) y hy
 have hlow: ∀b,blk x=some b→X.w0.heap.size≤b∨X.lent b:=fun b hb=>h.low o x b hx hb
 refine⟨h.defers,h.size,fun i=>(h.tmps i).mono hF (fun _ _ h=>h),fun i y hy=> ?_,fun i hi hl=> ?_,h.sep,h.low,h.kept.trans ⟨hg.os,hg.tape,hg.output,hg.size,fun k hk hl=> ?_⟩,fun g cs hgl=>(h.glob g cs hgl).mono hF,h.stay,by rw[GI];exact h.pinned⟩
 ·have:=h.dom i y hy
  exact⟨by rw[GI];exact this.1,(hlive i this.1).2 this.2⟩
 ·rw[GI] at hi
  by_cases e:i=o
  ·subst e
   rw[Wi _ _ hi]
   exact⟨x,hx,hown _ hF⟩
  ·obtain⟨y,hy,hw⟩:=h.own i hi ((hlive i hi).1 hl)
   rw[Wh _ _ e]
   refine⟨y,hy,hw.mono hF (fun _ _ h=>h) (fun b hb=>hg.block b (Own.lt ((hlive i hi).1 hl) hw b hb) (fun e'=>e (h.sep i o y x b hy hx hb e'.symm)))⟩
 ·refine hg.block k (Nat.lt_of_lt_of_le hk h.kept.size) (fun e=> ?_)
  rcases hlow k e.symm with h'|h'
  ·omega
  ·exact hl h'
theorem Rel.grow{X:Ctx}{st:St}{β:Nat→Option Value}{a:Act}{w w':World}(h:Rel X st β a w){o:Nat}{x x':Value}(hx:β o=some x)(hg:w.grownBy w' (blk x))
 (hx': ∀b,blk x'=some b→blk x=some b∨w.heap.size≤b)(Sl:st.pin≤o)
 (ob:Obj)(hob:ob.live)(hown: ∀F' β',(∀b,FX X st β w b→F' b∧w'.heap[b]? =w.heap[b]?)→Own F' β' w' ob x'):
 Rel X (St.mk (killE (Nat.beq o) st.env) st.nt ((st.objs.map (lF (Nat.beq o))).set o ob) st.g st.pin) (fun i=>if i=o then some x' else β i) a w':=by
 obtain⟨hon,hol⟩:=h.dom o x hx
 have Kt:o<st.objs.length:=hon
 let st':St:=St.mk (killE (Nat.beq o) st.env) st.nt ((st.objs.map (lF (Nat.beq o))).set o ob) st.g st.pin
 let β':Nat→Option Value:=fun i=>if i=o then some x' else β i
 show Rel X st' β' a w'
 have hn:st'.n=st.n:=by simp[st',St.n]
 have hso:st'.obj o=ob:=by simp[st',St.obj,List.getD_eq_getElem?_getD,Kt]
 have hsn: ∀i,i≠o→st'.obj i=lF (Nat.beq o) (st.obj i):=by
  intro i hi
  simp only[st',St.obj,List.getD_eq_getElem?_getD,List.getElem?_set_ne (Ne.symm hi),List.getElem?_map]
  cases st.objs[i]? <;>simp[lF]
 have hlive: ∀i,(st'.obj i).live↔(st.obj i).live:=by
  intro i
  by_cases e:i=o
  ·subst e;rw[hso];exact⟨fun _=>hol,fun _=>hob⟩
  ·rw[hsn i e,AL]
 have hβ: ∀i y,Nat.beq o i=false→β i=some y→β' i=some y:=by
  intro i y hp hy
  have e:i≠o:=by intro e;subst e;simp at hp
  simp only[β',if_neg e]
  exact hy
 have hF: ∀b,FX X st β w b→FX X st' β' w' b∧w'.heap[b]? =w.heap[b]? :=by
  intro b hb
  refine⟨⟨Nat.lt_of_lt_of_le hb.1 hg.size,hb.2.1,fun i hi hl y hy=> ?_⟩,hg.block b hb.1 (fun e=>hb.2.2 o hon hol x hx e.symm)⟩
  rw[hn] at hi
  by_cases e:i=o
  ·simp only[β',if_pos e] at hy
   cases hy
   intro hbx
   rcases hx' b hbx with h'|h'
   ·exact hb.2.2 o hon hol x hx h'
   ·have:=hb.1;omega
  ·simp only[β',if_neg e] at hy
   exact hb.2.2 i hi ((hlive i).1 hl) y hy
 refine⟨h.defers,h.size,fun i=> ?_,fun i y hy=> ?_,fun i hi hl=> ?_,fun i i' y y' b hy hy' hb hb'=> ?_,fun i y b hy hb=> ?_,h.kept.trans ⟨hg.os,hg.tape,hg.output,hg.size,fun k hk hl=> ?_⟩,fun g cs hgl=>(h.glob g cs hgl).mono hF,fun i hi=> ?_,by rw[hn];exact h.pinned⟩
 ·show Rep _ β' w' _ (look (killE (Nat.beq o) st.env) i)
  rw[look_killE]
  exact(h.tmps i).kill hF hβ
 ·rw[hn,hlive]
  by_cases e:i=o
  ·subst e;exact⟨hon,hol⟩
  ·simp only[β',if_neg e] at hy
   exact h.dom i y hy
 ·by_cases e:i=o
  ·subst e
   rw[hso]
   exact⟨x',by simp[β'],hown _ _ hF⟩
  ·obtain⟨y,hy,hw⟩:=h.own i (hn▸hi) ((hlive i).1 hl)
   rw[hsn i e]
   refine⟨y,by simp only[β',if_neg e];exact hy,hw.kill hF hβ (fun b hb=>hg.block b (Own.lt ((hlive i).1 hl) hw b hb) (fun e'=>e (h.sep i o y x b hy hx hb e'.symm)))⟩
 ·have key: ∀i y,i≠o→β i=some y→ ∀b,blk y=some b→b<w.heap.size∧blk x≠some b:=by
   intro i y e hy b hb
   obtain⟨hin,hil⟩:=h.dom i y hy
   obtain⟨y2,hy2,hw⟩:=h.own i hin hil
   rw[hy] at hy2
   cases hy2
   exact⟨Own.lt hil hw b hb,fun hbx=>e (h.sep i o y x b hy hx hb hbx)⟩
  by_cases e:i=o<;>by_cases e':i'=o
  ·rw[e,e']
  ·exfalso
   simp only[β',if_pos e] at hy
   simp only[β',if_neg e'] at hy'
   cases hy
   obtain⟨k1,k2⟩:=key i' y' e' hy' b hb'
   rcases hx' b hb with h'|h'
   ·exact k2 h'
   ·omega
  ·exfalso
   simp only[β',if_neg e] at hy
   simp only[β',if_pos e'] at hy'
   cases hy'
   obtain⟨k1,k2⟩:=key i y e hy b hb
   rcases hx' b hb' with h'|h'
   ·exact k2 h'
   ·omega
  ·simp only[β',if_neg e] at hy
   simp only[β',if_neg e'] at hy'
   exact h.sep i i' y y' b hy hy' hb hb'
 ·by_cases e:i=o
  ·simp only[β',if_pos e] at hy
   cases hy
   rcases hx' b hb with h'|h'
   ·exact h.low o x b hx h'
   ·exact .inl (Nat.le_trans h.kept.size h')
  ·simp only[β',if_neg e] at hy
   exact h.low i y b hy hb
 ·refine hg.block k (Nat.lt_of_lt_of_le hk h.kept.size) (fun e=> ?_)
  rcases h.low o x k hx e.symm with h'|h'
  ·omega
  ·exact hl h'
 ·have hi':i<st.pin:=hi
  simp only[β',if_neg (show i≠o by omega)]
  exact h.stay i hi'
def Weak(st st':St):Prop:= ∀X β a w,Rel X st β a w→ ∃β',Rel X st' β' a w
theorem Weak.refl(st:St):Weak st st:=fun _ β _ _ h=>⟨β,h⟩
theorem Weak.trans{a b c:St}(h:Weak a b)(k:Weak b c):Weak a c:=fun X β ac w r=>let⟨β',r'⟩:=h X β ac w r;k X β' ac w r'
def zM(m:Nat)(e:List (Nat×D)):List (Nat×D)→Prop
 |[]=>True
 |(k,d)::r=>d=kill (Nat.ble m) (look e k)∧zM m e r
theorem zM.look{m:Nat}{e:List (Nat×D)} : ∀ {e':List (Nat×D)},zM m e e'→ ∀i,Eng.look e' i= .junk∨Eng.look e' i=kill (Nat.ble m) (Eng.look e i)
 |[],_,_=> .inl rfl
 |(k,d)::r,h,i=>by
  simp only[Eng.look]
  cases hb:Nat.beq i k with
  |true=>
   have:=Nat.eq_of_beq_eq_true hb
   subst this
   exact .inr h.1
  |false=>exact zM.look h.2 i
theorem Weak.drop(st:St)(m:Nat)(e':List (Nat×D))(jd:List Obj)(hm:m≤st.objs.length)(hp:st.pin≤m)(ho:jd=(st.objs.take m).map (lF (Nat.ble m)))(he:zM m st.env e'):
 Weak st ⟨e',st.nt,jd,st.g,st.pin⟩:=by
 intro X β a w h
 let st':St:=⟨e',st.nt,jd,st.g,st.pin⟩
 let β':Nat→Option Value:=fun i=>if i<m then β i else none
 have hn:st'.n=m:=by simp[st',St.n,ho,hm]
 have hob: ∀i,i<m→st'.obj i=lF (Nat.ble m) (st.obj i):=by
  intro i hi
  simp only[st',St.obj,ho,List.getD_eq_getElem?_getD,List.getElem?_map,List.getElem?_take_of_lt hi]
  cases st.objs[i]? <;>simp[lF]
 have hβ: ∀i y,Nat.ble m i=false→β i=some y→β' i=some y:=by
  intro i y hp hy
  have:i<m:=by
   rcases Nat.lt_or_ge i m with h|h
   ·exact h
   ·rw[show Nat.ble m i=true from by simpa using h] at hp;cases hp
  simp only[β',if_pos this]
  exact hy
 have hsub: ∀i y,β' i=some y→i<m∧β i=some y:=by
  intro i y hy
  by_cases e:i<m
  ·simp only[β',if_pos e] at hy;exact⟨e,hy⟩
  ·simp only[β',if_neg e] at hy;cases hy
 have hF: ∀b,FX X st β w b→FX X st' β' w b∧w.heap[b]? =w.heap[b]? :=by
  intro b hb
  refine⟨⟨hb.1,hb.2.1,fun i _ _ y hy=> ?_⟩,rfl⟩
  have h2:=(hsub i y hy).2
  exact hb.2.2 i (h.dom i y h2).1 (h.dom i y h2).2 y h2
 refine⟨β',h.defers,h.size,fun i=> ?_,fun i y hy=> ?_,fun i hi hl=> ?_,fun i i' y y' b hy hy' hb hb'=>h.sep i i' y y' b (hsub i y hy).2 (hsub i' y' hy').2 hb hb',fun i y b hy hb=>h.low i y b (hsub i y hy).2 hb,h.kept,fun g cs hgl=>(h.glob g cs hgl).mono hF,fun i hi=> ?_,by rw[hn];exact hp⟩
 ·show Rep _ β' w _ (Eng.look e' i)
  rcases he.look i with e|e
  ·rw[e];exact .ro _ _ (.junk _)
  ·rw[e];exact(h.tmps i).kill hF hβ
 ·have h2:=hsub i y hy
  have h3:=h.dom i y h2.2
  show i<st'.n∧(st'.obj i).live
  rw[hn,hob i h2.1,AL]
  exact⟨h2.1,h3.2⟩
 ·have hi':i<m:=by rw[←hn];exact hi
  have hl':(st.obj i).live:=by
   have:(st'.obj i).live:=hl
   rwa [hob i hi',AL] at this
  obtain⟨y,hy,hw⟩:=h.own i (Nat.lt_of_lt_of_le hi' hm) hl'
  refine⟨y,by simp only[β',if_pos hi'];exact hy,?_⟩
  show Own (FX X st' β' w) β' w (st'.obj i) y
  rw[hob i hi']
  exact hw.kill hF hβ (fun _ _=>rfl)
 ·have hi':i<st.pin:=hi
  simp only[β',if_pos (show i<m by omega)]
  exact h.stay i hi'
end Go.Eng
namespace Go.Eng
open Go Go.RowKit
def rC:Value→D
 | .int k n=> .int k n
 | .bool b=> .bool b
 | .string s=>bif Nat.ble s.data.toList.length 9223372036854775807 then .str s.data.toList else .v (.string s)
 |x=> .v x
def fQ:Value→D
 | .agg cs=>bif cs.toList.all (·.oneCell') then .agg (cs.toList.map rC) else .v (.agg cs)
 |x=>rC x
theorem RO.rC(F:Nat→Prop)(w:World)(x:Value):RO F w x (rC x):=by
 cases x<;>simp only[Eng.rC]<;>first|exact .v _|exact .int _ _|exact .bool _|skip
 rename_i s
 cases hb:Nat.ble s.data.toList.length 9223372036854775807 with
 |false=>exact .v _
 |true=>
  have:=RO.str (F:=F) (w:=w) s.data.toList (by simpa[maxLen] using hb)
  simpa using this
theorem RO.fQ(F:Nat→Prop)(w:World)(x:Value):RO F w x (fQ x):=by
 cases x<;>simp only[Eng.fQ]<;>try exact RO.rC _ _ _
 rename_i cs
 cases hb:cs.toList.all (·.oneCell') with
 |false=>exact .v _
 |true=>
  have:=RO.agg (F:=F) (w:=w) cs.toList (cs.toList.map Eng.rC) (by simp) (fun u hu=>List.all_eq_true.1 hb u hu) (fun i hi=>by
   have hi':i<cs.size:=by simpa using hi
   simp[hi']
   exact RO.rC _ _ _)
  simpa using this
def St.ev(st:St):Operand→D
 | .tmp t=>look st.env t
 | .const x=>fQ x
 | .global g=>match st.g g with
   |some cs=> .rp cs
   |none=> .v (.pointer (some ⟨g,0,none⟩))
 | .func f=> .clo (.func f) []
theorem Rel.ev{X:Ctx}{st:St}{β:Nat→Option Value}{a:Act}{w:World}(h:Rel X st β a w)(x:Operand):Rep (FX X st β w) β w (a.eval x) (st.ev x):=by
 cases x with
 |tmp t=>exact h.tmps t
 |const v=>exact .ro _ _ (RO.fQ _ _ _)
 |global g=>
  simp only[St.ev,Act.eval]
  cases hg:st.g g with
  |none=>exact .ro _ _ (.v _)
  |some cs=>exact .ro _ _ (h.glob g cs hg).1
 |func f=>
  have:=Rep.clo (F:=FX X st β w) (β:=β) (w:=w) (.func f) [] [] rfl (by simp)
  simpa[St.ev,Act.eval] using this
def D.one:D→Bool
 | .int _ _| .bool _| .str _| .sl _ _| .rp _| .h _| .hp _ _| .hr _ _ _ _| .hs _ _ _ _| .clo _ _=>true
 | .v x=>x.oneCell'
 |_=>false
def D.cells:D→List D
 | .agg ds=>ds
 |d=>[d]
theorem Own.one{F:Nat→Prop}{β:Nat→Option Value}{w:World}{o:Obj}{x:Value}(hl:o.live)(h:Own F β w o x):x.oneCell'=true:=by
 cases o with
 |dead=>exact hl.elim
 |row e s es=>
  obtain⟨_,_,xs,h,_⟩:=h
  rcases h.2 with⟨rfl,_⟩|⟨g,cap,cur,rfl,_⟩<;>rfl
 |box cs=>obtain⟨b,c,T,rfl,_⟩:=h;rfl
 |frame vs e=>obtain⟨rfl,_⟩:=h;rfl
 |blk e s cs c=>obtain⟨g,cur,rfl,_⟩:=h;rfl
 |raw e s es=>obtain⟨g,cap,cur,m,rfl,_⟩:=h;rfl
 |map P k e n f=>obtain⟨_,b,m,D,rfl,_⟩:=h;rfl
theorem Rel.one{X:Ctx}{st:St}{β:Nat→Option Value}{a:Act}{w:World}(h:Rel X st β a w){v:Value}{d:D}(hd:d.one=true)(hv:Rep (FX X st β w) β w v d):v.oneCell'=true:=by
 cases d with
 |int=>rw[hv.eU];rfl
 |bool=>rw[hv.nJ];rfl
 |str=>rw[hv.nC];rfl
 |v x=>rw[hv.kZ];exact hd
 |sl s es=>have:=hv.uU;cases this<;>rfl
 |rp cs=>have:=hv.Eu;cases this<;>rfl
 |h o=>
  have hx:=hv.iM
  obtain⟨h1,h2⟩:=h.dom o v hx
  obtain⟨y,hy,hw⟩:=h.own o h1 h2
  rw[hx] at hy
  cases hy
  exact Own.one h2 hw
 |hp o k=>obtain⟨b,x,_,_,rfl⟩:=hv.xX;rfl
 |hr o s i k=>obtain⟨b,x,_,_,rfl⟩:=hv.xY;rfl
 |hs o s a b=>obtain⟨x,_,p,l,c,q,_,_,_,_,rfl,_⟩:=hv.mO;rfl
 |clo f ds=>obtain⟨cs,rfl,_⟩:=hv.qR;rfl
 |junk=>cases hd
 |agg=>cases hd
 |aN=>cases hd
def tN:D→Bool
 | .agg _=>true
 |d=>d.one
theorem Rel.cells{X:Ctx}{st:St}{β:Nat→Option Value}{a:Act}{w:World}(h:Rel X st β a w){v:Value}{d:D}(hd:tN d=true)(hv:Rep (FX X st β w) β w v d):
 v.cells.size=d.cells.length∧(∀u∈v.cells.toList,u.oneCell'=true)∧ ∀j,j<d.cells.length→Rep (FX X st β w) β w (v.cells.toList.getD j undef) (d.cells.getD j .junk):=by
 by_cases hag: ∃ds,d= .agg ds
 ·obtain⟨ds,rfl⟩:=hag
  obtain⟨cs,rfl,hl,h1,hr⟩:=hv.jM
  simp only[Value.cells,D.cells]
  exact⟨by simpa using hl,by simpa using h1,by simpa using hr⟩
 ·have hone:d.one=true:=by
   cases d<;>simp_all[tN]
  have hv1:=h.one hone hv
  have hc:v.cells= #[v]:=by cases v<;>simp_all[Value.cells,Value.oneCell']
  have hdc:d.cells=[d]:=by
   cases d<;>simp_all[D.cells]
  rw[hc,hdc]
  refine⟨rfl,by simpa using hv1,fun j hj=> ?_⟩
  have:j=0:=by simpa using hj
  subst this
  simpa using hv
@[irreducible] def bn(k:IntKind)(n:Int)(K:Int→Prop):Prop:=K (k.wrap n)
@[irreducible] def aJ(es:List (List D))(i:Int)(K:List D→Prop):Prop:=0≤i∧i<es.length∧ ∀e,es[i.toNat]? =some e→K e
@[irreducible] def iJ(l:List UInt8)(i:Int)(K:UInt8→Prop):Prop:=0≤i∧i<l.length∧ ∀c,l[i.toNat]? =some c→K c
@[irreducible] def zQ(l:List D)(i n:Nat)(K:List D→Prop):Prop:=i+n≤l.length∧K ((l.drop i).take n)
@[irreducible] def aW(i:Int)(n:Nat)(K:Nat→Prop):Prop:=0≤i∧i<n∧K i.toNat
@[irreducible] def iw(lo hi:Int)(n:Nat)(K:Nat→Nat→Prop):Prop:=0≤lo∧lo≤hi∧hi≤n∧K lo.toNat hi.toNat
@[irreducible] def dD(n:Nat)(K:Int→Prop):Prop:=n≤maxLen→K n
@[irreducible] def bZ(p:Prop)(K:Prop):Prop:=p∧K
theorem bn.mk{k:IntKind}{n:Int}{K:Int→Prop}(h:K (k.wrap n)):bn k n K:=by unfold bn;exact h
theorem bn.out{k:IntKind}{n:Int}{K:Int→Prop}(h:bn k n K):K (k.wrap n):=by unfold bn at h;exact h
theorem aJ.mk{es:List (List D)}{i:Int}{K:List D→Prop}(h:0≤i∧i<es.length∧ ∀e,es[i.toNat]? =some e→K e):aJ es i K:=by unfold aJ;exact h
theorem aJ.out{es:List (List D)}{i:Int}{K:List D→Prop}(h:aJ es i K): ∃k:Nat,i=k∧k<es.length∧K (es.getD k []):=by
 unfold aJ at h
 obtain⟨h0,h1,h2⟩:=h
 obtain⟨k,rfl⟩:=Int.eq_ofNat_of_zero_le h0
 have hk:k<es.length:=by omega
 refine⟨k,rfl,hk,?_⟩
 have:=h2 es[k] (by simp[hk])
 simpa[List.getD_eq_getElem?_getD,hk] using this
theorem iJ.mk{l:List UInt8}{i:Int}{K:UInt8→Prop}(h:0≤i∧i<l.length∧ ∀c,l[i.toNat]? =some c→K c):iJ l i K:=by unfold iJ;exact h
theorem iJ.out{l:List UInt8}{i:Int}{K:UInt8→Prop}(h:iJ l i K): ∃(k:Nat) (hk:k<l.length),i=k∧K l[k]:=by
 unfold iJ at h
 obtain⟨h0,h1,h2⟩:=h
 obtain⟨k,rfl⟩:=Int.eq_ofNat_of_zero_le h0
 have hk:k<l.length:=by omega
 exact⟨k,hk,rfl,h2 l[k] (by simp[hk])⟩
theorem zQ.mk{l:List D}{i n:Nat}{K:List D→Prop}(h:i+n≤l.length∧K ((l.drop i).take n)):zQ l i n K:=by unfold zQ;exact h
theorem zQ.out{l:List D}{i n:Nat}{K:List D→Prop}(h:zQ l i n K):i+n≤l.length∧K ((l.drop i).take n):=by unfold zQ at h;exact h
theorem aW.mk{i:Int}{n:Nat}{K:Nat→Prop}(h:0≤i∧i<n∧K i.toNat):aW i n K:=by unfold aW;exact h
theorem aW.out{i:Int}{n:Nat}{K:Nat→Prop}(h:aW i n K): ∃k:Nat,i=k∧k<n∧K k:=by
 unfold aW at h
 obtain⟨h0,h1,h2⟩:=h
 obtain⟨k,rfl⟩:=Int.eq_ofNat_of_zero_le h0
 exact⟨k,rfl,by omega,h2⟩
theorem iw.mk{lo hi:Int}{n:Nat}{K:Nat→Nat→Prop}(h:0≤lo∧lo≤hi∧hi≤n∧K lo.toNat hi.toNat):iw lo hi n K:=by unfold iw;exact h
theorem iw.out{lo hi:Int}{n:Nat}{K:Nat→Nat→Prop}(h:iw lo hi n K): ∃a b:Nat,lo=a∧hi=b∧a≤b∧b≤n∧K a b:=by
 unfold iw at h
 obtain⟨h0,h1,h2,h3⟩:=h
 obtain⟨a,rfl⟩:=Int.eq_ofNat_of_zero_le h0
 obtain⟨b,rfl⟩:=Int.eq_ofNat_of_zero_le (Int.le_trans h0 h1)
 exact⟨a,b,rfl,rfl,by omega,by omega,h3⟩
theorem dD.mk{n:Nat}{K:Int→Prop}(h:n≤maxLen→K n):dD n K:=by unfold dD;exact h
theorem dD.out{n:Nat}{K:Int→Prop}(h:dD n K):n≤maxLen→K n:=by unfold dD at h;exact h
theorem bZ.mk{p K:Prop}(h:p∧K):bZ p K:=by unfold bZ;exact h
theorem bZ.out{p K:Prop}(h:bZ p K):p∧K:=by unfold bZ at h;exact h
end Go.Eng
namespace Go.Eng
open Go Go.RowKit
def Yields(X:Ctx)(o:Oper)(st:St)(d:D):Prop:=
 ∀β a w,Rel X st β a w→ ∃v,(execOp a.eval o).run X.P w= .ok (.value v) w∧Rep (FX X st β w) β w v d
def vw(op:BinOp)(k:IntKind)(x y:Int):Int:=
 let a:=BitVec.ofInt k.bits x
 let b:=BitVec.ofInt k.bits y
 match op with
 | .and=>k.wrap (a&&&b).toNat
 | .or=>k.wrap (a|||b).toNat
 | .xor=>k.wrap (a^^^b).toNat
 |_=>k.wrap (a&&& ~~~b).toNat
def intD(op:BinOp)(k k':IntKind)(a b:Int)(K:D→Prop):Prop:=
 match op with
 | .shl=>bZ (0≤b) (bn k (a*2^(min b.toNat k.bits)) fun n=>K (.int k n))
 | .shr=>bZ (0≤b) (K (.int k (a.fdiv (2^(min b.toNat k.bits)))))
 |op=>if k=k' then
  (match op with
  | .add=>bn k (a+b) fun n=>K (.int k n)
  | .sub=>bn k (a-b) fun n=>K (.int k n)
  | .mul=>bn k (a*b) fun n=>K (.int k n)
  | .quo=>bZ (b≠0) (bn k (a.tdiv b) fun n=>K (.int k n))
  | .rem=>bZ (b≠0) (K (.int k (a.tmod b)))
  | .and=>K (.int k (vw .and k a b))
  | .or=>K (.int k (vw .or k a b))
  | .xor=>K (.int k (vw .xor k a b))
  | .andNot=>K (.int k (vw .andNot k a b))
  | .eql=>K (.bool (decide (a=b)))
  | .neq=>K (.bool (!decide (a=b)))
  | .lss=>K (.bool (decide (a<b)))
  | .leq=>K (.bool (decide (a≤b)))
  | .gtr=>K (.bool (decide (b<a)))
  | .geq=>K (.bool (decide (b≤a)))
  |_=>False)
  else False
def strD(op:BinOp)(a b:List UInt8)(K:D→Prop):Prop:=
 match op with
 | .add=>bZ (a.length+b.length≤maxLen) (K (.str (a++b)))
 | .eql=>K (.bool (a==b))
 | .neq=>K (.bool (!(a==b)))
 | .lss=>K (.bool (Op.bytesLess a b))
 | .leq=>K (.bool (Op.bytesLess a b||a==b))
 | .gtr=>K (.bool (!(Op.bytesLess a b||a==b)))
 | .geq=>K (.bool (!Op.bytesLess a b))
 |_=>False
def yF(P:Program)(t:TypeId)(xs ys:List D)(b:Bool):Prop:=
 P.eqGuardType P.depth t=false∧ ∀(w:World) (F:Nat→Prop) (β:Nat→Option Value) vx vy,Rep F β w vx (.agg xs)→Rep F β w vy (.agg ys)→(Op.equalIn 10000 t vx vy).run P w= .ok b w
@[irreducible] def nD(P:Program)(t:TypeId)(xs ys:List D)(K:Bool→Prop):Prop:= ∃b,yF P t xs ys b∧K b
theorem nD.mk{P:Program}{t:TypeId}{xs ys:List D}{K:Bool→Prop}{b:Bool}(h:yF P t xs ys b)(hk:K b):nD P t xs ys K:=by unfold nD;exact⟨b,h,hk⟩
theorem nD.out{P:Program}{t:TypeId}{xs ys:List D}{K:Bool→Prop}(h:nD P t xs ys K): ∃b,yF P t xs ys b∧K b:=by unfold nD at h;exact h
def JA(P:Program)(t:TypeId)(x y:D):Option Bool:=
 match P.underlying t,x,y with
 |some (.int _), .int a n, .int b m=>bif decide (a=b) then some (n==m) else none
 |some .string, .str a, .str b=>some (a==b)
 |some .bool, .bool a, .bool b=>some (a==b)
 |_,_,_=>none
def FC(P:Program)(xs ys:List D):List Field→Option Bool
 |[]=>some true
 |f::fs=>bif f.name== "_" || !(Nat.blt f.offset xs.length&&Nat.blt f.offset ys.length) then none else
  match JA P f.type (xs.getD f.offset .junk) (ys.getD f.offset .junk),FC P xs ys fs with
  |some a,some b=>some (a&&b)
  |_,_=>none
theorem acG{P:Program}{t:TypeId}{x y:D}{b:Bool}(h:JA P t x y=some b)(d:Nat)(w:World){F:Nat→Prop}{β:Nat→Option Value}{vx vy:Value}(hx:Rep F β w vx x)(hy:Rep F β w vy y):
 (isAgg t).run P w= .ok false w∧(Op.equalIn (d+1) t vx vy).run P w= .ok b w:=by
 unfold JA at h
 split at h
 ·rename_i k a n b' m hu
  cases hd:decide (a=b') with
  |false=>rw[hd] at h;cases h
  |true=>
   rw[hd] at h
   have hab:a=b':=by simpa using hd
   subst hab
   rw[hx.eU,hy.eU]
   cases h
   exact⟨by simp[isAgg,run_underlying hu],run_equalIn_int w d t a _ n m hu⟩
 ·rename_i a b' hu
  rw[hx.nC,hy.nC]
  cases h
  exact⟨by simp[isAgg,run_underlying hu],by rw[run_equalIn_string w d t _ _ hu];simp[ByteArray.toList_eq]⟩
 ·rename_i a b' hu
  rw[hx.nJ,hy.nJ]
  cases h
  exact⟨by simp[isAgg,run_underlying hu],run_equalIn_bool' w d t a b' hu⟩
 ·cases h
theorem U0{P:Program}{t:TypeId}{w:World}(h:(isAgg t).run P w= .ok false w){cs:List Value}{off:Nat}(ho:off<cs.length):(part t cs.toArray off).run P w= .ok (cs.getD off undef) w:=by
 simp[part,h,List.getD_eq_getElem?_getD,ho]
theorem QS{P:Program}{w:World}{F:Nat→Prop}{β:Nat→Option Value}{xs ys:List D}{cx cy:List Value}(hlx:cx.length=xs.length)(Kq:cy.length=ys.length)
 (hx: ∀i,i<xs.length→Rep F β w (cx.getD i undef) (xs.getD i .junk))(hy: ∀i,i<ys.length→Rep F β w (cy.getD i undef) (ys.getD i .junk))(d:Nat):
 ∀(fs:List Field) (b:Bool),FC P xs ys fs=some b→(Op.eqFields (d+1) cx.toArray cy.toArray fs).run P w= .ok b w
 |[],b,h=>by cases h;simp[Op.eqFields]
 |f::fs,b,h=>by
  unfold FC at h
  cases hc:(f.name== "_" || !(Nat.blt f.offset xs.length&&Nat.blt f.offset ys.length)) with
  |true=>rw[hc] at h;cases h
  |false=>
   rw[hc] at h
   simp only[cond_false] at h
   split at h
   ·rename_i a b' h1 h2
    cases h
    simp only[Bool.or_eq_false_iff,beq_eq_false_iff_ne,Bool.not_eq_false',Bool.and_eq_true,Nat.blt_eq] at hc
    obtain⟨hn,hox,hoy⟩:=hc
    obtain⟨g1,g2⟩:=acG h1 d w (hx _ hox) (hy _ hoy)
    have ih:=QS hlx Kq hx hy d fs b' h2
    simp only[Op.eqFields,ne_eq,hn,not_false_eq_true,if_true,Sem.run_bind,U0 g1 (by omega:f.offset<cx.length),U0 g1 (by omega:f.offset<cy.length),Result.andThen_ok,g2]
    cases a
    ·simp
    ·simp[ih]
   ·cases h
theorem yF.flat{P:Program}{t:TypeId}{xs ys:List D}{b:Bool}(fs:Array Field)(hu:P.underlying t=some (.struct fs))(hs:P.stoodInHeld t=false)(hg:P.eqGuardType P.depth t=false)
 (hb:FC P xs ys fs.toList=some b):yF P t xs ys b:=by
 refine⟨hg,fun w F β vx vy hx hy=> ?_⟩
 obtain⟨cx,rfl,hlx,_,hrx⟩:=hx.jM
 obtain⟨cy,rfl,Kq,_,hry⟩:=hy.jM
 have hf:P.fieldsOf t=fs:=by simp[Program.fieldsOf,hu]
 rw[show(10000:Nat)=9998+1+1 from rfl,run_equalIn_agg w (9998+1) t _ _ (by rw[hf];exact hu) hs,hf]
 exact QS hlx Kq hrx hry 9998 _ _ hb
def CP(P:Program)(t:TypeId)(op:BinOp)(x y:D)(K:D→Prop):Prop:=
 match x,y with
 | .int k a, .int k' b=>intD op k k' a b K
 | .str a, .str b=>strD op a b K
 | .bool a, .bool b=>match op,P.underlying t with
   | .eql,some .bool=>K (.bool (a==b))
   | .neq,some .bool=>K (.bool (!(a==b)))
   |_,_=>False
 | .agg xs, .agg ys=>match op with
   | .eql=>nD P t xs ys fun b=>K (.bool b)
   | .neq=>nD P t xs ys fun b=>K (.bool (!b))
   |_=>False
 |_,_=>False
section
variable {X:Ctx} {o:Oper} {st:St}
theorem zU(s:ByteArray):s.toList=s.data.toList:=ByteArray.toList_eq s
theorem aeo{op:BinOp}{t:TypeId}{x y:Operand}{yt:TypeId}{k k':IntKind}{a b:Int}{K:D→Prop}(h:intD op k k' a b K):
 ∃d,K d∧ ∀(P:Program) (w:World) (F:Nat→Prop) (β:Nat→Option Value), ∃v,
  (do eqGuard op t x y (.int k a) (.int k' b);binOp op t (.int k a) (.int k' b)).run P w= .ok v w∧Rep F β w v d:=by
 have R: ∀(n:Int) (F:Nat→Prop) (β:Nat→Option Value) (w:World),Rep F β w (.int k n) (.int k n):=fun n F β w=> .ro _ _ (.int _ _)
 have B: ∀(n:Bool) (F:Nat→Prop) (β:Nat→Option Value) (w:World),Rep F β w (.bool n) (.bool n):=fun n F β w=> .ro _ _ (.bool _)
 by_cases hk:k=k'
 ·subst hk
  cases op<;>simp only[intD,if_pos] at h<;>try(exact h.elim)
  case add=>exact⟨_,h.out,fun P w F β=>⟨_,by simp[eqGuard,binOp,Op.intArith],R _ _ _ _⟩⟩
  case sub=>exact⟨_,h.out,fun P w F β=>⟨_,by simp[eqGuard,binOp,Op.intArith],R _ _ _ _⟩⟩
  case mul=>exact⟨_,h.out,fun P w F β=>⟨_,by simp[eqGuard,binOp,Op.intArith],R _ _ _ _⟩⟩
  case quo=>exact⟨_,h.out.2.out,fun P w F β=>⟨_,by simp[eqGuard,binOp,Op.intDiv,h.out.1],R _ _ _ _⟩⟩
  case rem=>exact⟨_,h.out.2,fun P w F β=>⟨_,by simp[eqGuard,binOp,Op.intDiv,h.out.1],R _ _ _ _⟩⟩
  case and=>exact⟨_,h,fun P w F β=>⟨_,by simp[eqGuard,binOp,Op.intBits,vw],R _ _ _ _⟩⟩
  case or=>exact⟨_,h,fun P w F β=>⟨_,by simp[eqGuard,binOp,Op.intBits,vw],R _ _ _ _⟩⟩
  case xor=>exact⟨_,h,fun P w F β=>⟨_,by simp[eqGuard,binOp,Op.intBits,vw],R _ _ _ _⟩⟩
  case andNot=>exact⟨_,h,fun P w F β=>⟨_,by simp[eqGuard,binOp,Op.intBits,vw],R _ _ _ _⟩⟩
  case eql=>exact⟨_,h,fun P w F β=>⟨_,by simp[eqGuard,binOp,Op.intCmp];rfl,B _ _ _ _⟩⟩
  case neq=>exact⟨_,h,fun P w F β=>⟨_,by simp[eqGuard,binOp,Op.intCmp];rfl,B _ _ _ _⟩⟩
  case lss=>exact⟨_,h,fun P w F β=>⟨_,by simp[eqGuard,binOp,Op.intCmp],B _ _ _ _⟩⟩
  case leq=>exact⟨_,h,fun P w F β=>⟨_,by simp[eqGuard,binOp,Op.intCmp],B _ _ _ _⟩⟩
  case gtr=>exact⟨_,h,fun P w F β=>⟨_,by simp[eqGuard,binOp,Op.intCmp],B _ _ _ _⟩⟩
  case geq=>exact⟨_,h,fun P w F β=>⟨_,by simp[eqGuard,binOp,Op.intCmp],B _ _ _ _⟩⟩
  case shl=>exact⟨_,h.out.2.out,fun P w F β=>⟨_,by simp[eqGuard,binOp,Op.shift,Int.not_lt.2 h.out.1],R _ _ _ _⟩⟩
  case shr=>exact⟨_,h.out.2,fun P w F β=>⟨_,by simp[eqGuard,binOp,Op.shift,Int.not_lt.2 h.out.1],R _ _ _ _⟩⟩
 ·cases op<;>simp only[intD,if_neg hk] at h<;>try(exact h.elim)
  case shl=>exact⟨_,h.out.2.out,fun P w F β=>⟨_,by simp[eqGuard,binOp,Op.shift,Int.not_lt.2 h.out.1],R _ _ _ _⟩⟩
  case shr=>exact⟨_,h.out.2,fun P w F β=>⟨_,by simp[eqGuard,binOp,Op.shift,Int.not_lt.2 h.out.1],R _ _ _ _⟩⟩
theorem agP{op:BinOp}{t:TypeId}{x y:Operand}{a b:List UInt8}{K:D→Prop}(h:strD op a b K):
 ∃d,K d∧ ∀(P:Program) (w:World) (F:Nat→Prop) (β:Nat→Option Value), ∃v,
  (do eqGuard op t x y (.string ⟨a.toArray⟩) (.string ⟨b.toArray⟩);binOp op t (.string ⟨a.toArray⟩) (.string ⟨b.toArray⟩)).run P w= .ok v w∧Rep F β w v d:=by
 have B: ∀(n:Bool) (F:Nat→Prop) (β:Nat→Option Value) (w:World),Rep F β w (.bool n) (.bool n):=fun n F β w=> .ro _ _ (.bool _)
 cases op<;>simp only[strD] at h<;>try(exact h.elim)
 case add=>
  refine⟨_,h.out.2,fun P w F β=>⟨.string ⟨(a++b).toArray⟩,?_, .ro _ _ (.str _ (by rw[List.length_append];exact h.out.1))⟩⟩
  have h1:=h.out.1
  simp only[maxLen] at h1
  have h2: ¬((9223372036854775807:Int)<(((⟨a.toArray⟩:ByteArray).size+(⟨b.toArray⟩:ByteArray).size:Nat):Int)):=by
   simp[ByteArray.size];omega
  have h3:(⟨a.toArray⟩:ByteArray)++⟨b.toArray⟩=⟨(a++b).toArray⟩:=ByteArray.ext (by simp)
  have h4:eqGuard .add t x y (.string ⟨a.toArray⟩) (.string ⟨b.toArray⟩)=pure ():=rfl
  have h5:IntKind.i64.max=9223372036854775807:=rfl
  rw[h4]
  simp only[binOp,Op.stringOp,h5,if_neg h2,Sem.run_bind,Sem.run_pure,Result.andThen_ok,h3]
 case eql=>exact⟨_,h,fun P w F β=>⟨_,by simp[eqGuard,binOp,Op.stringOp,zU],B _ _ _ _⟩⟩
 case neq=>exact⟨_,h,fun P w F β=>⟨_,by simp[eqGuard,binOp,Op.stringOp,zU],B _ _ _ _⟩⟩
 case lss=>exact⟨_,h,fun P w F β=>⟨_,by simp[eqGuard,binOp,Op.stringOp,zU],B _ _ _ _⟩⟩
 case leq=>exact⟨_,h,fun P w F β=>⟨_,by simp[eqGuard,binOp,Op.stringOp,zU],B _ _ _ _⟩⟩
 case gtr=>exact⟨_,h,fun P w F β=>⟨_,by simp[eqGuard,binOp,Op.stringOp,zU],B _ _ _ _⟩⟩
 case geq=>exact⟨_,h,fun P w F β=>⟨_,by simp[eqGuard,binOp,Op.stringOp,zU],B _ _ _ _⟩⟩
theorem X4{P:Program}{op:BinOp}{t:TypeId}{x y:Operand}{dx dy:D}{K:D→Prop}(h:CP P t op dx dy K):
 ∃d,K d∧ ∀(w:World) (F:Nat→Prop) (β:Nat→Option Value) vx vy,Rep F β w vx dx→Rep F β w vy dy→ ∃v,
  (do eqGuard op t x y vx vy;binOp op t vx vy).run P w= .ok v w∧Rep F β w v d:=by
 unfold CP at h
 split at h
 ·obtain⟨d,hk,hd⟩:=aeo (t:=t) (x:=x) (y:=y) (yt:=t) h
  exact⟨d,hk,fun w F β vx vy hx hy=>by rw[hx.eU,hy.eU];exact hd P w F β⟩
 ·obtain⟨d,hk,hd⟩:=agP (t:=t) (x:=x) (y:=y) h
  exact⟨d,hk,fun w F β vx vy hx hy=>by rw[hx.nC,hy.nC];exact hd P w F β⟩
 ·rename_i a b
  split at h
  ·rename_i hu
   refine⟨_,h,fun w F β vx vy hx hy=>⟨_,?_, .ro _ _ (.bool _)⟩⟩
   rw[hx.nJ,hy.nJ]
   have h1:eqGuard .eql t x y (.bool a) (.bool b)=pure ():=by simp[eqGuard]
   rw[h1]
   simp[run_eql_bool _ t a b hu]
  ·rename_i hu
   refine⟨_,h,fun w F β vx vy hx hy=>⟨_,?_, .ro _ _ (.bool _)⟩⟩
   rw[hx.nJ,hy.nJ]
   have h1:eqGuard .neq t x y (.bool a) (.bool b)=pure ():=by simp[eqGuard]
   rw[h1]
   simp[run_neq_bool _ t a b hu]
  ·exact h.elim
 ·rename_i xs ys
  split at h
  ·obtain⟨b,⟨hg,he⟩,hk⟩:=h.out
   refine⟨_,hk,fun w F β vx vy hx hy=>⟨_,?_, .ro _ _ (.bool _)⟩⟩
   have he:=he w F β vx vy hx hy
   obtain⟨cx,rfl,_⟩:=hx.jM
   obtain⟨cy,rfl,_⟩:=hy.jM
   rw[Sem.run_bind,run_eqGuard_agg w _ t x y _ _ hg]
   simp only[Result.andThen_ok]
   rw[run_eql_struct,he]
   rfl
  ·obtain⟨b,⟨hg,he⟩,hk⟩:=h.out
   refine⟨_,hk,fun w F β vx vy hx hy=>⟨_,?_, .ro _ _ (.bool _)⟩⟩
   have he:=he w F β vx vy hx hy
   obtain⟨cx,rfl,_⟩:=hx.jM
   obtain⟨cy,rfl,_⟩:=hy.jM
   rw[Sem.run_bind,run_eqGuard_agg w _ t x y _ _ hg]
   simp only[Result.andThen_ok]
   rw[run_neq_struct,he]
   rfl
  ·exact h.elim
 ·exact h.elim
end
end Go.Eng
namespace Go.Eng
open Go Go.RowKit
def Eb:List D→Nat→(D→Prop)→Prop
 |d::_,0,K=>K d
 |_::r,n+1,K=>Eb r n K
 |[],_,_=>False
def BK:List D→Nat→(List D→Prop)→Prop
 |_,0,K=>K []
 |d::r,n+1,K=>BK r n fun t=>K (d::t)
 |[],_+1,_=>False
def yP:List D→Nat→(List D→Prop)→Prop
 |l,0,K=>K l
 |_::r,n+1,K=>yP r n K
 |[],_+1,_=>False
def Jr(l:List D)(k n:Nat)(K:List D→Prop):Prop:=yP l k fun r=>BK r n K
theorem Ec: ∀ {l:List D} {n:Nat} {K:D→Prop},Eb l n K→n<l.length∧K (l.getD n .junk)
 |_::_,0,_,h=>⟨by simp,h⟩
 |_::r,n+1,K,h=>by
  have:=Ec (l:=r) (n:=n) h
  exact⟨by simp;exact this.1,by simpa[List.getD_cons_succ] using this.2⟩
theorem WJ: ∀ {l:List D} {n:Nat} {K:List D→Prop},BK l n K→n≤l.length∧K (l.take n)
 |_,0,_,h=>⟨Nat.zero_le _,by simpa[BK] using h⟩
 |d::r,n+1,K,h=>by
  have:=WJ (l:=r) (n:=n) h
  exact⟨by simp;exact this.1,by simpa using this.2⟩
theorem Jy: ∀ {l:List D} {n:Nat} {K:List D→Prop},yP l n K→n≤l.length∧K (l.drop n)
 |_,0,_,h=>⟨Nat.zero_le _,by simpa[yP] using h⟩
 |d::r,n+1,K,h=>by
  have:=Jy (l:=r) (n:=n) h
  exact⟨by simp;exact this.1,by simpa using this.2⟩
theorem Js{l:List D}{k n:Nat}{K:List D→Prop}(h:Jr l k n K):k+n≤l.length∧K ((l.drop k).take n):=by
 have h1:=Jy h
 have h2:=WJ h1.2
 rw[List.length_drop] at h2
 exact⟨by omega,h2.2⟩
def KT:TypeDesc→Bool
 | .struct _=>true
 | .array _ _=>true
 |_=>false
def tu(P:Program)(t:TypeId)(cs:List D)(k:Nat)(K:D→Prop):Prop:=
 match P.underlying t with
 |some u=>match KT u with
  |true=>Jr cs k (P.cellsOf t) fun l=>K (.agg l)
  |false=>Eb cs k K
 |none=>False
theorem Gz{P:Program}{t:TypeId}{u:TypeDesc}(h:P.underlying t=some u)(w:World):(isAgg t).run P w= .ok (KT u) w:=by
 simp only[isAgg,Sem.run_bind,run_underlying h,Result.andThen_ok]
 cases u<;>rfl
theorem run_sizeOf{P:Program}{t:TypeId}{u:TypeDesc}(h:P.underlying t=some u)(w:World):(sizeOf t).run P w= .ok (P.cellsOf t) w:=by
 unfold Program.underlying at h
 cases hi:P.info? t with
 |none=>rw[hi] at h;cases h
 |some i=>simp[sizeOf,typeInfo,hi,Program.cellsOf]
def uz(F:Nat→Prop)(β:Nat→Option Value)(w:World)(b off:Nat)(cs:List D):Prop:=
 ∃c:Nat→Value, ∀j,j<cs.length→(w.cell? ⟨b,off+j,none⟩=some (c j)∧(c j).oneCell'=true)∧Rep F β w (c j) (cs.getD j .junk)
theorem uz.drop{F:Nat→Prop}{β:Nat→Option Value}{w:World}{b off:Nat}{cs:List D}(h:uz F β w b off cs)(n:Nat):uz F β w b (off+n) (cs.drop n):=by
 obtain⟨c,h⟩:=h
 refine⟨fun j=>c (n+j),fun j hj=> ?_⟩
 have hj':n+j<cs.length:=by rw[List.length_drop] at hj;omega
 have:=h (n+j) hj'
 rw[Nat.add_assoc]
 refine⟨this.1,?_⟩
 simpa[List.getD_eq_getElem?_getD] using this.2
theorem add_lit(b off n:Nat):(⟨b,off,none⟩:Addr).add n=⟨b,off+n,none⟩:=by
 unfold Addr.add;split<;>simp_all
theorem F9{P:Program}{t:TypeId}{cs:List D}{k:Nat}{K:D→Prop}(h:tu P t cs k K):
 ∃d,K d∧ ∀(F:Nat→Prop) (β:Nat→Option Value) (w:World) (b off:Nat),uz F β w b off cs→ ∃v,(loadVar t ⟨b,off+k,none⟩).run P w= .ok v w∧Rep F β w v d:=by
 unfold tu at h
 split at h
 ·rename_i u hu
  split at h
  ·rename_i ha
   obtain⟨hl,hk⟩:=Js h
   refine⟨_,hk,fun F β w b off hc=> ?_⟩
   obtain⟨c,hc⟩:=hc
   let vs:List Value:=(List.range (P.cellsOf t)).map fun j=>c (k+j)
   refine⟨.agg vs.toArray,?_, .agg vs _ (by simp[vs];omega) (fun x hx=> ?_) (fun i hi=> ?_)⟩
   ·simp only[loadVar,Sem.run_bind,Gz hu,ha,Result.andThen_ok,if_true,run_sizeOf hu]
    have:=run_loadCells (P:=P) (w:=w) ⟨b,off+k,none⟩ (P.cellsOf t) (fun j=>c (k+j)) (fun j hj=>by
     rw[add_lit,Nat.add_assoc];exact(hc (k+j) (by omega)).1.1)
    rw[this]
    simp[vs]
   ·simp only[vs,List.mem_map,List.mem_range] at hx
    obtain⟨j,hj,rfl⟩:=hx
    exact(hc (k+j) (by omega)).1.2
   ·have hi':i<P.cellsOf t:=by simp at hi;omega
    have:=(hc (k+i) (by omega)).2
    simp only[List.getD_eq_getElem?_getD,vs,List.getElem?_map,List.getElem?_range hi',Option.map_some,Option.getD_some,List.getElem?_take_of_lt hi',List.getElem?_drop]
    simpa[List.getD_eq_getElem?_getD] using this
  ·rename_i ha
   obtain⟨hl,hk⟩:=Ec h
   refine⟨_,hk,fun F β w b off hc=> ?_⟩
   obtain⟨c,hc⟩:=hc
   refine⟨c k,?_,(hc k hl).2⟩
   simp[loadVar,Gz hu,ha,(hc k hl).1.1]
 ·exact h.elim
theorem Jb{F:Nat→Prop}{β:Nat→Option Value}{w:World}{v:Value}{cs:List D}(h:Rep F β w v (.rp cs)): ∃b off,v= .pointer (some ⟨b,off,none⟩)∧F b∧uz F β w b off cs:=by
 have:=h.Eu
 cases this with
 |rp cs b off c hF hc hr=>exact⟨b,off,rfl,hF,c,fun j hj=>⟨hc j hj, .ro _ _ (hr j hj)⟩⟩
theorem P8{F:Nat→Prop}{β:Nat→Option Value}{w:World}{x:Value}{cs:List D}(h:Ic F β w cs x): ∃b,x= .pointer (some ⟨b,0,none⟩)∧uz F β w b 0 cs:=by
 obtain⟨b,c,T,rfl,hg,hs,h1,hr⟩:=h
 refine⟨b,rfl,fun j=>c.toList.getD j undef,fun j hj=>⟨⟨?_,?_⟩,hr j hj⟩⟩
 ·have hj':j<c.size:=by omega
  simp[World.cell?,hg,hj']
 ·have hj':j<c.size:=by omega
  refine h1 _ ?_
  simp[hj']
theorem Di{F:Nat→Prop}{β:Nat→Option Value}{w:World}{e:TypeId}{s:Nat}{es:List (List D)}{x:Value}(h:gu F w e s es x){i:Nat}(hi:i<es.length):
 ∃b l c,x= .slice (some ⟨b,0,none⟩) l c∧uz F β w b (i*s) (es.getD i []):=by
 obtain⟨hm,hs,xs,how,h1,hr⟩:=h
 rcases how.2 with⟨rfl,hn⟩|⟨g,cap,cur,rfl,_,hg,hnc,hcm,hcs,htk⟩
 ·omega
 ·refine⟨g,_,_,rfl,fun j=>xs.getD (i*s+j) undef,fun j hj=> ?_⟩
  rw[hs i hi] at hj
  have hxl:xs.length=es.length*s:=how.1
  have hlt:i*s+j<xs.length:=by
   rw[hxl]
   have:(i+1)*s≤es.length*s:=Nat.mul_le_mul_right s hi
   rw[Nat.add_mul] at this
   omega
  have hx:xs.getD (i*s+j) undef=xs[i*s+j]:=by simp[List.getD_eq_getElem?_getD,hlt]
  refine⟨⟨?_,?_⟩, .ro _ _ (hr i j hi hj)⟩
  ·have:=how.cells (g:=g) rfl (i*s+j) xs[i*s+j] (by simp[hlt])
   rw[add_lit,Nat.zero_add] at this
   rw[this]
   exact congrArg some hx.symm
  ·show(xs.getD (i*s+j) undef).oneCell'=true
   rw[hx];exact h1 _ (List.getElem_mem _)
theorem Fg{F:Nat→Prop}{β:Nat→Option Value}{w:World}{e:TypeId}{s:Nat}{es:List (List D)}{x:Value}(h:EN F w e s es x){i:Nat}(hi:i<es.length):
 ∃b l c,x= .slice (some ⟨b,0,none⟩) l c∧uz F β w b (i*s) (es.getD i []):=by
 obtain⟨g,cap,cur,m,rfl,hg,_,_,hcs,hs,hr⟩:=h
 refine⟨g,_,_,rfl,fun j=>cur.toList.getD (i*s+j) undef,fun j hj=> ?_⟩
 rw[hs i hi] at hj
 have hlt:i*s+j<cur.size:=by
  have:(i+1)*s≤es.length*s:=Nat.mul_le_mul_right s hi
  rw[Nat.add_mul] at this
  omega
 refine⟨⟨?_,(hr i j hi hj).1⟩, .ro _ _ (hr i j hi hj).2⟩
 simp[World.cell?,hg,hlt]
theorem Em{F:Nat→Prop}{w:World}{e:TypeId}{s:Nat}{es:List (List D)}{x:Value}(h:EN F w e s es x):es.length≤maxLen∧ ∃a c,x= .slice a es.length c:=by
 obtain⟨g,cap,cur,m,rfl,hg,_,hc,_⟩:=h
 exact⟨Nat.le_trans hc.1 hc.2,_,_,rfl⟩
theorem RO.zF{F:Nat→Prop}{w:World}{v:Value}{s:Nat}{es:List (List D)}(h:RO F w v (.sl s es)):
 (es=[]∧ ∃a c,v= .slice a 0 c)∨ ∃b off cap, ∃c:Nat→Nat→Value,v= .slice (some ⟨b,off,none⟩) es.length cap∧F b∧es.length≤cap∧cap≤maxLen∧(∀i,i<es.length→(es.getD i []).length=s)∧
   (∀i j,i<es.length→j<s→w.cell? ⟨b,off+i*s+j,none⟩=some (c i j)∧(c i j).oneCell'=true)∧(∀i j,i<es.length→j<s→RO F w (c i j) ((es.getD i []).getD j .junk)):=by
 cases h with
 |slnil s a cap=>exact .inl ⟨rfl,a,cap,rfl⟩
 |sl s es b off len cap c hlen hF hcap hm hs hc hr=>subst hlen;exact .inr ⟨b,off,cap,c,rfl,hF,hcap,hm,hs,hc,hr⟩
theorem RO.Gx{F:Nat→Prop}{w:World}{v:Value}{cs:List D}(h:RO F w v (.rp cs)):
 ∃b off, ∃c:Nat→Value,v= .pointer (some ⟨b,off,none⟩)∧F b∧(∀j,j<cs.length→w.cell? ⟨b,off+j,none⟩=some (c j)∧(c j).oneCell'=true)∧(∀j,j<cs.length→RO F w (c j) (cs.getD j .junk)):=by
 cases h with
 |rp cs b off c hF hc hr=>exact⟨b,off,c,rfl,hF,hc,hr⟩
theorem Jc{F:Nat→Prop}{w:World}{v:Value}{s:Nat}{es:List (List D)}(h:RO F w v (.sl s es)){i:Nat}(hi:i<es.length):
 ∃b off l c,v= .slice (some ⟨b,off,none⟩) l c∧l=es.length∧F b∧RO F w (.pointer (some ⟨b,off+i*s,none⟩)) (.rp (es.getD i [])):=by
 cases h with
 |slnil s a cap=>simp at hi
 |sl s es b off len cap c hlen hF hcap hm hs hc hr=>
  refine⟨b,off,_,cap,rfl,hlen,hF,?_⟩
  refine .rp _ b _ (fun j=>c i j) hF (fun j hj=> ?_) (fun j hj=> ?_)
  ·rw[hs i hi] at hj;exact hc i j hi hj
  ·rw[hs i hi] at hj;exact hr i j hi hj
theorem Wq{F:Nat→Prop}{w:World}{v:Value}{s:Nat}{es:List (List D)}(h:RO F w v (.sl s es)):es.length≤maxLen∧ ∃a c,v= .slice a es.length c∧es.length≤c∨es=[]∧v= .slice a 0 c:=by
 cases h with
 |slnil s a cap=>exact⟨by simp,a,cap, .inr ⟨rfl,rfl⟩⟩
 |sl s es b off len cap c hlen hF hcap hm hs hc hr=>subst hlen;exact⟨Nat.le_trans hcap hm,some ⟨b,off,none⟩,cap, .inl ⟨rfl,hcap⟩⟩
theorem Bz{F:Nat→Prop}{w:World}{e:TypeId}{s:Nat}{es:List (List D)}{x:Value}(h:gu F w e s es x):es.length≤maxLen∧ ∃a c,x= .slice a es.length c:=by
 obtain⟨hm,hs,xs,how,h1,hr⟩:=h
 refine⟨hm,?_⟩
 rcases how.2 with⟨rfl,hn⟩|⟨g,cap,cur,rfl,_⟩
 ·exact⟨none,0,by rw[hn]⟩
 ·exact⟨_,_,rfl⟩
theorem Rel.row{X:Ctx}{st:St}{β:Nat→Option Value}{a:Act}{w:World}(h:Rel X st β a w){o:Nat}{e:TypeId}{s:Nat}{es:List (List D)}(ho:st.obj o= .row e s es){v:Value}(hv:β o=some v):
 gu (FX X st β w) w e s es v:=by
 obtain⟨h1,h2⟩:=h.dom o v hv
 obtain⟨x,hx,hw⟩:=h.own o h1 h2
 rw[hv] at hx
 cases hx
 rw[ho] at hw
 exact hw
theorem Rel.box{X:Ctx}{st:St}{β:Nat→Option Value}{a:Act}{w:World}(h:Rel X st β a w){o:Nat}{cs:List D}(ho:st.obj o= .box cs){v:Value}(hv:β o=some v):
 Ic (FX X st β w) β w cs v:=by
 obtain⟨h1,h2⟩:=h.dom o v hv
 obtain⟨x,hx,hw⟩:=h.own o h1 h2
 rw[hv] at hx
 cases hx
 rw[ho] at hw
 exact hw
theorem Rel.A8{X:Ctx}{st:St}{β:Nat→Option Value}{a:Act}{w:World}(h:Rel X st β a w){o:Nat}{e:TypeId}{s:Nat}{cs:List (List D)}{c:Nat}(ho:st.obj o= .blk e s cs c){v:Value}(hv:β o=some v):
 wH (FX X st β w) w e s cs c v:=by
 obtain⟨h1,h2⟩:=h.dom o v hv
 obtain⟨y,hy,hw⟩:=h.own o h1 h2
 rw[hv] at hy
 cases hy
 rw[ho] at hw
 exact hw
theorem Rel.Ba{X:Ctx}{st:St}{β:Nat→Option Value}{a:Act}{w:World}(h:Rel X st β a w){o:Nat}{e:TypeId}{s:Nat}{es:List (List D)}(ho:st.obj o= .raw e s es){v:Value}(hv:β o=some v):
 EN (FX X st β w) w e s es v:=by
 obtain⟨h1,h2⟩:=h.dom o v hv
 obtain⟨y,hy,hw⟩:=h.own o h1 h2
 rw[hv] at hy
 cases hy
 rw[ho] at hw
 exact hw
theorem Rel.UR{X:Ctx}{st:St}{β:Nat→Option Value}{a:Act}{w:World}(h:Rel X st β a w){o:Nat}{P:Program}{k e:TypeId}{n:Nat}{f:List UInt8→Int}(ho:st.obj o= .map P k e n f){v:Value}(hv:β o=some v):
 yH w P k e n f v:=by
 obtain⟨h1,h2⟩:=h.dom o v hv
 obtain⟨y,hy,hw⟩:=h.own o h1 h2
 rw[hv] at hy
 cases hy
 rw[ho] at hw
 exact hw
def Ei(P:Program)(st:St)(t:TypeId)(a:D)(K:D→Prop):Prop:=
 match a with
 | .rp cs=>tu P t cs 0 K
 | .hp o k=>match st.obj o with
   | .box cs=>tu P t cs k K
   |_=>False
 | .hr o s i k=>match st.obj o with
   | .row _ s' es=>bif Nat.beq s s' then aJ es i (fun e=>tu P t e k K) else False
   | .raw _ s' es=>bif Nat.beq s s' then aJ es i (fun e=>tu P t e k K) else False
   |_=>False
 |_=>False
theorem U6{X:Ctx}{st:St}{t:TypeId}{x:Operand}{K:D→Prop}(h:Ei X.P st t (st.ev x) K):
 ∃d,K d∧ ∀β a w,Rel X st β a w→ ∃v,(Instr.loadAt t (a.eval x)).run X.P w= .ok v w∧Rep (FX X st β w) β w v d:=by
 unfold Ei at h
 split at h
 ·rename_i cs hx
  obtain⟨d,hk,hd⟩:=F9 h
  refine⟨d,hk,fun β a w hr=> ?_⟩
  have he:=hr.ev x
  rw[hx] at he
  obtain⟨b,off,hv,_,hc⟩:=Jb he
  obtain⟨v,hv1,hv2⟩:=hd _ _ _ _ _ hc
  refine⟨v,?_,hv2⟩
  simp only[Instr.loadAt,Sem.run_bind,hv,Instr.sureAddr,Sem.run_pure,Result.andThen_ok]
  exact hv1
 ·rename_i o k hx
  split at h
  ·rename_i cs ho
   obtain⟨d,hk,hd⟩:=F9 h
   refine⟨d,hk,fun β a w hr=> ?_⟩
   have he:=hr.ev x
   rw[hx] at he
   obtain⟨b,y,hy,hb,hv⟩:=he.xX
   obtain⟨b',rfl,hc⟩:=P8 (hr.box ho hy)
   simp[blk] at hb
   subst hb
   obtain⟨v,hv1,hv2⟩:=hd _ _ _ _ _ hc
   refine⟨v,?_,hv2⟩
   rw[Nat.zero_add] at hv1
   simp only[Instr.loadAt,Sem.run_bind,hv,Instr.sureAddr,Sem.run_pure,Result.andThen_ok]
   exact hv1
  ·exact h.elim
 ·rename_i o s i k hx
  split at h
  ·rename_i e s' es ho
   cases hb:Nat.beq s s' with
   |false=>rw[hb] at h;exact h.elim
   |true=>
    rw[hb] at h
    have hss:=Nat.eq_of_beq_eq_true hb
    subst hss
    obtain⟨i',hi',hlt,hld⟩:=aJ.out h
    have hii:i=i':=by omega
    subst hii
    obtain⟨d,hk,hd⟩:=F9 hld
    refine⟨d,hk,fun β a w hr=> ?_⟩
    have he:=hr.ev x
    rw[hx] at he
    obtain⟨b,y,hy,hb,hv⟩:=he.xY
    obtain⟨b',l,c,rfl,hc⟩:=Di (β:=β) (hr.row ho hy) hlt
    simp[blk] at hb
    subst hb
    obtain⟨v,hv1,hv2⟩:=hd _ _ _ _ _ hc
    refine⟨v,?_,hv2⟩
    simp only[Instr.loadAt,Sem.run_bind,hv,Instr.sureAddr,Sem.run_pure,Result.andThen_ok]
    exact hv1
  ·rename_i e s' es ho
   cases hb:Nat.beq s s' with
   |false=>rw[hb] at h;exact h.elim
   |true=>
    rw[hb] at h
    have hss:=Nat.eq_of_beq_eq_true hb
    subst hss
    obtain⟨i',hi',hlt,hld⟩:=aJ.out h
    have hii:i=i':=by omega
    subst hii
    obtain⟨d,hk,hd⟩:=F9 hld
    refine⟨d,hk,fun β a w hr=> ?_⟩
    have he:=hr.ev x
    rw[hx] at he
    obtain⟨b,y,hy,hb,hv⟩:=he.xY
    obtain⟨b',l,c,rfl,hc⟩:=Fg (β:=β) (hr.Ba ho hy) hlt
    simp[blk] at hb
    subst hb
    obtain⟨v,hv1,hv2⟩:=hd _ _ _ _ _ hc
    refine⟨v,?_,hv2⟩
    simp only[Instr.loadAt,Sem.run_bind,hv,Instr.sureAddr,Sem.run_pure,Result.andThen_ok]
    exact hv1
  ·exact h.elim
 ·exact h.elim
end Go.Eng
namespace Go.Eng
open Go Go.RowKit
def MF(c a b:D)(K:D→Prop):Prop:=
 match c with
 | .bool cb=>match a,b with
   | .bool x, .bool y=>K (.bool (bif cb then x else y))
   |a,b=>(cb=true→K a)∧(cb=false→K b)
 |_=>False
def LD(x:D)(K:D→Prop):Prop:=
 match x with
 | .rp cs=>K (.rp cs)
 | .hp o k=>K (.hp o k)
 | .hr o s i k=>K (.hr o s i k)
 | .clo (.func f) ds=>K (.clo (.func f) ds)
 |_=>False
def NK(op:UnOp)(x:D)(K:D→Prop):Prop:=
 match op,x with
 | .not, .bool b=>K (.bool (!b))
 | .neg, .int k n=>bn k (0-n) fun m=>K (.int k m)
 | .xor, .int k n=>K (.int k (vw .xor k (if k.signed then-1 else k.max) n))
 |_,_=>False
def iW(c:UInt8):List D:=[.int .u8 c.toNat]
@[irreducible] def lq(es:List (List D))(K:List UInt8→Prop):Prop:= ∃l,es=l.map iW∧K l
theorem lq.mk{es:List (List D)}{K:List UInt8→Prop}(h: ∃l,es=l.map iW∧K l):lq es K:=by unfold lq;exact h
theorem lq.out{es:List (List D)}{K:List UInt8→Prop}(h:lq es K): ∃l,es=l.map iW∧K l:=by unfold lq at h;exact h
def F5(P:Program)(e:TypeId):Bool:=
 match P.underlying e with
 |some (.int .u8)=>true
 |_=>false
@[irreducible] def wG(s:FloatKind)(b:Nat)(k:IntKind)(K:Int→Prop):Prop:= ∃n,floatToIntVal s b k=some n∧K n
theorem wG.mk{s:FloatKind}{b:Nat}{k:IntKind}{K:Int→Prop}(h: ∃n,floatToIntVal s b k=some n∧K n):wG s b k K:=by unfold wG;exact h
theorem wG.out{s:FloatKind}{b:Nat}{k:IntKind}{K:Int→Prop}(h:wG s b k K): ∃n,floatToIntVal s b k=some n∧K n:=by unfold wG at h;exact h
def Jo(P:Program)(st:St)(src dst:TypeId)(x:D)(K:D→Prop):Prop:=
 match P.underlying src,P.underlying dst with
 |some u,some (.int k)=>match x with
  | .int _ n=>bn k n fun m=>K (.int k m)
  | .v (.float s b)=>wG s b k fun m=>K (.int k m)
  |_=>False
 |some u,some (.float k)=>match x with
  | .int _ n=>K (.v (.float k (floatOfInt k n)))
  |_=>False
 |some .string,some .string=>match x with
  | .str l=>K (.str l)
  |_=>False
 |some (.slice e),some .string=>match F5 P e with
  |true=>match x with
   | .sl s es=>bif Nat.beq s 1 then lq es fun l=>K (.str l) else False
   | .h o=>match st.obj o with
     | .row _ s es=>bif Nat.beq s 1 then lq es fun l=>K (.str l) else False
     | .raw _ s es=>bif Nat.beq s 1 then lq es fun l=>K (.str l) else False
     |_=>False
   | .v (.slice none 0 0)=>K (.str [])
   |_=>False
  |false=>False
 |_,_=>False
def JC(P:Program)(s:TypeId)(x:D)(f:Nat)(K:D→Prop):Prop:=
 match P.underlying s with
 |some (.struct fields)=>match fields[f]? with
  |some fd=>match Nat.beq (P.cellsOf fd.type) 0 with
   |true=>False
   |false=>match x with
    | .rp cs=>yP cs fd.offset fun r=>K (.rp r)
    | .hp o k=>K (.hp o (k+fd.offset))
    | .hr o s i k=>K (.hr o s i (k+fd.offset))
    |_=>False
  |none=>False
 |_=>False
def MC(P:Program)(t:TypeId)(cs:List D)(off:Nat)(K:D→Prop):Prop:=tu P t cs off K
def JD(P:Program)(t:TypeId)(x:D)(f:Nat)(K:D→Prop):Prop:=
 match P.underlying t with
 |some (.struct fields)=>match fields[f]? with
  |some fd=>match x with
   | .agg cs=>MC P fd.type cs fd.offset K
   |_=>False
  |none=>False
 |_=>False
def chunk(s:Nat):Nat→List D→List (List D)
 |0,_=>[]
 |n+1,cs=>cs.take s::chunk s n (cs.drop s)
def KJ(P:Program)(st:St)(t:TypeId)(x i:D)(K:D→Prop):Prop:=
 match P.underlying t with
 |some (.slice e)=>match x,i with
  | .sl s es, .int _ n=>bif Nat.beq s (P.cellsOf e)&&Nat.blt 0 s then aJ es n fun c=>K (.rp c) else False
  | .h o, .int _ n=>match st.obj o with
    | .row _ s es=>bif Nat.beq s (P.cellsOf e)&&Nat.blt 0 s then aW n es.length fun j=>K (.hr o s j 0) else False
    | .raw _ s es=>bif Nat.beq s (P.cellsOf e)&&Nat.blt 0 s then aW n es.length fun j=>K (.hr o s j 0) else False
    |_=>False
  | .hs o s' a b, .int _ n=>match st.obj o with
    | .row _ s es=>bif Nat.beq s s'&&Nat.beq s (P.cellsOf e)&&Nat.blt 0 s then aW n (b-a) fun j=>K (.hr o s (a+j) 0) else False
    |_=>False
  |_,_=>False
 |some (.array len e)=>match x,i with
  | .rp cs, .int _ n=>bif Nat.blt 0 (P.cellsOf e)&&Nat.ble (len*P.cellsOf e) cs.length then aJ (chunk (P.cellsOf e) len cs) n fun c=>K (.rp c) else False
  | .hp o k, .int _ n=>bif Nat.blt 0 (P.cellsOf e) then aW n len fun j=>K (.hp o (k+j*P.cellsOf e)) else False
  |_,_=>False
 |_=>False
def KL(P:Program)(t:TypeId)(x i:D)(K:D→Prop):Prop:=
 match P.underlying t with
 |some .string=>match x,i with
  | .str l, .int _ n=>iJ l n fun c=>K (.int .u8 c.toNat)
  |_,_=>False
 |some (.array len e)=>match x,i with
  | .agg cs, .int _ n=>bif Nat.blt 0 (P.cellsOf e)&&Nat.ble (len*P.cellsOf e) cs.length then aJ (chunk (P.cellsOf e) len cs) n fun c=>MC P e c 0 K else False
  |_,_=>False
 |_=>False
def gJ{α:Type}(l:List α):Option Nat→Option Nat→List α
 |none,none=>l
 |some a,none=>l.drop a
 |none,some b=>l.take b
 |some a,some b=>(l.drop a).take (b-a)
def Ag(lo hi:Option D)(n:Nat)(K:Option Nat→Option Nat→Prop):Prop:=
 match lo,hi with
 |none,none=>K none none
 |some (.int _ a),none=>iw a n n fun x _=>K (some x) none
 |none,some (.int _ b)=>iw 0 b n fun _ y=>K none (some y)
 |some (.int _ a),some (.int _ b)=>iw a b n fun x y=>K (some x) (some y)
 |_,_=>False
@[irreducible] def fF(p K:Prop):Prop:=p∧K
theorem fF.mk{p K:Prop}(h:p)(k:K):fF p K:=by unfold fF;exact⟨h,k⟩
theorem fF.out{p K:Prop}(h:fF p K):p∧K:=by unfold fF at h;exact h
def wQ(lo hi:Option D)(n c:Nat)(K:Nat→Nat→Prop):Prop:=
 match lo,hi with
 |none,none=>K 0 n
 |some (.int _ a),none=>iw a n n fun x _=>K x n
 |none,some (.int _ b)=>iw 0 b c fun _ y=>K 0 y
 |some (.int _ a),some (.int _ b)=>iw a b c fun x y=>K x y
 |_,_=>False
def GR(P:Program)(st:St)(t:TypeId)(x:D)(lo hi mx:Option D)(K:D→Prop):Prop:=
 match mx with
 |some m=>match P.underlying t with
  |some (.slice e)=>bif Nat.blt 0 (P.cellsOf e) then
   (match lo,hi,m with
   |some (.int _ a),some (.int _ b), .int _ c=>match x with
    | .sl _ es=>fF (0≤a∧a≤b∧b≤c∧c≤es.length) (K .junk)
    | .h o=>match st.obj o with
      | .row _ _ es=>fF (0≤a∧a≤b∧b≤c∧c≤es.length) (K .junk)
      |_=>False
    | .hs _ _ p q=>fF (0≤a∧a≤b∧b≤c∧c≤(q-p:Nat)) (K .junk)
    |_=>False
   |_,_,_=>False) else False
  |_=>False
 |none=>match P.underlying t with
  |some .string=>match x with
   | .str l=>Ag lo hi l.length fun a b=>K (.str (gJ l a b))
   |_=>False
  |some (.slice e)=>match x with
   | .sl s es=>bif Nat.beq s (P.cellsOf e)&&Nat.blt 0 s then Ag lo hi es.length fun a b=>K (.sl s (gJ es a b)) else False
   | .h o=>match st.obj o with
     | .row _ s es=>bif Nat.beq s (P.cellsOf e)&&Nat.blt 0 s then wQ lo hi es.length es.length fun a b=>K (.hs o s a b) else False
     |_=>False
   | .hs o s' a0 b0=>match st.obj o with
     | .row _ s es=>bif Nat.beq s s'&&Nat.beq s (P.cellsOf e)&&Nat.blt 0 s then fF (b0≤es.length) (wQ lo hi (b0-a0) (es.length-a0) fun a b=>K (.hs o s (a0+a) (a0+b))) else False
     | .blk _ s _ c=>bif Nat.beq s s'&&Nat.beq s (P.cellsOf e)&&Nat.blt 0 s then fF (b0≤c) (wQ lo hi (b0-a0) (c-a0) fun a b=>K (.hs o s (a0+a) (a0+b))) else False
     |_=>False
   |_=>False
  |_=>False
def gQ{α:Type} :List α→Nat→List α→List α
 |_::r,0,d::ds=>d::gQ r 0 ds
 |l,0,[]=>l
 |c::r,n+1,ds=>c::gQ r n ds
 |[],_,_=>[]
def Dv(place:Nat→Option (Nat×Nat))(cells:List D):List (Nat×D)→(List D→Prop)→Prop
 |[],K=>K cells
 |(i,d)::r,K=>match place i with
  |none=>False
  |some (off,size)=>bif Nat.beq d.cells.length size&&Nat.ble (off+size) cells.length&&tN d then Dv place (gQ cells off d.cells) r K else False
def Aq:Value→Bool
 | .agg cs=>cs.toList.all (·.oneCell')
 |x=>x.oneCell'
def uX(P:Program)(t:TypeId)(K:List D→Prop):Prop:=
 match P.info? t with
 |some i=>match i.zero with
  |some z=>bif Aq z then K (fQ z).cells else False
  |none=>False
 |none=>False
def Eh(P:Program)(fields:Array Field)(i:Nat):Option (Nat×Nat):=
 match fields[i]? with
 |some f=>some (f.offset,P.cellsOf f.type)
 |none=>none
def Iz(P:Program)(t:TypeId)(parts:List (Nat×D))(K:D→Prop):Prop:=
 uX P t fun z=>
  match P.underlying t with
  |some (.struct fields)=>bif fields.toList.all (fun f=>(P.info? f.type).isSome) then Dv (Eh P fields) z parts fun cs=>K (.agg cs) else False
  |some (.array _ e)=>match P.info? e with
   |some _=>Dv (fun i=>some (i*P.cellsOf e,P.cellsOf e)) z parts fun cs=>K (.agg cs)
   |none=>False
  |_=>False
def lenD(P:Program)(st:St)(t:TypeId)(x:D)(K:D→Prop):Prop:=
 match P.underlying t with
 |some .string=>match x with
  | .str l=>dD l.length fun n=>K (.int .i64 n)
  |_=>False
 |some (.slice _)=>match x with
  | .sl _ es=>dD es.length fun n=>K (.int .i64 n)
  | .h o=>match st.obj o with
    | .row _ _ es=>dD es.length fun n=>K (.int .i64 n)
    | .raw _ _ es=>dD es.length fun n=>K (.int .i64 n)
    |_=>False
  | .hs o s a b=>dD (b-a) fun n=>K (.int .i64 n)
  | .v (.slice none 0 0)=>K (.int .i64 0)
  |_=>False
 |some (.array n _)=>K (.int .i64 n)
 |_=>False
def Ld(P:Program)(st:St)(t:TypeId)(m x:D)(K:D→Prop):Prop:=
 match m with
 | .h o=>match st.obj o with
   | .map P' k e _ f=>match x with
     | .str l=>bZ (P'=P∧P.underlying t=some (.map k e)) (K (.int .i64 (f l)))
     |_=>False
   |_=>False
 |_=>False
def DX(mx:Bool):List D→(D→Prop)→Prop
 |[.int k a, .int _ b],K=>K (.int k (bif mx then(if b>a then b else a) else(if b<a then b else a)))
 |_,_=>False
def Ou(P:Program)(st:St)(b:Builtin)(args:List D)(ts:List TypeId)(K:D→Prop):Prop:=
 match b,args,ts with
 | .len,[x],[t]=>lenD P st t x K
 | .min,l,_=>DX false l K
 | .max,l,_=>DX true l K
 |_,_,_=>False
def SH(P:Program)(t:TypeId)(op:BinOp)(d:D)(y:Operand):Option Bool:=
 match y with
 | .const .nilIface=>match d with
   | .v .nilIface=>match op with
     | .eql=>bif P.isIface t then some true else none
     | .neq=>bif P.isIface t then some false else none
     |_=>none
   | .v (.iface _ _)=>match op with
     | .eql=>bif P.isIface t then some false else none
     | .neq=>bif P.isIface t then some true else none
     |_=>none
   |_=>none
 |_=>none
def Gq(P:Program)(o:Oper)(st:St)(K:D→Prop):Prop:=
 match o.op with
 | .move x=>K (st.ev x)
 | .assign x=>K (st.ev x)
 | .pick c a b=>MF (st.ev c) (st.ev a) (st.ev b) K
 | .load t a=>Ei P st t (st.ev a) K
 | .nilCheck x=>LD (st.ev x) K
 | .binOp op t x y _=>match SH P t op (st.ev x) y with
   |some r=>K (.bool r)
   |none=>CP P t op (st.ev x) (st.ev y) K
 | .unOp op _ x=>NK op (st.ev x) K
 | .convert s d x=>Jo P st s d (st.ev x) K
 | .fieldAddr s x f=>JC P s (st.ev x) f K
 | .field t x f=>JD P t (st.ev x) f K
 | .indexAddr t x i=>KJ P st t (st.ev x) (st.ev i) K
 | .index t x i=>KL P t (st.ev x) (st.ev i) K
 | .lookup t m x false=>Ld P st t (st.ev m) (st.ev x) K
 | .slice t x lo hi mx=>match P.underlying t with
   |some (.array _ _)=>False
   |_=>GR P st t (st.ev x) (lo.map st.ev) (hi.map st.ev) (mx.map st.ev) K
 | .build t parts=>Iz P t (parts.toList.map fun p=>(p.1,st.ev p.2)) K
 | .extract x i=>match st.ev x with
   | .aN ds=>Eb ds i K
   |_=>False
 | .makeFunc fn first captured=>match first.toList with
   |[]=>K (.clo fn (captured.toList.map st.ev))
   |_=>False
 | .call c=>match c.callee with
   | .builtin b=>Ou P st b (c.args.toList.map st.ev) c.argTypes.toList K
   |_=>False
 |_=>False
end Go.Eng
namespace Go.Eng
open Go Go.RowKit
def Gives(X:Ctx)(st:St)(s:(Operand→Value)→Sem Value)(d:D):Prop:=
 ∀β a w,Rel X st β a w→ ∃v,(s a.eval).run X.P w= .ok v w∧Rep (FX X st β w) β w v d
theorem Gives.pure{X:Ctx}{st:St}{f:(Operand→Value)→Value}{d:D}(h: ∀β a w,Rel X st β a w→Rep (FX X st β w) β w (f a.eval) d):Gives X st (fun ρ=>Pure.pure (f ρ)) d:=
 fun β a w hr=>⟨_,rfl,h β a w hr⟩
section
variable {X:Ctx} {st:St} {K:D→Prop}
theorem ae6{x:Operand}(h:LD (st.ev x) K): ∃d,K d∧ ∀β a w,Rel X st β a w→
 (match a.eval x with
   | .pointer none| .nilIface| .nilFunc=>False
   | .func (.method _) _ _=>False
   |_=>True)∧Rep (FX X st β w) β w (a.eval x) d:=by
 unfold LD at h
 split at h
 ·rename_i cs hx
  refine⟨_,h,fun β a w hr=> ?_⟩
  have he:=hr.ev x
  rw[hx] at he
  obtain⟨b,off,hv,_⟩:=Jb he
  rw[hv] at he⊢
  exact⟨trivial,he⟩
 ·rename_i o k hx
  refine⟨_,h,fun β a w hr=> ?_⟩
  have he:=hr.ev x
  rw[hx] at he
  obtain⟨b,y,hy,hb,hv⟩:=he.xX
  rw[hv] at he⊢
  exact⟨trivial,he⟩
 ·rename_i o s i k hx
  refine⟨_,h,fun β a w hr=> ?_⟩
  have he:=hr.ev x
  rw[hx] at he
  obtain⟨b,y,hy,hb,hv⟩:=he.xY
  rw[hv] at he⊢
  exact⟨trivial,he⟩
 ·rename_i f ds hx
  refine⟨_,h,fun β a w hr=> ?_⟩
  have he:=hr.ev x
  rw[hx] at he
  obtain⟨cs,hv,_⟩:=he.qR
  rw[hv] at he⊢
  exact⟨trivial,he⟩
 ·exact h.elim
theorem afO{c x y:Operand}(h:MF (st.ev c) (st.ev x) (st.ev y) K): ∃d,K d∧Gives X st (fun ρ=>do pure (if←asBool (ρ c) then ρ x else ρ y)) d:=by
 unfold MF at h
 split at h
 ·rename_i cb hc
  split at h
  ·rename_i bx by' hx hy
   refine⟨_,h,fun β a w hr=> ?_⟩
   have h1:=hr.ev c
   rw[hc] at h1
   have h2:=hr.ev x
   rw[hx] at h2
   have h3:=hr.ev y
   rw[hy] at h3
   refine⟨_,by simp only[h1.nJ,asBool,Sem.run_bind,Sem.run_pure,Result.andThen_ok];rfl,?_⟩
   cases cb
   ·exact h3
   ·exact h2
  ·cases cb with
   |true=>
    refine⟨_,h.1 rfl,fun β a w hr=> ?_⟩
    have h1:=hr.ev c
    rw[hc] at h1
    exact⟨_,by simp only[h1.nJ,asBool,Sem.run_bind,Sem.run_pure,Result.andThen_ok,if_true],hr.ev x⟩
   |false=>
    refine⟨_,h.2 rfl,fun β a w hr=> ?_⟩
    have h1:=hr.ev c
    rw[hc] at h1
    exact⟨_,by simp only[h1.nJ,asBool,Sem.run_bind,Sem.run_pure,Result.andThen_ok];rfl,hr.ev y⟩
 ·exact h.elim
theorem ag2{op:UnOp}{x:Operand}(h:NK op (st.ev x) K): ∃d,K d∧Gives X st (fun ρ=>Op.unary op (ρ x)) d:=by
 unfold NK at h
 split at h
 ·rename_i b hx
  refine⟨_,h,fun β a w hr=> ?_⟩
  have he:=hr.ev x
  rw[hx] at he
  exact⟨_,by simp only[he.nJ,Op.unary];rfl, .ro _ _ (.bool _)⟩
 ·rename_i k n hx
  refine⟨_,h.out,fun β a w hr=> ?_⟩
  have he:=hr.ev x
  rw[hx] at he
  exact⟨_,by simp only[he.eU,Op.unary,Op.intArith];rfl, .ro _ _ (.int _ _)⟩
 ·rename_i k n hx
  refine⟨_,h,fun β a w hr=> ?_⟩
  have he:=hr.ev x
  rw[hx] at he
  exact⟨_,by simp only[he.eU,Op.unary,Op.intBits];rfl, .ro _ _ (.int _ _)⟩
 ·exact h.elim
theorem agv(P:Program)(w:World)(l:List UInt8): ∀(acc:ByteArray),
 (do
   let mut s:=acc
   for c in(l.map fun c=>Value.int .u8 (c.toNat:Int)).toArray do
    let .int .u8 n:=c|stuck "bytesToString: byte expected"
    s:=s.push (UInt8.ofNat n.toNat)
   pure (Value.string s):Sem Value).run P w= .ok (.string ⟨(acc.data.toList++l).toArray⟩) w:=by
 induction l with
 |nil=>intro acc;simp
 |cons c l ih=>
  intro acc
  have:=ih (acc.push c)
  simp only[List.map_cons,List.forIn_toArray,List.forIn_cons,Sem.run_bind] at this⊢
  simp at this⊢
  rw[this]
theorem run_bytesToString(P:Program)(w:World)(F:Nat→Prop)(β:Nat→Option Value)(b off len cap:Nat)(l:List UInt8)(hl:l.length=len)
 (h: ∀i,i<len→uz F β w b (off+i*1) ((l.map iW).getD i [])):(Conv.bytesToString (.slice (some ⟨b,off,none⟩) len cap)).run P w= .ok (.string ⟨l.toArray⟩) w:=by
 have hc: ∀j,j<len→w.cell? ((⟨b,off,none⟩:Addr).add j)=some (.int .u8 ((l.getD j 0).toNat:Int)):=by
  intro j hj
  obtain⟨c,hc⟩:=h j hj
  have hj':j<l.length:=by omega
  have he:(l.map iW).getD j []=iW (l.getD j 0):=by simp[List.getD_eq_getElem?_getD,hj']
  rw[he] at hc
  obtain⟨⟨h1,_⟩,h2⟩:=hc 0 (by simp[iW])
  rw[add_lit]
  simp only[Nat.mul_one,Nat.add_zero] at h1
  rw[h1]
  simp only[iW] at h2
  rw[h2.eU]
 have hr:=run_loadCells (P:=P) (w:=w) ⟨b,off,none⟩ len (fun j=> .int .u8 ((l.getD j 0).toNat:Int)) hc
 have:=agv P w l ByteArray.empty
 have hm:(List.map (fun j=>Value.int IntKind.u8 ((l.getD j 0).toNat:Int)) (List.range len))=l.map fun c=>Value.int .u8 (c.toNat:Int):=by
  apply List.ext_getElem
  ·simp[hl]
  ·intro i h1 h2
   simp at h1 h2
   simp[List.getD_eq_getElem?_getD,h2]
 simp only[Conv.bytesToString,Sem.run_bind,hr,Result.andThen_ok]
 simp only[Sem.run_bind] at this
 rw[hm]
 simpa using this
theorem IE{F:Nat→Prop}{β:Nat→Option Value}{w:World}{b off:Nat}{s:Nat}{es:List (List D)}(P:Program)(len cap:Nat)(l:List UInt8)(hs:s=1)(he:es=l.map iW)(hlen:len=es.length)
 (h: ∀i,i<es.length→uz F β w b (off+i*s) (es.getD i [])):(Conv.bytesToString (.slice (some ⟨b,off,none⟩) len cap)).run P w= .ok (.string ⟨l.toArray⟩) w:=by
 subst hs he hlen
 exact run_bytesToString P w F β b off _ cap l (by simp) (fun i hi=>h i hi)
theorem CU(P:Program)(w:World)(a:Option Addr)(cap:Nat):(Conv.bytesToString (.slice a 0 cap)).run P w= .ok (.string ⟨([]:List UInt8).toArray⟩) w:=by
 cases a with
 |none=>rfl
 |some a=>simp[Conv.bytesToString,loadCells,loadCellsFrom];rfl
theorem Tq{P:Program}{e:TypeId}(h:F5 P e=true):P.underlying e=some (.int .u8):=by
 unfold F5 at h
 split at h
 ·assumption
 ·cases h
theorem ace{x:Operand}{src dst:TypeId}(h:Jo X.P st src dst (st.ev x) K): ∃d,K d∧Gives X st (fun ρ=>convert src dst (ρ x)) d:=by
 unfold Jo at h
 split at h
 ·rename_i u k hs hd
  split at h
  ·rename_i k' n hx
   refine⟨_,h.out,fun β a w hr=> ?_⟩
   have he:=hr.ev x
   rw[hx] at he
   refine⟨_,?_, .ro _ _ (.int _ _)⟩
   simp only[he.eU,convert,Sem.run_bind,run_underlying hs,run_underlying hd,Result.andThen_ok,Conv.intToInt]
   cases u<;>rfl
  ·rename_i s b hx
   obtain⟨n,hn,hk⟩:=h.out
   refine⟨_,hk,fun β a w hr=> ?_⟩
   have he:=hr.ev x
   rw[hx] at he
   refine⟨_,?_, .ro _ _ (.int _ _)⟩
   simp only[he.kZ]
   exact run_convert_float_int w src dst s k b n (by rw[hs];rfl) hd hn
  ·exact h.elim
 ·rename_i u k hs hd
  split at h
  ·rename_i k' n hx
   refine⟨_,h,fun β a w hr=> ?_⟩
   have he:=hr.ev x
   rw[hx] at he
   refine⟨_,?_, .ro _ _ (.v _)⟩
   simp only[he.eU]
   exact run_convert_int_float w src dst k' k n (by rw[hs];rfl) hd
  ·exact h.elim
 ·rename_i hs hd
  split at h
  ·rename_i l hx
   refine⟨_,h,fun β a w hr=> ?_⟩
   have he:=hr.ev x
   rw[hx] at he
   refine⟨_,?_, .ro _ _ (.str _ he.BI)⟩
   simp only[he.nC,convert,Sem.run_bind,run_underlying hs,run_underlying hd,Result.andThen_ok]
   rfl
  ·exact h.elim
 ·rename_i e hs hd
  split at h
  ·rename_i hu
   have hu:=Tq hu
   have conv: ∀(w:World) a l c,(convert src dst (.slice a l c)).run X.P w=(Conv.bytesToString (.slice a l c)).run X.P w:=by
    intro w a l c
    cases a<;>simp only[convert,Sem.run_bind,run_underlying hs,run_underlying hd,Result.andThen_ok,run_underlying hu]
   split at h
   ·rename_i s es hx
    cases hb:Nat.beq s 1 with
    |false=>rw[hb] at h;exact h.elim
    |true=>
     rw[hb] at h
     have hs1:=Nat.eq_of_beq_eq_true hb
     obtain⟨l,hl,hk⟩:=lq.out h
     refine⟨_,hk,fun β a w hr=> ?_⟩
     have he:=hr.ev x
     rw[hx] at he
     have he:=he.uU
     have hlm:l.length≤maxLen:=by have:=(Wq he).1;rw[hl] at this;simpa using this
     refine⟨.string ⟨l.toArray⟩,?_, .ro _ _ (.str _ hlm)⟩
     by_cases hn:es=[]
     ·subst hn
      have hl0:l=[]:=by simpa using hl.symm
      subst hl0
      rcases he.zF with⟨_,ax,cx,hv⟩|⟨b,off,cap,c,hv,_⟩
      ·simp only[hv,conv];exact CU _ _ _ _
      ·simp only[hv,conv];exact CU _ _ _ _
     ·have hpos:0<es.length:=by cases es with|nil=>exact absurd rfl hn|cons _ _=>simp
      obtain⟨b,off,ln,c,hv,hln,_,_⟩:=Jc he hpos
      simp only[hv,conv]
      refine IE (F:=FX X st β w) (β:=β) X.P _ _ l hs1 hl hln (fun i hi=> ?_)
      obtain⟨b',off',TN,c',hv',_,hF',hro⟩:=Jc he hi
      rw[hv] at hv'
      cases hv'
      obtain⟨b2,off2,hv2,_,hc2⟩:=Jb (β:=β) (Rep.ro _ _ hro)
      cases hv2
      exact hc2
   ·rename_i o hx
    split at h
    ·rename_i e' s es ho
     cases hb:Nat.beq s 1 with
     |false=>rw[hb] at h;exact h.elim
     |true=>
      rw[hb] at h
      have hs1:=Nat.eq_of_beq_eq_true hb
      obtain⟨l,hl,hk⟩:=lq.out h
      refine⟨_,hk,fun β a w hr=> ?_⟩
      have he:=hr.ev x
      rw[hx] at he
      have hrow:=hr.row ho he.iM
      have hlm:l.length≤maxLen:=by have:=(Bz hrow).1;rw[hl] at this;simpa using this
      refine⟨.string ⟨l.toArray⟩,?_, .ro _ _ (.str _ hlm)⟩
      obtain⟨_,ax,cx,mP⟩:=Bz hrow
      by_cases hn:es=[]
      ·subst hn
       have hl0:l=[]:=by simpa using hl.symm
       subst hl0
       simp only[mP,conv]
       exact CU _ _ _ _
      ·have hpos:0<es.length:=by cases es with|nil=>exact absurd rfl hn|cons _ _=>simp
       obtain⟨b,ln,c,hv,_⟩:=Di (β:=β) hrow hpos
       rw[hv] at mP
       cases mP
       simp only[hv,conv]
       refine IE (F:=FX X st β w) (β:=β) X.P _ _ l hs1 hl rfl (fun i hi=> ?_)
       obtain⟨b',TN,c',hv',hc'⟩:=Di (β:=β) hrow hi
       rw[hv] at hv'
       cases hv'
       rw[Nat.zero_add]
       exact hc'
    ·rename_i e' s es ho
     cases hb:Nat.beq s 1 with
     |false=>rw[hb] at h;exact h.elim
     |true=>
      rw[hb] at h
      have hs1:=Nat.eq_of_beq_eq_true hb
      obtain⟨l,hl,hk⟩:=lq.out h
      refine⟨_,hk,fun β a w hr=> ?_⟩
      have he:=hr.ev x
      rw[hx] at he
      have hrow:=hr.Ba ho he.iM
      have hlm:l.length≤maxLen:=by have:=(Em hrow).1;rw[hl] at this;simpa using this
      refine⟨.string ⟨l.toArray⟩,?_, .ro _ _ (.str _ hlm)⟩
      obtain⟨_,ax,cx,mP⟩:=Em hrow
      by_cases hn:es=[]
      ·subst hn
       have hl0:l=[]:=by simpa using hl.symm
       subst hl0
       simp only[mP,conv]
       exact CU _ _ _ _
      ·have hpos:0<es.length:=by cases es with|nil=>exact absurd rfl hn|cons _ _=>simp
       obtain⟨b,ln,c,hv,_⟩:=Fg (β:=β) hrow hpos
       rw[hv] at mP
       cases mP
       simp only[hv,conv]
       refine IE (F:=FX X st β w) (β:=β) X.P _ _ l hs1 hl rfl (fun i hi=> ?_)
       obtain⟨b',TN,c',hv',hc'⟩:=Fg (β:=β) hrow hi
       rw[hv] at hv'
       cases hv'
       rw[Nat.zero_add]
       exact hc'
    ·exact h.elim
   ·rename_i hx
    refine⟨_,h,fun β a w hr=> ?_⟩
    have he:=hr.ev x
    rw[hx] at he
    refine⟨_,?_, .ro _ _ (.str [] (by simp))⟩
    simp only[he.kZ,conv]
    exact CU _ _ _ _
   ·exact h.elim
  ·exact h.elim
 ·exact h.elim
theorem o7{P:Program}{t:TypeId}(h:Nat.beq (P.cellsOf t) 0=false)(w:World):(sizeOf t).run P w= .ok (P.cellsOf t) w:=by
 cases hi:P.info? t with
 |none=>simp[Program.cellsOf,hi] at h
 |some i=>simp[sizeOf,typeInfo,hi,Program.cellsOf]
theorem ac5{s:TypeId}{x:Operand}{f:Nat}(h:JC X.P s (st.ev x) f K): ∃d,K d∧Gives X st (fun ρ=>Instr.fieldAt s (ρ x) f) d:=by
 unfold JC at h
 split at h
 ·rename_i fields hs
  split at h
  ·rename_i fd hf
   split at h
   ·exact h.elim
   ·rename_i hsz
    have hrun: ∀(w:World) (b off:Nat),(Instr.fieldAt s (.pointer (some ⟨b,off,none⟩)) f).run X.P w= .ok (.pointer (some ⟨b,off+fd.offset,none⟩)) w:=by
     intro w b off
     have hne:X.P.cellsOf fd.type≠0:=by
      intro e
      rw[e] at hsz
      cases hsz
     simp only[Instr.fieldAt,Sem.run_bind,run_underlying hs,Result.andThen_ok,hf,Instr.sureAddr,Sem.run_pure,fieldPlace,o7 hsz,if_neg hne,add_lit]
    split at h
    ·rename_i cs hx
     obtain⟨hl,hk⟩:=Jy h
     refine⟨_,hk,fun β a w hr=> ?_⟩
     have he:=hr.ev x
     rw[hx] at he
     obtain⟨b,off,c,hv,hF,hc,hr'⟩:=he.Eu.Gx
     ·refine⟨_,by simp only[hv];exact hrun w b off,?_⟩
      refine .ro _ _ (.rp _ b _ (fun j=>c (fd.offset+j)) hF (fun j hj=> ?_) (fun j hj=> ?_))
      ·rw[List.length_drop] at hj
       rw[Nat.add_assoc]
       exact hc (fd.offset+j) (by omega)
      ·rw[List.length_drop] at hj
       have:=hr' (fd.offset+j) (by omega)
       simpa[List.getD_eq_getElem?_getD] using this
    ·rename_i o k hx
     refine⟨_,h,fun β a w hr=> ?_⟩
     have he:=hr.ev x
     rw[hx] at he
     obtain⟨b,y,hy,hb,hv⟩:=he.xX
     exact⟨_,by simp only[hv];exact hrun w b k, .hp _ _ _ _ hy hb⟩
    ·rename_i o sz i k hx
     refine⟨_,h,fun β a w hr=> ?_⟩
     have he:=hr.ev x
     rw[hx] at he
     obtain⟨b,y,hy,hb,hv⟩:=he.xY
     refine⟨_,by simp only[hv];exact hrun w b _,?_⟩
     rw[Nat.add_assoc]
     exact .hr _ _ _ _ _ _ hy hb
    ·exact h.elim
  ·exact h.elim
 ·exact h.elim
end
end Go.Eng
namespace Go.Eng
open Go Go.RowKit
section
variable {X:Ctx} {st:St} {K:D→Prop}
theorem Rx{cs:List Value}{i:Nat}(h:i<cs.length):cs.toArray[i]? =some (cs.getD i undef):=by
 simp[List.getD_eq_getElem?_getD,h]
theorem TP{P:Program}{t:TypeId}{ds:List D}{k:Nat}{K:D→Prop}(h:tu P t ds k K):
 ∃d,K d∧ ∀(F:Nat→Prop) (β:Nat→Option Value) (w:World) (cs:List Value),cs.length=ds.length→(∀u∈cs,u.oneCell'=true)→(∀i,i<ds.length→Rep F β w (cs.getD i undef) (ds.getD i .junk))→
  ∃v,(part t cs.toArray k).run P w= .ok v w∧Rep F β w v d:=by
 unfold tu at h
 split at h
 ·rename_i u hu
  split at h
  ·rename_i ha
   obtain⟨hl,hk⟩:=Js h
   refine⟨_,hk,fun F β w cs hlen h1 hr=>⟨.agg ((cs.drop k).take (P.cellsOf t)).toArray,?_, .agg _ _ ?_ ?_ ?_⟩⟩
   ·simp only[part,Sem.run_bind,Gz hu,ha,Result.andThen_ok,if_true,run_sizeOf hu,Sem.run_pure]
    congr 2
    rw[List.extract_toArray,List.extract_eq_take_drop]
    congr 2
    omega
   ·simp;omega
   ·intro x hx;exact h1 x (List.mem_of_mem_drop (List.mem_of_mem_take hx))
   ·intro i hi
    have hi':i<P.cellsOf t:=by simp at hi;omega
    have:=hr (k+i) (by omega)
    simp only[List.getD_eq_getElem?_getD,List.getElem?_take_of_lt hi',List.getElem?_drop]
    simpa[List.getD_eq_getElem?_getD] using this
  ·rename_i ha
   obtain⟨hl,hk⟩:=Ec h
   refine⟨_,hk,fun F β w cs hlen h1 hr=>⟨cs.getD k undef,?_,hr k hl⟩⟩
   simp only[part,Sem.run_bind,Gz hu,ha,Result.andThen_ok,Rx (cs:=cs) (i:=k) (by omega)]
   rfl
 ·exact h.elim
theorem ac6{t:TypeId}{x:Operand}{f:Nat}(h:JD X.P t (st.ev x) f K): ∃d,K d∧Gives X st (fun ρ=>Instr.field t (ρ x) f) d:=by
 unfold JD at h
 split at h
 ·rename_i fields hs
  split at h
  ·rename_i fd hf
   split at h
   ·rename_i ds hx
    obtain⟨d,hk,hd⟩:=TP h
    refine⟨d,hk,fun β a w hr=> ?_⟩
    have he:=hr.ev x
    rw[hx] at he
    obtain⟨cs,hv,hl,h1,hr'⟩:=he.jM
    obtain⟨v,hv1,hv2⟩:=hd _ β w cs hl h1 hr'
    refine⟨v,?_,hv2⟩
    simp only[hv,Instr.field,Sem.run_bind,run_underlying hs,Result.andThen_ok,hf,asAgg,Sem.run_pure]
    exact hv1
   ·exact h.elim
  ·exact h.elim
 ·exact h.elim
theorem Jg(s:Nat): ∀(n:Nat) (cs:List D),(chunk s n cs).length=n
 |0,_=>rfl
 |n+1,cs=>by simp[chunk,Jg s n]
theorem Jf(s:Nat): ∀(n:Nat) (cs:List D) (i:Nat),i<n→(chunk s n cs).getD i []=(cs.drop (i*s)).take s
 |n+1,cs,0,_=>by simp[chunk]
 |n+1,cs,i+1,h=>by
  have:=Jf s n (cs.drop s) i (by omega)
  simp only[chunk,List.getD_cons_succ,this,List.drop_drop]
  congr 2
  rw[Nat.add_mul];omega
theorem QJ: ∀ {l:List D} {k:Nat} {K:List D→Prop},k≤l.length→K (l.drop k)→yP l k K
 |_,0,_,_,h=>by simpa[yP] using h
 |[],k+1,_,h,_=>by simp at h
 |d::r,k+1,K,h,h2=>QJ (l:=r) (k:=k) (by simpa using h) (by simpa using h2)
theorem WI: ∀ {l:List D} {n:Nat} {K:List D→Prop},n≤l.length→K (l.take n)→BK l n K
 |_,0,_,_,h=>by simpa[BK] using h
 |[],n+1,_,h,_=>by simp at h
 |d::r,n+1,K,h,h2=>WI (l:=r) (n:=n) (by simpa using h) (by simpa using h2)
theorem acp{l:List D}{k n:Nat}{K:List D→Prop}(hl:k+n≤l.length)(h:K ((l.drop k).take n)):Jr l k n K:=
 QJ (by omega) (WI (by rw[List.length_drop];omega) h)
theorem UE: ∀ {l:List D} {n:Nat} {K:D→Prop},n<l.length→K (l.getD n .junk)→Eb l n K
 |[],_,_,h,_=>by simp at h
 |d::r,0,_,_,h=>h
 |d::r,n+1,K,h,h2=>UE (l:=r) (n:=n) (by simpa using h) (by simpa using h2)
theorem jZ{a b:Bool}(h:(a&&b)=true):a=true∧b=true:=by simpa using h
theorem aeb{t:TypeId}{x i:Operand}(h:KJ X.P st t (st.ev x) (st.ev i) K): ∃d,K d∧Gives X st (fun ρ=>Instr.indexAt t (ρ x) (ρ i)) d:=by
 unfold KJ at h
 split at h
 ·rename_i e ht
  have hrun: ∀(w:World) (b off l c:Nat) (k:IntKind) (n:Nat),n<l→X.P.cellsOf e≠0→(Instr.indexAt t (.slice (some ⟨b,off,none⟩) l c) (.int k n)).run X.P w= .ok (.pointer (some ⟨b,off+n*X.P.cellsOf e,none⟩)) w:=by
   intro w b off l c k n hn hne
   have h0:Nat.beq (X.P.cellsOf e) 0=false:=lQ hne
   have hin:(0:Int)≤(n:Int)∧(n:Int)<(l:Int):=⟨by omega,by omega⟩
   simp only[Instr.indexAt,Sem.run_bind,asIntOf,Sem.run_pure,Result.andThen_ok,run_underlying ht,if_pos hin,o7 h0,Int.toNat_natCast,add_lit]
  split at h
  ·rename_i s es k n hx hi
   cases hb:(Nat.beq s (X.P.cellsOf e)&&Nat.blt 0 s) with
   |false=>rw[hb] at h;exact h.elim
   |true=>
    rw[hb] at h
    obtain⟨h1,h2⟩:=jZ hb
    have h1:=Nat.eq_of_beq_eq_true h1
    have h2:0<s:=by simpa[Nat.blt_eq] using h2
    obtain⟨j,rfl,hj,hk⟩:=aJ.out h
    refine⟨_,hk,fun β a w hr=> ?_⟩
    have he:=hr.ev x
    rw[hx] at he
    have jc:=hr.ev i
    rw[hi] at jc
    obtain⟨b,off,l,c,hv,hl,_,hro⟩:=Jc he.uU hj
    refine⟨_,?_, .ro _ _ hro⟩
    simp only[hv,jc.eU]
    rw[hrun w b off l c k j (by omega) (by omega),h1]
  ·rename_i o k n hx hi
   split at h
   ·rename_i e' s es ho
    cases hb:(Nat.beq s (X.P.cellsOf e)&&Nat.blt 0 s) with
    |false=>rw[hb] at h;exact h.elim
    |true=>
     rw[hb] at h
     obtain⟨h1,h2⟩:=jZ hb
     have h1:=Nat.eq_of_beq_eq_true h1
     have h2:0<s:=by simpa[Nat.blt_eq] using h2
     obtain⟨j,rfl,hj,hk⟩:=aW.out h
     refine⟨_,hk,fun β a w hr=> ?_⟩
     have he:=hr.ev x
     rw[hx] at he
     have jc:=hr.ev i
     rw[hi] at jc
     have hrow:=hr.row ho he.iM
     obtain⟨b,l,c,hv,_⟩:=Di (β:=β) hrow hj
     obtain⟨_,ax,cx,mP⟩:=Bz hrow
     rw[hv] at mP
     cases mP
     refine⟨.pointer (some ⟨b,j*s+0,none⟩),?_, .hr _ _ _ _ _ _ he.iM (by rw[hv];rfl)⟩
     simp only[hv,jc.eU]
     rw[hrun w b 0 _ _ k j hj (by omega),h1,Nat.zero_add,Nat.add_zero]
   ·rename_i e' s es ho
    cases hb:(Nat.beq s (X.P.cellsOf e)&&Nat.blt 0 s) with
    |false=>rw[hb] at h;exact h.elim
    |true=>
     rw[hb] at h
     obtain⟨h1,h2⟩:=jZ hb
     have h1:=Nat.eq_of_beq_eq_true h1
     have h2:0<s:=by simpa[Nat.blt_eq] using h2
     obtain⟨j,rfl,hj,hk⟩:=aW.out h
     refine⟨_,hk,fun β a w hr=> ?_⟩
     have he:=hr.ev x
     rw[hx] at he
     have jc:=hr.ev i
     rw[hi] at jc
     have hrow:=hr.Ba ho he.iM
     obtain⟨b,l,c,hv,_⟩:=Fg (β:=β) hrow hj
     obtain⟨_,ax,cx,mP⟩:=Em hrow
     rw[hv] at mP
     cases mP
     refine⟨.pointer (some ⟨b,j*s+0,none⟩),?_, .hr _ _ _ _ _ _ he.iM (by rw[hv];rfl)⟩
     simp only[hv,jc.eU]
     rw[hrun w b 0 _ _ k j hj (by omega),h1,Nat.zero_add,Nat.add_zero]
   ·exact h.elim
  ·rename_i o s' lo hi k n hx hi'
   split at h
   ·rename_i e' s es ho
    cases hb:(Nat.beq s s'&&Nat.beq s (X.P.cellsOf e)&&Nat.blt 0 s) with
    |false=>rw[hb] at h;exact h.elim
    |true=>
     rw[hb] at h
     obtain⟨h01,h2⟩:=jZ hb
     obtain⟨h0,h1⟩:=jZ h01
     have h0:=Nat.eq_of_beq_eq_true h0
     subst h0
     have h1:=Nat.eq_of_beq_eq_true h1
     have h2:0<s:=by simpa[Nat.blt_eq] using h2
     obtain⟨j,rfl,hj,hk⟩:=aW.out h
     refine⟨_,hk,fun β a w hr=> ?_⟩
     have he:=hr.ev x
     rw[hx] at he
     have jc:=hr.ev i
     rw[hi'] at jc
     obtain⟨y,hy,p,len,cap,q,hyv,hle,hbl,hlc,hv,hq⟩:=he.mO
     have hrow:=hr.row ho hy
     have hp: ∃b,p=some ⟨b,0,none⟩:=by
      obtain⟨_,_,xs,how,_⟩:=hrow
      rcases how.2 with⟨hv',hn⟩|⟨g,cap',cur,hv',_⟩
      ·rw[hyv] at hv'
       cases hv'
       omega
      ·rw[hyv] at hv'
       cases hv'
       exact⟨g,rfl⟩
     obtain⟨b,rfl⟩:=hp
     refine⟨.pointer (some ⟨b,(lo+j)*s+0,none⟩),?_, .hr _ _ _ _ _ _ hy (by rw[hyv];rfl)⟩
     simp only[hv,hq (by omega),Option.map_some,add_lit,jc.eU]
     rw[hrun w b _ _ _ k j hj (by omega),h1,Nat.zero_add,Nat.add_zero,Nat.add_mul]
   ·exact h.elim
  ·exact h.elim
 ·rename_i len e ht
  have hrun: ∀(w:World) (b off:Nat) (k:IntKind) (n:Nat),n<len→X.P.cellsOf e≠0→(Instr.indexAt t (.pointer (some ⟨b,off,none⟩)) (.int k n)).run X.P w= .ok (.pointer (some ⟨b,off+n*X.P.cellsOf e,none⟩)) w:=by
   intro w b off k n hn hne
   have h0:Nat.beq (X.P.cellsOf e) 0=false:=lQ hne
   have hin:(0:Int)≤(n:Int)∧(n:Int)<(len:Int):=⟨by omega,by omega⟩
   simp only[Instr.indexAt,Sem.run_bind,asIntOf,Sem.run_pure,Result.andThen_ok,run_underlying ht,Instr.sureAddr,if_pos hin,o7 h0,Int.toNat_natCast,add_lit]
  split at h
  ·rename_i cs k n hx hi
   cases hb:(Nat.blt 0 (X.P.cellsOf e)&&Nat.ble (len*X.P.cellsOf e) cs.length) with
   |false=>rw[hb] at h;exact h.elim
   |true=>
    rw[hb] at h
    obtain⟨h1,h2⟩:=jZ hb
    have h1:0<X.P.cellsOf e:=by simpa[Nat.blt_eq] using h1
    have h2:len*X.P.cellsOf e≤cs.length:=by simpa using h2
    obtain⟨j,rfl,hj,hk⟩:=aJ.out h
    rw[Jg] at hj
    rw[Jf _ _ _ _ hj] at hk
    refine⟨_,hk,fun β a w hr=> ?_⟩
    have he:=hr.ev x
    rw[hx] at he
    have jc:=hr.ev i
    rw[hi] at jc
    obtain⟨b,off,c,hv,hF,hc,hr'⟩:=he.Eu.Gx
    have hle:(j+1)*X.P.cellsOf e≤len*X.P.cellsOf e:=Nat.mul_le_mul_right _ hj
    rw[Nat.add_mul] at hle
    refine⟨_,by simp only[hv,jc.eU];exact hrun w b off k j hj (by omega),?_⟩
    refine .ro _ _ (.rp _ b _ (fun m=>c (j*X.P.cellsOf e+m)) hF (fun m hm=> ?_) (fun m hm=> ?_))
    ·rw[List.length_take,List.length_drop] at hm
     rw[Nat.add_assoc]
     exact hc _ (by omega)
    ·rw[List.length_take,List.length_drop] at hm
     have:=hr' (j*X.P.cellsOf e+m) (by omega)
     simp only[List.getD_eq_getElem?_getD,List.getElem?_take_of_lt (show m<X.P.cellsOf e by omega),List.getElem?_drop]
     simpa[List.getD_eq_getElem?_getD] using this
  ·rename_i o k0 k n hx hi
   cases hb:Nat.blt 0 (X.P.cellsOf e) with
   |false=>rw[hb] at h;exact h.elim
   |true=>
    rw[hb] at h
    have h1:0<X.P.cellsOf e:=by simpa[Nat.blt_eq] using hb
    obtain⟨j,rfl,hj,hk⟩:=aW.out h
    refine⟨_,hk,fun β a w hr=> ?_⟩
    have he:=hr.ev x
    rw[hx] at he
    have jc:=hr.ev i
    rw[hi] at jc
    obtain⟨b,y,hy,hb,hv⟩:=he.xX
    exact⟨_,by simp only[hv,jc.eU];exact hrun w b k0 k j hj (by omega), .hp _ _ _ _ hy hb⟩
  ·exact h.elim
 ·exact h.elim
theorem aec{t:TypeId}{x i:Operand}(h:KL X.P t (st.ev x) (st.ev i) K): ∃d,K d∧Gives X st (fun ρ=>Instr.index t (ρ x) (ρ i)) d:=by
 unfold KL at h
 split at h
 ·rename_i ht
  split at h
  ·rename_i l k n hx hi
   obtain⟨j,hj,rfl,hk⟩:=iJ.out h
   refine⟨_,hk,fun β a w hr=> ?_⟩
   have he:=hr.ev x
   rw[hx] at he
   have jc:=hr.ev i
   rw[hi] at jc
   refine⟨_,?_, .ro _ _ (.int _ _)⟩
   have hb:(⟨l.toArray⟩:ByteArray)[j]? =some l[j]:=by
    have hsz:j<(⟨l.toArray⟩:ByteArray).size:=by simpa[ByteArray.size] using hj
    rw[getElem?_pos (⟨l.toArray⟩:ByteArray) j hsz]
    rfl
   have h0:(0:Int)≤(j:Int):=by omega
   simp only[he.nC,jc.eU,Instr.index,Sem.run_bind,asIntOf,Sem.run_pure,Result.andThen_ok,run_underlying ht,if_pos h0,Int.toNat_natCast,hb]
  ·exact h.elim
 ·rename_i len e ht
  split at h
  ·rename_i ds k n hx hi
   cases hb:(Nat.blt 0 (X.P.cellsOf e)&&Nat.ble (len*X.P.cellsOf e) ds.length) with
   |false=>rw[hb] at h;exact h.elim
   |true=>
    rw[hb] at h
    obtain⟨h1,h2⟩:=jZ hb
    have h1:0<X.P.cellsOf e:=by simpa[Nat.blt_eq] using h1
    have h2:len*X.P.cellsOf e≤ds.length:=by simpa using h2
    obtain⟨j,rfl,hj,hk⟩:=aJ.out h
    rw[Jg] at hj
    rw[Jf _ _ _ _ hj] at hk
    unfold MC at hk
    have hle:(j+1)*X.P.cellsOf e≤len*X.P.cellsOf e:=Nat.mul_le_mul_right _ hj
    rw[Nat.add_mul] at hle
    have hk2:tu X.P e ds (j*X.P.cellsOf e) K:=by
     unfold tu at hk⊢
     cases hu:X.P.underlying e with
     |none=>simp only[hu] at hk
     |some u=>
      simp only[hu] at hk⊢
      cases ha:KT u with
      |true=>
       simp only[ha] at hk⊢
       have:=Js hk
       have e1:List.take (X.P.cellsOf e) (List.drop 0 (List.take (X.P.cellsOf e) (List.drop (j*X.P.cellsOf e) ds)))=(ds.drop (j*X.P.cellsOf e)).take (X.P.cellsOf e):=by simp[List.take_take]
       rw[e1] at this
       exact acp (by omega) this.2
      |false=>
       simp only[ha] at hk⊢
       have:=Ec hk
       refine UE (by omega) ?_
       have:=this.2
       simp only[List.getD_eq_getElem?_getD,List.getElem?_take_of_lt h1,List.getElem?_drop,Nat.add_zero] at this
       simpa[List.getD_eq_getElem?_getD] using this
    obtain⟨d,hkd,hd⟩:=TP hk2
    refine⟨d,hkd,fun β a w hr=> ?_⟩
    have he:=hr.ev x
    rw[hx] at he
    have jc:=hr.ev i
    rw[hi] at jc
    obtain⟨cs,hv,hl,hone,hr'⟩:=he.jM
    obtain⟨v,hv1,hv2⟩:=hd _ β w cs hl hone hr'
    refine⟨v,?_,hv2⟩
    have hin:(0:Int)≤(j:Int)∧(j:Int)<(len:Int):=⟨by omega,by omega⟩
    have h0:Nat.beq (X.P.cellsOf e) 0=false:=lQ (by omega)
    simp only[hv,jc.eU,Instr.index,Sem.run_bind,asIntOf,Sem.run_pure,Result.andThen_ok,run_underlying ht,if_pos hin,o7 h0,Int.toNat_natCast]
    exact hv1
  ·exact h.elim
 ·exact h.elim
end
end Go.Eng
namespace Go.Eng
open Go Go.RowKit
section
variable {X:Ctx} {st:St}
theorem Qv{lo hi:Option Operand}{n:Nat}{K:Option Nat→Option Nat→Prop}(h:Ag (lo.map st.ev) (hi.map st.ev) n K):
 ∃a b:Option Nat,K a b∧(a.getD 0≤b.getD n∧b.getD n≤n)∧ ∀β ac w,Rel X st β ac w→ ∀(isSlice:Bool) (cap:Nat),n≤cap→
  (Instr.sliceBounds isSlice n cap (lo.map ac.eval) (hi.map ac.eval) none).run X.P w= .ok (a.getD 0,b.getD n,cap) w:=by
 have bound: ∀(w:World) (k:IntKind) (i y:Nat) (c:BoundsCode),i≤y→(Instr.sliceBound (.int k i) y c).run X.P w= .ok i w:=by
  intro w k i y c hi
  have:(0:Int)≤(i:Int)∧(i:Int)≤(y:Int):=⟨by omega,by omega⟩
  simp only[Instr.sliceBound,Sem.run_bind,asIntOf,Sem.run_pure,Result.andThen_ok,if_pos this,Int.toNat_natCast]
 cases lo with
 |none=>
  cases hi with
  |none=>
   refine⟨none,none,h,⟨Nat.zero_le _,Nat.le_refl _⟩,fun β ac w hr isS cap hc=> ?_⟩
   simp[Instr.sliceBounds]
  |some y=>
   cases hy:st.ev y<;>simp only[Option.map_none,Option.map_some,hy,Ag] at h
   rename_i k b
   obtain⟨p,q,hp,rfl,h1,h2,hk⟩:=iw.out h
   refine⟨none,some q,hk,⟨Nat.zero_le _,h2⟩,fun β ac w hr isS cap hc=> ?_⟩
   have he:=hr.ev y
   rw[hy] at he
   simp only[Instr.sliceBounds,Option.map_none,Option.map_some,Sem.run_bind,Sem.run_pure,Result.andThen_ok,he.eU,bound w k q cap _ (by omega),Option.getD_some,Option.getD_none]
 |some x=>
  cases hi with
  |none=>
   cases hx:st.ev x<;>simp only[Option.map_none,Option.map_some,hx,Ag] at h
   rename_i k b
   obtain⟨p,q,rfl,hq,h1,h2,hk⟩:=iw.out h
   refine⟨some p,none,hk,⟨by simp;omega,Nat.le_refl _⟩,fun β ac w hr isS cap hc=> ?_⟩
   have he:=hr.ev x
   rw[hx] at he
   simp only[Instr.sliceBounds,Option.map_none,Option.map_some,Sem.run_bind,Sem.run_pure,Result.andThen_ok,he.eU,bound w k p n _ (show p≤n by omega),Option.getD_some,Option.getD_none,Option.isSome_none]
  |some y=>
   cases hx:st.ev x<;>cases hy:st.ev y<;>simp only[Option.map_some,hx,hy,Ag] at h
   rename_i k a k' b
   obtain⟨p,q,rfl,rfl,h1,h2,hk⟩:=iw.out h
   refine⟨some p,some q,hk,⟨h1,h2⟩,fun β ac w hr isS cap hc=> ?_⟩
   have he:=hr.ev x
   rw[hx] at he
   have he':=hr.ev y
   rw[hy] at he'
   simp only[Instr.sliceBounds,Option.map_some,Sem.run_bind,Sem.run_pure,Result.andThen_ok,he.eU,he'.eU,bound w k' q cap _ (by omega),Option.getD_some]
   simp[bound w k p q _ h1]
theorem Qw{α:Type}(l:List α){a b:Option Nat}(h1:a.getD 0≤b.getD l.length)(h2:b.getD l.length≤l.length):(gJ l a b).length=b.getD l.length-a.getD 0:=by
 cases a<;>cases b<;>simp_all[gJ]
 omega
theorem acr{α:Type}(l:List α){a b:Option Nat}(h2:b.getD l.length≤l.length){i:Nat}(hi:i<b.getD l.length-a.getD 0):(gJ l a b)[i]? =l[a.getD 0+i]? :=by
 cases a<;>cases b<;>simp_all[gJ,List.getElem?_take_of_lt]
theorem RO.cut{F:Nat→Prop}{w:World}{s:Nat}{es:List (List D)}{b off cap:Nat}{c:Nat→Nat→Value}(hF:F b)(hcap:es.length≤cap)(hm:cap≤maxLen)(hs: ∀i,i<es.length→(es.getD i []).length=s)
 (hc: ∀i j,i<es.length→j<s→w.cell? ⟨b,off+i*s+j,none⟩=some (c i j)∧(c i j).oneCell'=true)(hr: ∀i j,i<es.length→j<s→RO F w (c i j) ((es.getD i []).getD j .junk))
 {x y:Option Nat}(h1:x.getD 0≤y.getD es.length)(h2:y.getD es.length≤es.length):
 RO F w (.slice (if cap=x.getD 0 then some ⟨b,off,none⟩ else some ⟨b,off+x.getD 0*s,none⟩) (y.getD es.length-x.getD 0) (cap-x.getD 0)) (.sl s (gJ es x y)):=by
 have hl:=Qw es h1 h2
 by_cases h0:y.getD es.length-x.getD 0=0
 ·rw[h0] at hl⊢
  rw[List.eq_nil_of_length_eq_zero hl]
  exact .slnil _ _ _
 ·have hne: ¬cap=x.getD 0:=by omega
  rw[if_neg hne]
  have hg: ∀i,i<(gJ es x y).length→(gJ es x y).getD i []=es.getD (x.getD 0+i) []:=by
   intro i hi
   rw[hl] at hi
   simp[List.getD_eq_getElem?_getD,acr es h2 hi]
  refine .sl s _ b _ _ _ (fun i j=>c (x.getD 0+i) j) hl.symm hF (by omega) (by omega) (fun i hi=> ?_) (fun i j hi hj=> ?_) (fun i j hi hj=> ?_)
  ·rw[hg i hi];exact hs _ (by omega)
  ·have:=hc (x.getD 0+i) j (by omega) hj
   rw[Nat.add_mul,←Nat.add_assoc] at this
   exact this
  ·rw[hg i hi];exact hr _ j (by omega) hj
theorem Qu{lo hi:Option Operand}{n c:Nat}{K:Nat→Nat→Prop}(h:wQ (lo.map st.ev) (hi.map st.ev) n c K)(hnc:n≤c):
 ∃a b:Nat,K a b∧a≤b∧b≤c∧ ∀β ac w,Rel X st β ac w→ ∀(cap:Nat),c≤cap→
  (Instr.sliceBounds true n cap (lo.map ac.eval) (hi.map ac.eval) none).run X.P w= .ok (a,b,cap) w:=by
 have bound: ∀(w:World) (k:IntKind) (i y:Nat) (c:BoundsCode),i≤y→(Instr.sliceBound (.int k i) y c).run X.P w= .ok i w:=by
  intro w k i y c hi
  have:(0:Int)≤(i:Int)∧(i:Int)≤(y:Int):=⟨by omega,by omega⟩
  simp only[Instr.sliceBound,Sem.run_bind,asIntOf,Sem.run_pure,Result.andThen_ok,if_pos this,Int.toNat_natCast]
 cases lo with
 |none=>
  cases hi with
  |none=>
   refine⟨0,n,h,Nat.zero_le _,hnc,fun β ac w hr cap hc=> ?_⟩
   simp[Instr.sliceBounds]
  |some y=>
   cases hy:st.ev y<;>simp only[Option.map_none,Option.map_some,hy,wQ] at h
   rename_i k b
   obtain⟨p,q,hp,rfl,h1,h2,hk⟩:=iw.out h
   refine⟨0,q,hk,Nat.zero_le _,h2,fun β ac w hr cap hc=> ?_⟩
   have he:=hr.ev y
   rw[hy] at he
   simp only[Instr.sliceBounds,Option.map_none,Option.map_some,Sem.run_bind,Sem.run_pure,Result.andThen_ok,he.eU,bound w k q cap _ (by omega)]
 |some x=>
  cases hi with
  |none=>
   cases hx:st.ev x<;>simp only[Option.map_none,Option.map_some,hx,wQ] at h
   rename_i k b
   obtain⟨p,q,rfl,hq,h1,h2,hk⟩:=iw.out h
   refine⟨p,n,hk,by omega,hnc,fun β ac w hr cap hc=> ?_⟩
   have he:=hr.ev x
   rw[hx] at he
   simp only[Instr.sliceBounds,Option.map_none,Option.map_some,Sem.run_bind,Sem.run_pure,Result.andThen_ok,he.eU,bound w k p n _ (show p≤n by omega),Option.isSome_none]
  |some y=>
   cases hx:st.ev x<;>cases hy:st.ev y<;>simp only[Option.map_some,hx,hy,wQ] at h
   rename_i k a k' b
   obtain⟨p,q,rfl,rfl,h1,h2,hk⟩:=iw.out h
   refine⟨p,q,hk,h1,h2,fun β ac w hr cap hc=> ?_⟩
   have he:=hr.ev x
   rw[hx] at he
   have he':=hr.ev y
   rw[hy] at he'
   simp only[Instr.sliceBounds,Option.map_some,Sem.run_bind,Sem.run_pure,Result.andThen_ok,he.eU,he'.eU,bound w k' q cap _ (by omega)]
   simp[bound w k p q _ h1]
theorem Na{F F':Nat→Prop}{w:World}{e:TypeId}{s:Nat}{es:List (List D)}{x:Value}(h:gu F w e s es x)(hF: ∀b,F b→F' b)(hx: ∀b,blk x=some b→F' b):RO F' w x (.sl s es):=by
 obtain⟨hm,hs,xs,how,h1,hro⟩:=h
 rcases how.2 with⟨rfl,hn⟩|⟨g,cap,cur,rfl,_,hg,hnc,hcm,hcs,htk⟩
 ·rw[List.eq_nil_of_length_eq_zero hn]
  exact .slnil _ _ _
 ·refine .sl s es g 0 _ cap (fun i j=>xs.getD (i*s+j) undef) rfl (hx g rfl) hnc hcm hs (fun i j hi hj=> ?_) (fun i j hi hj=>(hro i j hi hj).mono (fun b hb=>⟨hF b hb,rfl⟩))
  have hxl:xs.length=es.length*s:=how.1
  have hle:(i+1)*s≤es.length*s:=Nat.mul_le_mul_right s hi
  rw[Nat.add_mul] at hle
  have hlt:i*s+j<xs.length:=by omega
  have hx:xs.getD (i*s+j) undef=xs[i*s+j]:=by simp[List.getD_eq_getElem?_getD,hlt]
  have:=how.cells (g:=g) rfl (i*s+j) xs[i*s+j] (by simp[hlt])
  rw[add_lit,Nat.zero_add] at this
  rw[hx,Nat.zero_add]
  exact⟨this,h1 _ (List.getElem_mem _)⟩
theorem agS{F F':Nat→Prop}{w:World}{e:TypeId}{s a b:Nat}{es:List (List D)}{x v:Value}(h:gu F w e s es x)(hF: ∀b,F b→F' b)(hx: ∀b,blk x=some b→F' b)(hsub:Sub s a b x v)(hbl:b≤es.length):
 RO F' w v (.sl s ((es.drop a).take (b-a))):=by
 obtain⟨p,len,cap,q,hxv,hab,hbc,hlc,rfl,hq⟩:=hsub
 rcases Nat.lt_or_ge a b with hlt|hge
 ·obtain⟨hm,hs,xs,how,h1,hro⟩:=h
  rcases how.2 with⟨hv,hn⟩|⟨g,cap',cur,hv,_,hg,hnc,hcm,hcs,htk⟩
  ·omega
  ·rw[hxv] at hv
   cases hv
   have:=RO.cut (F:=F') (w:=w) (x:=some a) (y:=some b) (off:=0) (c:=fun i j=>xs.getD (i*s+j) undef) (hx g (by rw[hxv];rfl)) hnc hcm hs (fun i j hi hj=>by
    have hxl:xs.length=es.length*s:=how.1
    have hle:(i+1)*s≤es.length*s:=Nat.mul_le_mul_right s hi
    rw[Nat.add_mul] at hle
    have hlt:i*s+j<xs.length:=by omega
    have hx:xs.getD (i*s+j) undef=xs[i*s+j]:=by simp[List.getD_eq_getElem?_getD,hlt]
    have:=how.cells (g:=g) (by rw[hxv];rfl) (i*s+j) xs[i*s+j] (by simp[hlt])
    rw[add_lit,Nat.zero_add] at this
    rw[hx,Nat.zero_add]
    exact⟨this,h1 _ (List.getElem_mem _)⟩) (fun i j hi hj=>(hro i j hi hj).mono (fun b hb=>⟨hF b hb,rfl⟩)) hab hbl
   rw[hq (by omega)]
   simpa[gJ,add_lit,show ¬cap=a by omega] using this
 ·have hb0:b-a=0:=by omega
  rw[hb0]
  exact .slnil _ _ _
theorem agI{K:D→Prop}{t:TypeId}{x:Operand}{lo hi mx:Option Operand}(ht0: ∀n e,X.P.underlying t≠some (.array n e))(h:GR X.P st t (st.ev x) (lo.map st.ev) (hi.map st.ev) (mx.map st.ev) K):
 ∃d,K d∧Gives X st (fun ρ=>Instr.sliceAt t (ρ x) (lo.map ρ) (hi.map ρ) (mx.map ρ)) d:=by
 unfold GR at h
 cases mx with
 |some m=>
  simp only[Option.map_some] at h
  split at h
  ·rename_i e ht
   cases hb0:Nat.blt 0 (X.P.cellsOf e) with
   |false=>rw[hb0] at h;exact h.elim
   |true=>
    rw[hb0] at h
    simp only[cond_true] at h
    have h0:Nat.beq (X.P.cellsOf e) 0=false:=lQ (by have:0<X.P.cellsOf e:=by simpa[Nat.blt_eq] using hb0
                                                    omega)
    split at h
    ·rename_i k1 a1 k2 b1 k3 c1 hlo hhi hm
     have key: ∀n:Nat,(∀β a w,Rel X st β a w→ ∃p len cap,a.eval x= .slice p len cap∧n≤cap)→fF (0≤a1∧a1≤b1∧b1≤c1∧c1≤n) (K .junk)→ ∃d,K d∧Gives X st (fun ρ=>Instr.sliceAt t (ρ x) (lo.map ρ) (hi.map ρ) (some (ρ m))) d:=by
      intro n hx hk
      obtain⟨⟨g1,g2,g3,g4⟩,hk⟩:=fF.out hk
      refine⟨_,hk,fun β a w hr=> ?_⟩
      obtain⟨p,len,cap,hv,hc⟩:=hx β a w hr
      cases lo with
      |none=>cases hlo
      |some lo=>
       cases hi with
       |none=>cases hhi
       |some hi=>
        simp only[Option.map_some,Option.some.injEq] at hlo hhi
        have e1:=hr.ev lo
        rw[hlo] at e1
        have e2:=hr.ev hi
        rw[hhi] at e2
        have e3:=hr.ev m
        rw[hm] at e3
        have bound: ∀(k:IntKind) (i:Int) (y:Nat) (c:BoundsCode),0≤i→i≤y→(Instr.sliceBound (.int k i) y c).run X.P w= .ok i.toNat w:=by
         intro k i y c h1 h2
         have:(0:Int)≤i∧i≤(y:Int):=⟨h1,h2⟩
         simp only[Instr.sliceBound,Sem.run_bind,asIntOf,Sem.run_pure,Result.andThen_ok,if_pos this]
        refine⟨.slice (if c1.toNat=a1.toNat then p else p.map (·.add (a1.toNat*X.P.cellsOf e))) (b1.toNat-a1.toNat) (c1.toNat-a1.toNat),?_, .ro _ _ (.junk _)⟩
        ·have hs3:=o7 h0 w
         simp only[hv,Instr.sliceAt,Instr.slice,Instr.sliceBounds,Option.map_some,Sem.run_bind,run_underlying ht,Result.andThen_ok,e1.eU,e2.eU,e3.eU,bound k3 c1 cap _ (by omega) (by omega),bound k2 b1 c1.toNat _ (by omega) (by omega),Option.isSome_some,Sem.run_pure,hs3]
         simp only[bound k1 a1 b1.toNat _ (by omega) (by omega),Sem.run_bind,Sem.run_pure,Result.andThen_ok,hs3,if_true]
     split at h
     ·rename_i s es hx
      refine key es.length (fun β a w hr=> ?_) h
      have he:=hr.ev x
      rw[hx] at he
      rcases he.uU.zF with⟨rfl,ad,c,hv⟩|⟨b,off,cap,c,hv,hF,hcap,_⟩
      ·exact⟨_,_,_,hv,Nat.zero_le _⟩
      ·exact⟨_,_,_,hv,hcap⟩
     ·rename_i o hx
      split at h
      ·rename_i e' s es ho
       refine key es.length (fun β a w hr=> ?_) h
       have he:=hr.ev x
       rw[hx] at he
       obtain⟨_,_,xs,how,_⟩:=hr.row ho he.iM
       rcases how.2 with⟨hv,hn⟩|⟨g,cap,cur,hv,_,hg,hnc,_⟩
       ·exact⟨_,_,_,hv,by omega⟩
       ·exact⟨_,_,_,hv,hnc⟩
      ·exact h.elim
     ·rename_i o s2 p q hx
      refine key (q-p) (fun β a w hr=> ?_) h
      have he:=hr.ev x
      rw[hx] at he
      obtain⟨y,hy,pp,len,cap,qq,hyv,hab,hbc,hlc,hv,hq⟩:=he.mO
      exact⟨_,_,_,hv,by omega⟩
     ·exact h.elim
    ·exact h.elim
  ·exact h.elim
 |none=>
  simp only[Option.map_none] at h
  split at h
  ·rename_i ht
   split at h
   ·rename_i l hx
    obtain⟨p,q,hk,⟨h1,h2⟩,hrun⟩:=Qv h
    refine⟨_,hk,fun β a w hr=> ?_⟩
    have he:=hr.ev x
    rw[hx] at he
    have hsz:(⟨l.toArray⟩:ByteArray).size=l.length:=by simp[ByteArray.size]
    have hb:=hrun β a w hr false l.length (Nat.le_refl _)
    have hlm:(gJ l p q).length≤maxLen:=by rw[Qw l h1 h2];have:=he.BI;omega
    refine⟨.string ⟨(gJ l p q).toArray⟩,?_, .ro _ _ (.str _ hlm)⟩
    have hx:(⟨l.toArray⟩:ByteArray).extract (p.getD 0) (q.getD l.length)=⟨(gJ l p q).toArray⟩:=by
     apply ByteArray.ext
     apply Array.ext'
     simp only[ByteArray.data_extract,Array.toList_extract,List.extract_eq_take_drop]
     cases p<;>cases q<;>simp[gJ]
     rw[List.take_of_length_le (by simp)]
    simp only[he.nC,Instr.sliceAt,Instr.slice,Sem.run_bind,run_underlying ht,Result.andThen_ok,Option.map_none,Option.isSome_none,hsz]
    simp[hb,hx]
   ·exact h.elim
  ·rename_i e ht
   split at h
   ·rename_i s es hx
    cases hb:(Nat.beq s (X.P.cellsOf e)&&Nat.blt 0 s) with
    |false=>rw[hb] at h;exact h.elim
    |true=>
     rw[hb] at h
     obtain⟨g1,g2⟩:=jZ hb
     have hse:=Nat.eq_of_beq_eq_true g1
     have g2:0<s:=by simpa[Nat.blt_eq] using g2
     simp only[cond_true] at h
     obtain⟨p,q,hk,⟨h1,h2⟩,hrun⟩:=Qv h
     refine⟨_,hk,fun β a w hr=> ?_⟩
     have he:=hr.ev x
     rw[hx] at he
     have h0:Nat.beq (X.P.cellsOf e) 0=false:=lQ (by omega)
     rcases he.uU.zF with⟨rfl,ax,cx,hv⟩|⟨b,off,cap,c,hv,hF,hcap,hm,hs,hc,hr'⟩
     ·have hb:=hrun β a w hr true cx (Nat.zero_le _)
      have hz:q.getD 0-p.getD 0=0:=by simp at h1 h2;omega
      refine⟨.slice (if cx=p.getD 0 then ax else ax.map (·.add (p.getD 0*s))) 0 (cx-p.getD 0),?_,?_⟩
      ·simp only[hv,Instr.sliceAt,Instr.slice,Sem.run_bind,run_underlying ht,Result.andThen_ok,Option.map_none,o7 h0,Sem.run_pure,←hse]
       simp only[List.length_nil] at hb
       simp only[hb,Result.andThen_ok,hz]
      ·have:gJ ([]:List (List D)) p q=[]:=by cases p<;>cases q<;>simp[gJ]
       rw[this]
       exact .ro _ _ (.slnil _ _ _)
     ·have hb:=hrun β a w hr true cap hcap
      refine⟨_,?_, .ro _ _ (RO.cut hF hcap hm hs hc hr' h1 h2)⟩
      simp only[hv,Instr.sliceAt,Instr.slice,Sem.run_bind,run_underlying ht,Result.andThen_ok,Option.map_none,o7 h0,Sem.run_pure,←hse,hb,Option.map_some,add_lit]
   ·rename_i o hx
    split at h
    ·rename_i e' s es ho
     cases hb:(Nat.beq s (X.P.cellsOf e)&&Nat.blt 0 s) with
     |false=>rw[hb] at h;exact h.elim
     |true=>
      rw[hb] at h
      obtain⟨g1,g2⟩:=jZ hb
      have hse:=Nat.eq_of_beq_eq_true g1
      have g2:0<s:=by simpa[Nat.blt_eq] using g2
      simp only[cond_true] at h
      obtain⟨p,q,hk,h1,h2,hrun⟩:=Qu h (Nat.le_refl _)
      refine⟨_,hk,fun β a w hr=> ?_⟩
      have he:=hr.ev x
      rw[hx] at he
      have h0:Nat.beq (X.P.cellsOf e) 0=false:=lQ (by omega)
      have hrow:=hr.row ho he.iM
      obtain⟨_,hs,xs,how,_,hro⟩:=hrow
      rcases how.2 with⟨hv,hn⟩|⟨g,cap,cur,hv,_,hg,hnc,hcm,hcs,htk⟩
      ·have hb:=hrun β a w hr 0 (by omega)
       have hp:p=0:=by omega
       have hq:q=0:=by omega
       subst hp hq
       refine⟨.slice none 0 0,?_, .hs _ _ _ _ _ _ he.iM ⟨none,0,0,none,hv,h1,by omega,Nat.le_refl _,rfl,fun _=>rfl⟩⟩
       rw[hn] at hb
       simp only[hv,Instr.sliceAt,Instr.slice,Sem.run_bind,run_underlying ht,Result.andThen_ok,Option.map_none,o7 h0,Sem.run_pure,←hse,hb]
       rfl
      ·have hb:=hrun β a w hr cap hnc
       refine⟨.slice (if cap=p then some ⟨g,0,none⟩ else(some (⟨g,0,none⟩:Addr)).map (·.add (p*s))) (q-p) (cap-p),?_, .hs _ _ _ _ _ _ he.iM ⟨_,_,_,_,hv,h1,Nat.le_trans h2 hnc,hnc,rfl,fun hlt=>by
        rcases Nat.eq_zero_or_pos p with h|h
        ·subst h;simp[Addr.add]
        ·exact if_neg (by omega)⟩⟩
       simp only[hv,Instr.sliceAt,Instr.slice,Sem.run_bind,run_underlying ht,Result.andThen_ok,Option.map_none,o7 h0,Sem.run_pure,←hse,hb]
    ·exact h.elim
   ·rename_i o s' a0 b0 hx
    have part: ∀ {s:Nat} {c:Nat},X.P.cellsOf e=s→0<s→b0≤c→s=s'→(∀β a w,Rel X st β a w→ ∀y,β o=some y→ ∃p len cap,y= .slice p len cap∧c≤cap)→
     wQ (lo.map st.ev) (hi.map st.ev) (b0-a0) (c-a0) (fun a b=>K (.hs o s (a0+a) (a0+b)))→ ∃d,K d∧Gives X st (fun ρ=>Instr.sliceAt t (ρ x) (lo.map ρ) (hi.map ρ) none) d:=by
     intro s c hse g2 hbc hss hcap h9
     subst hss
     obtain⟨p,q,hk,h1,h2,hrun⟩:=Qu h9 (by omega)
     refine⟨_,hk,fun β a w hr=> ?_⟩
     have he:=hr.ev x
     rw[hx] at he
     have h0:Nat.beq (X.P.cellsOf e) 0=false:=lQ (by omega)
     obtain⟨y,hy,pp,len,cap,qq,hyv,hab,aht,hlc,hv,hq⟩:=he.mO
     obtain⟨p',l',c',SC,hcc⟩:=hcap β a w hr y hy
     rw[hyv] at SC
     cases SC
     have hb:=hrun β a w hr (cap-a0) (by omega)
     by_cases ha0:a0≤c
     ·refine⟨.slice (if cap-a0=p then qq else qq.map (·.add (p*s))) (q-p) (cap-a0-p),?_, .hs _ _ _ _ _ _ hy ⟨pp,len,cap,_,hyv,by omega,by omega,hlc,by rw[Nat.add_sub_add_left,Nat.sub_sub],fun hlt=> ?_⟩⟩
      ·simp only[hv,Instr.sliceAt,Instr.slice,Sem.run_bind,run_underlying ht,Result.andThen_ok,o7 h0,Sem.run_pure,hse,hb]
      ·by_cases hz:a0+p=0
       ·have h1:a0=0:=by omega
        have h2:p=0:=by omega
        rw[hq (.inr h1),h1,h2]
        cases pp<;>simp[Addr.add]
       rw[if_neg (by omega),hq (by omega)]
       cases pp with
       |none=>rfl
       |some ad=>
        simp only[Option.map_some,Addr.add,Nat.add_mul]
        by_cases e1:a0*s=0<;>by_cases e2:p*s=0<;>simp[e1,e2,Nat.add_assoc]
     ·exfalso;omega
    split at h
    ·rename_i e' s es ho
     cases hb:(Nat.beq s s'&&Nat.beq s (X.P.cellsOf e)&&Nat.blt 0 s) with
     |false=>rw[hb] at h;exact h.elim
     |true=>
      rw[hb] at h
      obtain⟨k4,h⟩:=fF.out h
      simp only[Bool.and_eq_true] at hb
      obtain⟨⟨k1,k2⟩,k3⟩:=hb
      refine part (Nat.eq_of_beq_eq_true k2).symm (by simpa[Nat.blt_eq] using k3) k4 (Nat.eq_of_beq_eq_true k1) (fun β a w hr y hy=> ?_) h
      obtain⟨_,hs,xs,how,_,hro⟩:=hr.row ho hy
      rcases how.2 with⟨hv,hn⟩|⟨g,cap,cur,hv,_,hg,hnc,_⟩
      ·exact⟨_,_,_,hv,by omega⟩
      ·exact⟨_,_,_,hv,hnc⟩
    ·rename_i e' s cs c ho
     cases hb:(Nat.beq s s'&&Nat.beq s (X.P.cellsOf e)&&Nat.blt 0 s) with
     |false=>rw[hb] at h;exact h.elim
     |true=>
      rw[hb] at h
      obtain⟨k4,h⟩:=fF.out h
      simp only[Bool.and_eq_true] at hb
      obtain⟨⟨k1,k2⟩,k3⟩:=hb
      refine part (Nat.eq_of_beq_eq_true k2).symm (by simpa[Nat.blt_eq] using k3) k4 (Nat.eq_of_beq_eq_true k1) (fun β a w hr y hy=> ?_) h
      obtain⟨g,cur,hv,_⟩:=hr.A8 ho hy
      exact⟨_,_,_,hv,Nat.le_refl _⟩
    ·exact h.elim
   ·exact h.elim
  ·exact h.elim
end
end Go.Eng
namespace Go.Eng
open Go Go.RowKit
theorem rM{α:Type} : ∀(l:List α) (k:Nat) (ds:List α),k+ds.length≤l.length→
 (gQ l k ds).length=l.length∧ ∀i,(gQ l k ds)[i]? =if k≤i∧i<k+ds.length then ds[i-k]? else l[i]?
 |l,0,[],_=>by
  have:gQ l 0 ([]:List α)=l:=by cases l<;>rfl
  rw[this]
  refine⟨rfl,fun i=> ?_⟩
  rw[if_neg (by simp)]
 |[],0,_::_,h=>by simp at h
 |c::r,0,d::ds,h=>by
  obtain⟨h1,h2⟩:=rM r 0 ds (by simp at h⊢;omega)
  refine⟨by simp[gQ,h1],fun i=> ?_⟩
  cases i with
  |zero=>simp[gQ]
  |succ i=>
   have:=h2 i
   simp only[gQ,List.getElem?_cons_succ,List.length_cons,Nat.zero_add,Nat.zero_le,true_and,Nat.sub_zero] at this⊢
   rw[this]
   by_cases hi:i<ds.length
   ·rw[if_pos hi,if_pos (by omega)]
   ·rw[if_neg hi,if_neg (by omega)]
 |[],k+1,ds,h=>by simp at h
 |c::r,k+1,ds,h=>by
  obtain⟨h1,h2⟩:=rM r k ds (by simp at h⊢;omega)
  have e:gQ (c::r) (k+1) ds=c::gQ r k ds:=by cases ds<;>rfl
  rw[e]
  refine⟨by simp[h1],fun i=> ?_⟩
  cases i with
  |zero=>simp
  |succ i=>
   rw[List.getElem?_cons_succ,h2 i,List.getElem?_cons_succ]
   by_cases hi:k≤i∧i<k+ds.length
   ·rw[if_pos hi,if_pos (by omega)];congr 1;omega
   ·rw[if_neg hi,if_neg (by omega)]
theorem foldl_set(off:Nat): ∀(vs:List Value) (n:Nat) (c:Array Value),off+n+vs.length≤c.size→
 ((vs.zipIdx n).foldl (fun cs p=>cs.setIfInBounds (off+p.2) p.1) c).toList=gQ c.toList (off+n) vs
 |[],n,c,_=>by
  apply List.ext_getElem?
  intro i
  by_cases h:off+n≤c.toList.length
  ·rw[(rM c.toList (off+n) [] (by simpa using h)).2 i,if_neg (by simp only[List.length_nil];omega)]
   simp
  ·simp at h;omega
 |v::vs,n,c,h=>by
  simp only[List.zipIdx_cons,List.foldl_cons]
  have hl:off+(n+1)+vs.length≤(c.setIfInBounds (off+n) v).size:=by simp at h⊢;omega
  rw[foldl_set off vs (n+1) _ hl]
  have h2:off+n+(v::vs).length≤c.toList.length:=by simp at h⊢;omega
  have h3:off+(n+1)+vs.length≤(c.setIfInBounds (off+n) v).toList.length:=by simp at h⊢;omega
  apply List.ext_getElem?
  intro i
  rw[(rM _ _ _ h2).2 i,(rM _ _ _ h3).2 i]
  simp only[Array.toList_setIfInBounds,List.length_cons]
  by_cases h4:off+(n+1)≤i∧i<off+(n+1)+vs.length
  ·rw[if_pos h4,if_pos (by omega)]
   have:i-(off+n)=(i-(off+(n+1)))+1:=by omega
   rw[this,List.getElem?_cons_succ]
  ·rw[if_neg h4]
   by_cases h5:i=off+n
   ·subst h5
    have:off+n<c.toList.length:=by simp at h2⊢;omega
    rw[if_pos (by omega),List.getElem?_set_self this]
    simp
   ·rw[if_neg (by omega),List.getElem?_set_ne (by omega)]
section
variable {X:Ctx} {st:St}
def jK(F:Nat→Prop)(β:Nat→Option Value)(w:World)(vs:List Value)(ds:List D):Prop:=
 vs.length=ds.length∧(∀u∈vs,u.oneCell'=true)∧ ∀j,j<ds.length→Rep F β w (vs.getD j undef) (ds.getD j .junk)
theorem jK.gQ{F:Nat→Prop}{β:Nat→Option Value}{w:World}{vs us:List Value}{ds es:List D}{k:Nat}(h:jK F β w vs ds)(g:jK F β w us es)(hk:k+es.length≤ds.length):
 jK F β w (Eng.gQ vs k us) (Eng.gQ ds k es):=by
 obtain⟨h1,h2,h3⟩:=h
 obtain⟨g1,g2,g3⟩:=g
 have hv:=rM vs k us (by omega)
 have hd:=rM ds k es hk
 refine⟨by rw[hv.1,hd.1,h1],fun u hu=> ?_,fun j hj=> ?_⟩
 ·obtain⟨i,hi⟩:=List.mem_iff_getElem?.1 hu
  rw[hv.2 i] at hi
  split at hi
  ·exact g2 u (List.mem_iff_getElem?.2 ⟨_,hi⟩)
  ·exact h2 u (List.mem_iff_getElem?.2 ⟨_,hi⟩)
 ·rw[hd.1] at hj
  rw[List.getD_eq_getElem?_getD,List.getD_eq_getElem?_getD,hv.2 j,hd.2 j,g1]
  by_cases hc:k≤j∧j<k+es.length
  ·rw[if_pos hc,if_pos hc,←List.getD_eq_getElem?_getD,←List.getD_eq_getElem?_getD]
   exact g3 _ (by omega)
  ·rw[if_neg hc,if_neg hc,←List.getD_eq_getElem?_getD,←List.getD_eq_getElem?_getD]
   exact h3 j hj
theorem Rel.Dj{β:Nat→Option Value}{a:Act}{w:World}(h:Rel X st β a w){v:Value}{d:D}(hd:tN d=true)(hv:Rep (FX X st β w) β w v d):
 jK (FX X st β w) β w v.cells.toList d.cells:=by
 obtain⟨h1,h2,h3⟩:=h.cells hd hv
 exact⟨by simpa using h1,h2,h3⟩
theorem JF(place:Nat→Option (Nat×Nat)): ∀(ps:List (Nat×Operand)) (cells:List D) (K:List D→Prop),Dv place cells (ps.map fun p=>(p.1,st.ev p.2)) K→
 ∃cs,K cs∧ ∀β a w,Rel X st β a w→ ∀vc:Array Value,jK (FX X st β w) β w vc.toList cells→
  ∃uo,Instr.fill place vc (ps.map fun p=>(p.1,a.eval p.2))=some uo∧jK (FX X st β w) β w uo.toList cs
 |[],cells,K,h=>⟨cells,h,fun β a w _ vc hc=>⟨vc,rfl,hc⟩⟩
 |(i,x)::ps,cells,K,h=>by
  simp only[List.map_cons,Dv] at h
  cases hp:place i with
  |none=>rw[hp] at h;exact h.elim
  |some os=>
   obtain⟨off,size⟩:=os
   rw[hp] at h
   simp only at h
   cases hb:(Nat.beq (st.ev x).cells.length size&&Nat.ble (off+size) cells.length&&tN (st.ev x)) with
   |false=>rw[hb] at h;exact h.elim
   |true=>
    rw[hb] at h
    simp only[Bool.and_eq_true] at hb
    obtain⟨⟨h1,h2⟩,h3⟩:=hb
    have h1:=Nat.eq_of_beq_eq_true h1
    have h2:off+size≤cells.length:=by simpa using h2
    obtain⟨cs,hk,hcs⟩:=JF place ps _ K h
    refine⟨cs,hk,fun β a w hr vc hc=> ?_⟩
    have hx:=hr.Dj h3 (hr.ev x)
    have hsz:(a.eval x).cells.size=size:=by have:=hx.1;simp at this;omega
    have hvc:vc.size=cells.length:=by have:=hc.1;simpa using this
    have hset:(((a.eval x).cells.zipIdx.foldl (fun cs p=>cs.setIfInBounds (off+p.2) p.1) vc)).toList=gQ vc.toList off (a.eval x).cells.toList:=by
     have:=foldl_set off (a.eval x).cells.toList 0 vc (by simp;omega)
     rw[Nat.add_zero] at this
     rw[←this]
     congr 1
     rw[←Array.foldl_toList]
     simp
    obtain⟨uo,hf,hr'⟩:=hcs β a w hr _ (by rw[hset];exact hc.gQ hx (by omega))
    refine⟨uo,?_,hr'⟩
    simp only[List.map_cons,Instr.fill,hp]
    rw[if_neg (by simp;omega)]
    exact hf
theorem xM{F:Nat→Prop}{β:Nat→Option Value}{w:World}{z:Value}(h:Aq z=true):jK F β w z.cells.toList (fQ z).cells:=by
 by_cases hz: ∃cs,z= .agg cs
 ·obtain⟨cs,rfl⟩:=hz
  simp only[Aq] at h
  have e:fQ (.agg cs)= .agg (cs.toList.map rC):=by simp only[fQ,h,cond_true]
  rw[e]
  refine⟨by simp[Value.cells,D.cells],fun u hu=>List.all_eq_true.1 h u hu,fun j hj=> ?_⟩
  have hj':j<cs.size:=by simpa[D.cells] using hj
  simp only[Value.cells,D.cells,List.getD_eq_getElem?_getD,List.getElem?_map]
  simp[hj']
  exact .ro _ _ (RO.rC _ _ _)
 ·have h1:z.cells= #[z]:=by cases z<;>simp_all[Value.cells]
  have h2:fQ z=rC z:=by cases z<;>simp_all[fQ]
  have h3:(fQ z).cells=[fQ z]:=by
   rw[h2]
   cases z with
   |string s=>simp only[rC];cases Nat.ble s.data.toList.length 9223372036854775807<;>rfl
   |agg cs=>exact absurd ⟨cs,rfl⟩ hz
   |_=>rfl
  have h4:z.oneCell'=true:=by cases z<;>simp_all[Aq]
  rw[h1,h3]
  refine⟨rfl,by simpa using h4,fun j hj=> ?_⟩
  have:j=0:=by simpa using hj
  subst this
  exact .ro _ _ (RO.fQ _ _ _)
theorem yC{P:Program}{t:TypeId}{K:List D→Prop}(h:uX P t K): ∃z i,P.info? t=some i∧i.zero=some z∧Aq z=true∧K (fQ z).cells∧ ∀w:World,(zeroValue t).run P w= .ok z w:=by
 unfold uX at h
 split at h
 ·rename_i i hi
  split at h
  ·rename_i z hz
   cases hf:Aq z with
   |false=>rw[hf] at h;exact h.elim
   |true=>
    rw[hf] at h
    exact⟨z,i,hi,hz,hf,h,fun w=>by simp[zeroValue,typeInfo,hi,hz]⟩
  ·exact h.elim
 ·exact h.elim
theorem VQ{α β:Type}{P:Program}{w:World}(f:α→Sem β)(g:α→β): ∀(l:List α),(∀x∈l,(f x).run P w= .ok (g x) w)→(l.mapM f).run P w= .ok (l.map g) w
 |[],_=>by simp
 |x::r,h=>by
  have h1:=h x (by simp)
  have h2:=VQ f g r (fun y hy=>h y (by simp[hy]))
  simp[List.mapM_cons,h1,h2]
theorem run_places{P:Program}{w:World}{fields:Array Field}(h:fields.toList.all (fun f=>(P.info? f.type).isSome)=true):
 ∃places:Array (Nat×Nat),(fields.mapM fun f=>do pure (f.offset,←sizeOf f.type):Sem (Array (Nat×Nat))).run P w= .ok places w∧(fun i=>places[i]?)=Eh P fields:=by
 refine⟨(fields.toList.map fun f=>(f.offset,P.cellsOf f.type)).toArray,?_,?_⟩
 ·have:=VQ (P:=P) (w:=w) (fun f:Field=>(do pure (f.offset,←sizeOf f.type):Sem (Nat×Nat))) (fun f=>(f.offset,P.cellsOf f.type)) fields.toList (fun f hf=>by
   have hs:=List.all_eq_true.1 h f hf
   obtain⟨i,hi⟩:=Option.isSome_iff_exists.1 hs
   simp[sizeOf,typeInfo,hi,Program.cellsOf])
  rw[Array.mapM_eq_mapM_toList,Sem.run_map,this]
  rfl
 ·funext i
  simp only[Eh]
  cases hi:fields[i]? <;>simp[hi]
theorem Yc{K:D→Prop}{t:TypeId}{parts:Array (Nat×Operand)}(h:Iz X.P t (parts.toList.map fun p=>(p.1,st.ev p.2)) K):
 ∃d,K d∧Gives X st (fun ρ=>Instr.build t (parts.map fun(i,x)=>(i,ρ x))) d:=by
 unfold Iz at h
 obtain⟨z,i,hi,hz,hf,hk,lW⟩:=yC h
 clear h
 have hmap: ∀ρ:Operand→Value,(parts.map fun(i,x)=>(i,ρ x)).toList=parts.toList.map fun p=>(p.1,ρ p.2):=by intro ρ;simp
 split at hk
 ·rename_i fields ht
  cases hb:fields.toList.all (fun f=>(X.P.info? f.type).isSome) with
  |false=>rw[hb] at hk;exact hk.elim
  |true=>
   rw[hb] at hk
   obtain⟨cs,hk,hcs⟩:=JF (X:=X) (Eh X.P fields) parts.toList _ _ hk
   refine⟨_,hk,fun β a w hr=> ?_⟩
   obtain⟨vc,vK,hrep⟩:=hcs β a w hr z.cells (xM hf)
   obtain⟨places,hp,hpl⟩:=run_places (P:=X.P) (w:=w) hb
   refine⟨.agg vc,?_,?_⟩
   ·simp only[Instr.build,Sem.run_bind,lW,Result.andThen_ok,run_underlying ht,hp]
    have hpl':(fun x=>places[x]?)=Eh X.P fields:=hpl
    rw[hpl',hmap,vK]
    rfl
   ·have:=Rep.agg (F:=FX X st β w) (β:=β) (w:=w) vc.toList cs hrep.1 hrep.2.1 hrep.2.2
    simpa using this
 ·rename_i n e ht
  split at hk
  ·rename_i ie hie
   obtain⟨cs,hk,hcs⟩:=JF (X:=X) (fun i=>some (i*X.P.cellsOf e,X.P.cellsOf e)) parts.toList _ _ hk
   refine⟨_,hk,fun β a w hr=> ?_⟩
   obtain⟨vc,vK,hrep⟩:=hcs β a w hr z.cells (xM hf)
   refine⟨.agg vc,?_,?_⟩
   ·have hsz:(sizeOf e).run X.P w= .ok (X.P.cellsOf e) w:=by simp[sizeOf,typeInfo,hie,Program.cellsOf]
    simp only[Instr.build,Sem.run_bind,lW,Result.andThen_ok,run_underlying ht,hsz]
    rw[hmap,vK]
    rfl
   ·have:=Rep.agg (F:=FX X st β w) (β:=β) (w:=w) vc.toList cs hrep.1 hrep.2.1 hrep.2.2
    simpa using this
  ·exact hk.elim
 ·exact hk.elim
theorem run_len_string{P:Program}{t ty:TypeId}(ht:P.underlying t=some .string)(s:ByteArray)(w:World):(Builtin.len_ #[t] ty #[.string s]).run P w= .ok (.int .i64 s.size) w:=by
 unfold Builtin.len_
 simp[run_underlying ht,goInt,-ByteArray.size_data]
theorem run_len_slice{P:Program}{t ty e:TypeId}(ht:P.underlying t=some (.slice e))(a:Option Addr)(n c:Nat)(w:World):(Builtin.len_ #[t] ty #[.slice a n c]).run P w= .ok (.int .i64 n) w:=by
 unfold Builtin.len_
 simp[run_underlying ht,goInt]
theorem agx{P:Program}{t ty e:TypeId}{n:Nat}(ht:P.underlying t=some (.array n e))(x:Value)(w:World):(Builtin.len_ #[t] ty #[x]).run P w= .ok (.int .i64 n) w:=by
 unfold Builtin.len_
 cases x<;>simp[run_underlying ht,goInt]
theorem aeG{K:D→Prop}{t:TypeId}{x:Operand}{β0:Nat→Option Value}{a0:Act}{w0:World}(hr0:Rel X st β0 a0 w0)(h:lenD X.P st t (st.ev x) K):
 ∃d,K d∧ ∀ty,Gives X st (fun ρ=>Builtin.len_ #[t] ty #[ρ x]) d:=by
 unfold lenD at h
 have he0:=hr0.ev x
 split at h
 ·rename_i ht
  split at h
  ·rename_i l hx
   rw[hx] at he0
   refine⟨_,dD.out h he0.BI,fun ty β a w hr=>⟨_,?_, .ro _ _ (.int _ _)⟩⟩
   have he:=hr.ev x
   rw[hx] at he
   have hsz:(⟨l.toArray⟩:ByteArray).size=l.length:=by simp[ByteArray.size]
   simp only[he.nC]
   rw[run_len_string ht,hsz]
  ·exact h.elim
 ·rename_i e ht
  split at h
  ·rename_i s es hx
   rw[hx] at he0
   refine⟨_,dD.out h (Wq he0.uU).1,fun ty β a w hr=>⟨_,?_, .ro _ _ (.int _ _)⟩⟩
   have he:=hr.ev x
   rw[hx] at he
   rcases he.uU.zF with⟨rfl,ax,cx,hv⟩|⟨b,off,cap,c,hv,_⟩
   ·simp only[hv];rw[run_len_slice ht];rfl
   ·simp only[hv];rw[run_len_slice ht]
  ·rename_i o hx
   split at h
   ·rename_i e' s es ho
    rw[hx] at he0
    refine⟨_,dD.out h (Bz (hr0.row ho he0.iM)).1,fun ty β a w hr=>⟨_,?_, .ro _ _ (.int _ _)⟩⟩
    have he:=hr.ev x
    rw[hx] at he
    obtain⟨_,ax,cx,hv⟩:=Bz (hr.row ho he.iM)
    simp only[hv];rw[run_len_slice ht]
   ·rename_i e' s es ho
    rw[hx] at he0
    refine⟨_,dD.out h (Em (hr0.Ba ho he0.iM)).1,fun ty β a w hr=>⟨_,?_, .ro _ _ (.int _ _)⟩⟩
    have he:=hr.ev x
    rw[hx] at he
    obtain⟨_,ax,cx,hv⟩:=Em (hr.Ba ho he.iM)
    simp only[hv];rw[run_len_slice ht]
   ·exact h.elim
  ·rename_i o s a' b' hx
   rw[hx] at he0
   have hm:b'-a'≤maxLen:=by
    obtain⟨y,hy,p,len,cap,q,hyv,_,hbl,_,_,_⟩:=he0.mO
    obtain⟨z,hz,qW⟩:=hr0.own o (hr0.dom o y hy).1 (hr0.dom o y hy).2
    rw[hy] at hz
    cases hz
    have hl:cap≤maxLen:=by
     cases hob:st.obj o with
     |dead=>have:=(hr0.dom o y hy).2;rw[hob] at this;exact this.elim
     |row e2 s2 es2=>
      rw[hob] at qW
      obtain⟨_,_,xs,how,_⟩:=qW
      rcases how.2 with⟨hv,hn⟩|⟨g,cap',cur,hv,_,hg,hnc,hcm,_⟩
      ·rw[hyv] at hv
       cases hv
       exact Nat.zero_le _
      ·rw[hyv] at hv
       cases hv
       exact hcm
     |box cs=>rw[hob] at qW;obtain⟨_,_,_,h1,_⟩:=qW;rw[hyv] at h1;cases h1
     |frame vs e=>rw[hob] at qW;have h1:=qW.1;rw[hyv] at h1;cases h1
     |blk e2 s2 cs2 c2=>
      rw[hob] at qW
      obtain⟨g2,aco,hv,_,_,hm2,_⟩:=qW
      rw[hyv] at hv
      cases hv
      exact hm2
     |raw e2 s2 es2=>
      rw[hob] at qW
      obtain⟨g2,cap2,aco,m2,hv,_,_,⟨_,hm2⟩,_⟩:=qW
      rw[hyv] at hv
      cases hv
      exact hm2
     |map P2 k2 e2 n2 f2=>
      rw[hob] at qW
      obtain⟨_,b2,m2,D2,hv,_⟩:=qW
      rw[hyv] at hv
      cases hv
    omega
   refine⟨_,dD.out h hm,fun ty β a w hr=>⟨_,?_, .ro _ _ (.int _ _)⟩⟩
   have he:=hr.ev x
   rw[hx] at he
   obtain⟨y,hy,p,len,cap,q,hyv,_,hbl,_,hv,_⟩:=he.mO
   simp only[hv];rw[run_len_slice ht]
  ·rename_i hx
   refine⟨_,h,fun ty β a w hr=>⟨_,?_, .ro _ _ (.int _ _)⟩⟩
   have he:=hr.ev x
   rw[hx] at he
   simp only[he.kZ];rw[run_len_slice ht];rfl
  ·exact h.elim
 ·rename_i n e ht
  exact⟨_,h,fun ty β a w hr=>⟨_,agx ht _ _, .ro _ _ (.int _ _)⟩⟩
 ·exact h.elim
theorem Ul{K:D→Prop}{mx:Bool}{args:List Operand}(h:DX mx (args.map st.ev) K):
 ∃d,K d∧ ∀ts ty,Gives X st (fun ρ=>if mx then Builtin.max_ ts ty (args.map ρ).toArray else Builtin.min_ ts ty (args.map ρ).toArray) d:=by
 match args with
 |[]=>exact h.elim
 |[_]=>simp only[List.map_cons,List.map_nil] at h;cases hx:st.ev ‹_›<;>rw[hx] at h<;>exact h.elim
 |[x,y]=>
  simp only[List.map_cons,List.map_nil] at h
  cases hx:st.ev x<;>cases hy:st.ev y<;>simp only[hx,hy,DX] at h
  rename_i k p k' q
  refine⟨_,h,fun ts ty β a w hr=>⟨_,?_, .ro _ _ (.int _ _)⟩⟩
  have he:=hr.ev x
  rw[hx] at he
  have he':=hr.ev y
  rw[hy] at he'
  cases mx
  ·simp[Builtin.min_,Builtin.min2,he.eU,he'.eU]
  ·simp[Builtin.max_,Builtin.max2,he.eU,he'.eU]
 |x::y::z::r=>
  simp only[List.map_cons] at h
  cases hx:st.ev x<;>cases hy:st.ev y<;>simp only[hx,hy,DX] at h
theorem qV{o:Oper}{d:D}{s:(Operand→Value)→Sem Value}(hs: ∀ρ,execOp ρ o=(do pure (.value (←s ρ))))(h:Gives X st s d):Yields X o st d:=by
 intro β a w hr
 obtain⟨v,hv,hrep⟩:=h β a w hr
 exact⟨v,by rw[hs];simp[hv],hrep⟩
theorem U7{o:Oper}{K:D→Prop}{β0:Nat→Option Value}{a0:Act}{w0:World}(hr0:Rel X st β0 a0 w0)(h:Gq X.P o st K): ∃d,K d∧Yields X o st d:=by
 obtain⟨dst,op,type,pos,after,guard⟩:=o
 unfold Gq at h
 cases op<;>simp only at h<;>try(exact h.elim)
 case move x=>exact⟨_,h,fun β a w hr=>⟨_,rfl,hr.ev x⟩⟩
 case assign x=>exact⟨_,h,fun β a w hr=>⟨_,rfl,hr.ev x⟩⟩
 case pick c x y=>
  obtain⟨d,hk,hd⟩:=afO (X:=X) h
  refine⟨d,hk,fun β a w hr=> ?_⟩
  obtain⟨v,hv,hrep⟩:=hd β a w hr
  refine⟨v,?_,hrep⟩
  simp only[execOp]
  simp only[Sem.run_bind] at hv⊢
  cases hb:(asBool (a.eval c)).run X.P w with
  |ok b w'=>rw[hb] at hv;simp only[Result.andThen_ok,Sem.run_pure,Result.ok.injEq] at hv⊢;exact⟨congrArg Next.value hv.1,hv.2⟩
  |halt x w'=>rw[hb] at hv;simp only[Result.andThen_halt] at hv;cases hv
 case load t x=>
  obtain⟨d,hk,hd⟩:=U6 h
  exact⟨d,hk,qV (s:=fun ρ=>Instr.loadAt t (ρ x)) (fun ρ=>rfl) hd⟩
 case nilCheck x=>
  obtain⟨d,hk,hd⟩:=ae6 (X:=X) h
  refine⟨d,hk,fun β a w hr=> ?_⟩
  obtain⟨hm,hrep⟩:=hd β a w hr
  refine⟨_,?_,hrep⟩
  simp only[execOp]
  split at hm<;>simp_all
 case binOp op t x y yt=>
  split at h
  ·rename_i r hq
   refine⟨_,h,qV (s:=fun ρ=>do eqGuard op t x y (ρ x) (ρ y);binOp op t (ρ x) (ρ y)) (fun ρ=>rfl) (fun β a w hr=> ?_)⟩
   refine⟨_,?_, .ro _ _ (.bool _)⟩
   have hx:=hr.ev x
   have hy:=hr.ev y
   unfold SH at hq
   have fin: ∀(c:Bool) (z:Bool),(bif c then some z else none)=some r→c=true∧z=r:=by
    intro c z e
    cases c with
    |false=>cases e
    |true=>exact⟨rfl,Option.some.inj e⟩
   split at hq
   ·split at hq
    ·rename_i hd
     rw[hd] at hx
     show(do eqGuard op t x (.const .nilIface) (a.eval x) .nilIface;binOp op t (a.eval x) .nilIface).run X.P w=_
     rw[hx.kZ]
     split at hq
     ·obtain⟨h1,rfl⟩:=fin _ _ hq
      rw[eqGuard_nil_constR,Sem.run_bind,Sem.run_pure]
      exact run_eql_nil_nil_at w t h1
     ·obtain⟨h1,rfl⟩:=fin _ _ hq
      rw[eqGuard_nil_constR,Sem.run_bind,Sem.run_pure]
      exact run_neq_nil_nil_at w t h1
     ·cases hq
    ·rename_i u v hd
     rw[hd] at hx
     have hg:eqGuard op t x (.const .nilIface) (.iface u v) .nilIface=pure ():=by cases op<;>rfl
     show(do eqGuard op t x (.const .nilIface) (a.eval x) .nilIface;binOp op t (a.eval x) .nilIface).run X.P w=_
     rw[hx.kZ]
     split at hq
     ·obtain⟨h1,rfl⟩:=fin _ _ hq
      rw[hg,Sem.run_bind,Sem.run_pure]
      exact run_eql_iface_nil w t h1 u v
     ·obtain⟨h1,rfl⟩:=fin _ _ hq
      rw[hg,Sem.run_bind,Sem.run_pure]
      exact run_neq_iface_nil w t h1 u v
     ·cases hq
    ·cases hq
   ·cases hq
  obtain⟨d,hk,hd⟩:=X4 (x:=x) (y:=y) h
  exact⟨d,hk,qV (s:=fun ρ=>do eqGuard op t x y (ρ x) (ρ y);binOp op t (ρ x) (ρ y)) (fun ρ=>rfl) (fun β a w hr=>hd w _ β _ _ (hr.ev x) (hr.ev y))⟩
 case unOp op t x=>
  obtain⟨d,hk,hd⟩:=ag2 (X:=X) h
  exact⟨d,hk,qV (s:=fun ρ=>Op.unary op (ρ x)) (fun ρ=>rfl) hd⟩
 case convert s t x=>
  obtain⟨d,hk,hd⟩:=ace h
  exact⟨d,hk,qV (s:=fun ρ=>convert s t (ρ x)) (fun ρ=>rfl) hd⟩
 case fieldAddr s x f=>
  obtain⟨d,hk,hd⟩:=ac5 h
  exact⟨d,hk,qV (s:=fun ρ=>Instr.fieldAt s (ρ x) f) (fun ρ=>rfl) hd⟩
 case field t x f=>
  obtain⟨d,hk,hd⟩:=ac6 h
  exact⟨d,hk,qV (s:=fun ρ=>Instr.field t (ρ x) f) (fun ρ=>rfl) hd⟩
 case indexAddr t x i=>
  obtain⟨d,hk,hd⟩:=aeb h
  exact⟨d,hk,qV (s:=fun ρ=>Instr.indexAt t (ρ x) (ρ i)) (fun ρ=>rfl) hd⟩
 case index t x i=>
  obtain⟨d,hk,hd⟩:=aec h
  exact⟨d,hk,qV (s:=fun ρ=>Instr.index t (ρ x) (ρ i)) (fun ρ=>rfl) hd⟩
 case lookup t m x ok=>
  cases ok with
  |true=>exact h.elim
  |false=>
   have h:Ld X.P st t (st.ev m) (st.ev x) K:=h
   unfold Ld at h
   split at h
   ·rename_i o hm
    split at h
    ·rename_i P' k e n f ho
     split at h
     ·rename_i l hx
      obtain⟨⟨rfl,ht⟩,hk⟩:=bZ.out h
      refine⟨_,hk,qV (s:=fun ρ=>Instr.lookup t (ρ m) (ρ x) false) (fun ρ=>rfl) fun β a w hr=> ?_⟩
      have hem:=hr.ev m
      rw[hm] at hem
      have hex:=hr.ev x
      rw[hx] at hex
      obtain⟨hok,b,mm,D,hv,_,hown,_,hat⟩:=hr.UR ho hem.iM
      have hlen:(⟨l.toArray⟩:ByteArray).size≤maxLen:=by
       have:=hex.BI
       simpa[ByteArray.size] using this
      obtain⟨c,hrun,hc,hwc⟩:=hown.lookup_int hok.keyed ht hok.int (hok.zero w) (Go.WideMaps.keyOf_string_mk hok.str hlen)
      have e1:f l=c:=by
       have h2:=hat l
       have h3:((⟨l.toArray⟩:ByteArray).data.toList)=l:=by simp
       rw[h3] at hc
       rw[hc] at h2
       injection h2 with h4
       injection h4 with h5 h6
       exact h6.symm
      refine⟨.int .i64 c,?_,by rw[e1];exact .ro _ _ (.int _ _)⟩
      show(Instr.lookup t (a.eval m) (a.eval x) false).run X.P w=_
      rw[hv,hex.nC]
      exact hrun
     ·exact h.elim
    ·exact h.elim
   ·exact h.elim
 case slice t x lo hi mx=>
  have hne:(∀n e,X.P.underlying t≠some (.array n e))∧GR X.P st t (st.ev x) (lo.map st.ev) (hi.map st.ev) (mx.map st.ev) K:=by
   split at h
   ·exact h.elim
   ·rename_i hne;exact⟨fun n e he=>hne n e he,h⟩
  obtain⟨d,hk,hd⟩:=agI hne.1 hne.2
  exact⟨d,hk,qV (s:=fun ρ=>Instr.sliceAt t (ρ x) (lo.map ρ) (hi.map ρ) (mx.map ρ)) (fun ρ=>rfl) hd⟩
 case build t parts=>
  obtain⟨d,hk,hd⟩:=Yc h
  exact⟨d,hk,qV (s:=fun ρ=>Instr.build t (parts.map fun(i,x)=>(i,ρ x))) (fun ρ=>rfl) hd⟩
 case extract x i=>
  split at h
  ·rename_i ds hx
   obtain⟨hl,hk⟩:=Ec h
   refine⟨_,hk,fun β a w hr=> ?_⟩
   have he:=hr.ev x
   rw[hx] at he
   obtain⟨cs,hv,hlen,hrep⟩:=he.pz
   refine⟨_,?_,hrep i hl⟩
   simp only[execOp,hv,Instr.extract,Rx (cs:=cs) (i:=i) (by omega)]
   rfl
  ·exact h.elim
 case makeFunc fn first captured=>
  split at h
  ·rename_i hf
   have hf':first= #[]:=by cases first;simp_all
   refine⟨_,h,fun β a w hr=> ?_⟩
   refine⟨.func fn #[] (captured.toList.map a.eval).toArray,?_, .clo _ _ _ (by simp) (fun i hi=> ?_)⟩
   ·simp[execOp,Instr.makeFunc,hf']
    cases captured;simp
   ·have hi':i<captured.toList.length:=by simpa using hi
    simp only[List.getD_eq_getElem?_getD,List.getElem?_map,List.getElem?_eq_getElem hi',Option.map_some,Option.getD_some]
    exact hr.ev _
  ·exact h.elim
 case call c=>
  obtain⟨callee,args,argTypes⟩:=c
  cases callee with
  |value f=>exact h.elim
  |invoke r m=>exact h.elim
  |builtin b=>
   simp only at h
   obtain⟨args⟩:=args
   obtain⟨argTypes⟩:=argTypes
   unfold Ou at h
   split at h
   ·rename_i b' a' ts' x t hargs hts
    match args,hargs with
    |[y],hargs=>
     simp only[List.map_cons,List.map_nil,List.cons.injEq,and_true] at hargs
     have hts:argTypes=[t]:=hts
     subst hts
     rw[←hargs] at h
     obtain⟨d,hk,hd⟩:=aeG hr0 h
     refine⟨d,hk,fun β a w hr=> ?_⟩
     obtain⟨v,hv,hrep⟩:=hd type β a w hr
     refine⟨v,?_,hrep⟩
     simp only[execOp,resolve,invoke,builtin,Sem.run_bind,Sem.run_pure,Result.andThen_ok,List.map_toArray,List.map_cons,List.map_nil,hv]
   ·obtain⟨d,hk,hd⟩:=Ul (X:=X) h
    refine⟨d,hk,fun β a w hr=> ?_⟩
    obtain⟨v,hv,hrep⟩:=hd argTypes.toArray type β a w hr
    refine⟨v,?_,hrep⟩
    simp only[Bool.false_eq_true,if_false] at hv
    simp only[execOp,resolve,invoke,builtin,Sem.run_bind,Sem.run_pure,Result.andThen_ok,List.map_toArray,hv]
   ·obtain⟨d,hk,hd⟩:=Ul (X:=X) h
    refine⟨d,hk,fun β a w hr=> ?_⟩
    obtain⟨v,hv,hrep⟩:=hd argTypes.toArray type β a w hr
    refine⟨v,?_,hrep⟩
    simp only[if_true] at hv
    simp only[execOp,resolve,invoke,builtin,Sem.run_bind,Sem.run_pure,Result.andThen_ok,List.map_toArray,hv]
   ·exact h.elim
end
end Go.Eng
