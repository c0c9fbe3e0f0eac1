/-
  The program's DeskReport returns what the reference's returns, for all arguments.
  No conditions.
-/
import Derived.Test.YtocoppijdodffaaGreatDoorDRP
import Derived.Test.YtocoppijdodffaaGreatDoorHMD
import Derived.Test.YtocoppijdodffaaGreatDoorDK1
import Derived.Test.YtocoppijdodffaaGreatDoorHO
import Derived.Test.YtocoppijdodffaaGreatDoorCards
import Derived.Test.YtocoppijdodffaaGreatDoorTie
import Derived.ShutString
import Derived.ChangeOld
import Derived.LaidMore
import Derived.Lay
import Derived.LaidHandle
import Derived.MakeChecks
import Derived.OpenVars
set_option linter.unusedVariables false
set_option linter.unusedSimpArgs false
set_option maxHeartbeats 4000000
namespace Go.Eng
open Go Go.RowKit Go.Proofs
set_option maxRecDepth 100000
set_option maxHeartbeats 40000000 in
theorem Ye(a:fG)(_:UG a):ak Tryz.prog 3 GA 0 [] [.agg (jv a)] (fun d os=>d= .bool true∧os=[]):=by
 have hlen:=TK a
 have hlen2:=TL a.bJ
 cases hv:pU a with
 |false=>
  refine aF Tryz.func3 rfl aB rfl (fun w0 F0 lent β0=> ?_)
  repeat'(first|refine sC ?_|((with_reducible refine aj ?_);first|(refine sS ?_;intro Q' hn he hr)|refine sA ?_)|(refine sH ?_;clear hn he hr Q')|refine sO ?_|((conv=>whnf);first|refine sK ?_|(refine sB ?_;repeat'(first|refine sb0 ?_|(refine aA ?_ ?_<;>intro hb<;>try exact cls)))|((with_reducible refine aH ?_);first|(refine lS (PX a _ ah ah).aU rfl ?_;rintro d9 ⟨n9,rfl,hs9⟩;refine⟨rfl,?_⟩)|(refine jP (E8 a ah).aU rfl dQ ?_)|(refine oq (ZV a hv).aU rfl Q9 dQ ?_)|(refine oq (YO a hv).aU rfl Q9 dQ ?_)|(refine oq (YO a hv).aU rfl Q9 (by first|exact(rfl:_=40)|exact(rfl:_=41)|exact(rfl:_=42)|exact(rfl:_=43)|exact(rfl:_=44)|exact(rfl:_=45)|exact(rfl:_=46)|exact(rfl:_=47)|exact(rfl:_=48)|exact(rfl:_=49)|exact(rfl:_=50)|exact(rfl:_=51)|exact(rfl:_=52)|exact(rfl:_=53)|exact(rfl:_=54)|exact(rfl:_=55)|exact(rfl:_=56)|exact(rfl:_=57)|exact(rfl:_=58)|exact(rfl:_=59)) ?_)|(refine jq ((EW [] []).aU) rfl ?_)|(refine aG ((Px _).aU) rfl rfl ?_)|(refine aG ((Ox _).aU) rfl rfl ?_)|(refine Fa Tryz.func10 rfl aB rfl dQ (fun G8=> ?_))|(refine Fa Tryz.func37 rfl aB rfl dQ (fun G8=> ?_))|(refine iY 13 rfl (Po a.bJ.dU _ ah).aU rfl ?_)|(refine iY 14 rfl (Pq a.bJ.dW _ ah).aU rfl ?_)|(refine iY 15 rfl (O9 a.bJ.dZ _ ah).aU rfl ?_)|(refine iY 16 rfl (O7 a.bJ.eF _ ah).aU rfl ?_)|(refine iY 17 rfl (O6 a.bJ.aX _ ah).aU rfl ?_)|(refine iY 18 rfl (Pg a.bJ.bD _ ah).aU rfl ?_)|(refine iY 19 rfl (Ph a.bJ.dJ _ ah).aU rfl ?_)|(refine iY 20 rfl (Pj a.bJ.dh _ ah).aU rfl ?_)|(refine iY 21 rfl (O8 a.kD _ ah).aU rfl ?_)|(refine iY 22 rfl (Pn a.kF _ ah).aU rfl ?_)|(refine iY 23 rfl (Pm a.kE _ ah).aU rfl ?_)|(refine iY 24 rfl (Pv a.kH _ ah).aU rfl ?_))|((with_reducible refine aZ ?_);first|(refine ku (.agg (jv a)) (E8 a ah).aU rfl lg ?_)|(refine lu ((EU a a).aU) rfl ?_))|refine sP ?_|refine sD ?_|(refine au [] rfl rfl rfl ⟨?_,rfl⟩;conv=>lhs;whnf)))
  all_goals(exfalso;simp[QU,oD QT] at hb)
 |true=>
  have hal:(ug a).length=8:=agi a
  refine aF Tryz.func3 rfl aB rfl (fun w0 F0 lent β0=> ?_)
  repeat'(first|refine sC ?_|((with_reducible refine aj ?_);first|(refine sS ?_;intro Q' hn he hr)|refine sA ?_)|(refine sH ?_;clear hn he hr Q')|refine sO ?_|((conv=>whnf);first|refine sK ?_|(refine sB ?_;repeat'(first|refine sb0 ?_|(refine aA ?_ ?_<;>intro hb<;>try exact cls)))|((with_reducible refine aH ?_);first|(refine lS (PX a _ ah ah).aU rfl ?_;rintro d9 ⟨n9,rfl,hs9⟩;refine⟨rfl,?_⟩)|(refine jP (E8 a ah).aU rfl dQ ?_)|(refine oq (ZW a hv).aU rfl (oM (iV.map fun _=>rfl)) dQ ?_)|(refine oq (YP a hv) rfl (oM (iV.map fun _=>rfl)) dQ ?_)|(refine oq (YP a hv) rfl (oM (iV.map fun _=>rfl)) (by first|exact(rfl:_=40)|exact(rfl:_=41)|exact(rfl:_=42)|exact(rfl:_=43)|exact(rfl:_=44)|exact(rfl:_=45)|exact(rfl:_=46)|exact(rfl:_=47)|exact(rfl:_=48)|exact(rfl:_=49)|exact(rfl:_=50)|exact(rfl:_=51)|exact(rfl:_=52)|exact(rfl:_=53)|exact(rfl:_=54)|exact(rfl:_=55)|exact(rfl:_=56)|exact(rfl:_=57)|exact(rfl:_=58)|exact(rfl:_=59)) ?_)|(refine jq ((EW (ug a) (ug a)).aU) rfl ?_)|(refine Fa Tryz.func10 rfl aB rfl dQ (fun G8=> ?_))|(refine Fa Tryz.func37 rfl aB rfl dQ (fun G8=> ?_))|(refine iY 14 rfl (Po a.bJ.dU _ ah).aU rfl ?_)|(refine iY 15 rfl (Pq a.bJ.dW _ ah).aU rfl ?_)|(refine iY 16 rfl (O9 a.bJ.dZ _ ah).aU rfl ?_)|(refine iY 17 rfl (O7 a.bJ.eF _ ah).aU rfl ?_)|(refine iY 18 rfl (O6 a.bJ.aX _ ah).aU rfl ?_)|(refine iY 19 rfl (Pg a.bJ.bD _ ah).aU rfl ?_)|(refine iY 20 rfl (Ph a.bJ.dJ _ ah).aU rfl ?_)|(refine iY 21 rfl (Pj a.bJ.dh _ ah).aU rfl ?_)|(refine iY 22 rfl (O8 a.kD _ ah).aU rfl ?_)|(refine iY 23 rfl (Pn a.kF _ ah).aU rfl ?_)|(refine iY 24 rfl (Pm a.kE _ ah).aU rfl ?_)|(refine iY 25 rfl (Pv a.kH _ ah).aU rfl ?_)|(refine iY 27 rfl (ZG (ug a) _ ah).aU rfl ?_)|(refine jq ((Ov (ug a) _ ah).aU) rfl ?_))|((with_reducible refine aZ ?_);first|(refine ku (.agg (jv a)) (E8 a ah).aU rfl lg ?_)|(refine lu ((EU a a).aU) rfl ?_))|refine sP ?_|refine sD ?_|(refine au [] rfl rfl rfl ⟨?_,rfl⟩;conv=>lhs;whnf)))
  all_goals(exfalso;simp[QU,oD QT] at hb)
end Go.Eng
namespace Go.Proofs.YtocoppijdodffaaGreatDoor
open Go Go.ChangeShapes Go.WideShapes Go.ChangeAt Go.WideMaps Go.WideElems Go.RowKit Go.Eng
theorem gV0:Tryz.prog.globalNamed "math/bits.deBruijn32tab" =some 3:=by kernel_rfl
theorem gV1:Tryz.prog.globalNamed "math/bits.deBruijn64tab" =some 4:=by kernel_rfl
theorem Rt:Tryz.prog.globalNamed "internal/strconv.uint64pow10" =some 1:=by kernel_rfl
theorem gV3:Tryz.prog.globalNamed "unicode/utf8.acceptRanges" =some 9:=by kernel_rfl
theorem Ru:Tryz.prog.globalNamed "loop.example/g00955/impl.codeNames" =some 0:=by kernel_rfl
theorem Rw:Tryz.prog.globalNamed "loop.example/g00955/impl.sines" =some 2:=by kernel_rfl
theorem gV6:Tryz.prog.globalNamed "unicode.CaseRanges" =some 5:=by kernel_rfl
theorem gV7:Tryz.prog.globalNamed "unicode/utf8.first" =some 8:=by kernel_rfl
theorem oV:Opens Tryz.prog 9 (fun l:List UInt8=>[.str l]) (fun l:List UInt8=>l.length≤maxLen):=Opens.string Tryz.underlying9
theorem fH:Opens Tryz.prog 2 (fun n:Int=>[.int .i64 n]) (fun n:Int=>(Lit.int .i64 n).wf=true):=Opens.int Tryz.underlying2
theorem afl:Opens Tryz.prog 23 jE UH:=
 Opens.turn (fun x:List UInt8×Int×Int×Unit=>dn.mk x.1 x.2.1 x.2.2.1) (fun _=>rfl) (fun x h=>⟨h.1,h.2.1,h.2.2.1⟩)
  (Opens.struct 3 Tryz.underlying23 dA (fun _=>rfl) (bf.cons (k:=1) rfl (fun _=>rfl) oV (bf.cons (k:=1) rfl (fun _=>rfl) fH (bf.cons (k:=1) rfl (fun _=>rfl) fH bf.nil))))
theorem afC:Opens Tryz.prog 177 dR LX:=
 Opens.turn (fun x:List UInt8×Int×Int×Int×Int×Unit=>bW.mk x.1 x.2.1 x.2.2.1 x.2.2.2.1 x.2.2.2.2.1) (fun _=>rfl) (fun x h=>⟨h.1,h.2.1,h.2.2.1,h.2.2.2.1,h.2.2.2.2.1⟩)
  (Opens.struct 5 Tryz.underlying177 dA (fun _=>rfl) (bf.cons (k:=1) rfl (fun _=>rfl) oV (bf.cons (k:=1) rfl (fun _=>rfl) fH (bf.cons (k:=1) rfl (fun _=>rfl) fH (bf.cons (k:=1) rfl (fun _=>rfl) fH (bf.cons (k:=1) rfl (fun _=>rfl) fH bf.nil))))))
theorem afD:Opens Tryz.prog 24 (fun l:List (bW)=>[.sl 5 (l.map dR)]) (fun l:List (bW)=> ∀x∈l,LX x):=Opens.slice 5 Tryz.underlying24 dA iU afC
theorem afE:Opens Tryz.prog 216 dS LY:=
 Opens.turn (fun x:Int×Int×Int×Int×Int×Unit=>bK.mk x.1 x.2.1 x.2.2.1 x.2.2.2.1 x.2.2.2.2.1) (fun _=>rfl) (fun x h=>⟨h.1,h.2.1,h.2.2.1,h.2.2.2.1,h.2.2.2.2.1⟩)
  (Opens.struct 5 Tryz.underlying216 dA (fun _=>rfl) (bf.cons (k:=1) rfl (fun _=>rfl) fH (bf.cons (k:=1) rfl (fun _=>rfl) fH (bf.cons (k:=1) rfl (fun _=>rfl) fH (bf.cons (k:=1) rfl (fun _=>rfl) fH (bf.cons (k:=1) rfl (fun _=>rfl) fH bf.nil))))))
theorem afF:Opens Tryz.prog 25 (fun l:List (bK)=>[.sl 5 (l.map dS)]) (fun l:List (bK)=> ∀x∈l,LY x):=Opens.slice 5 Tryz.underlying25 dA iU afE
theorem afr:Opens Tryz.prog 26 (fun l:List (Int)=>[.sl 1 (l.map Go.Eng.encI)]) (fun l:List (Int)=> ∀x∈l,(fun n:Int=>(Lit.int .i64 n).wf=true) x):=Opens.slice 1 Tryz.underlying26 dA iU fH
theorem afm:Opens Tryz.prog 180 dP LK:=
 Opens.turn (fun x:List UInt8×Int×Int×Int×Unit=>cu.mk x.1 x.2.1 x.2.2.1 x.2.2.2.1) (fun _=>rfl) (fun x h=>⟨h.1,h.2.1,h.2.2.1,h.2.2.2.1⟩)
  (Opens.struct 4 Tryz.underlying180 dA (fun _=>rfl) (bf.cons (k:=1) rfl (fun _=>rfl) oV (bf.cons (k:=1) rfl (fun _=>rfl) fH (bf.cons (k:=1) rfl (fun _=>rfl) fH (bf.cons (k:=1) rfl (fun _=>rfl) fH bf.nil)))))
theorem afn:Opens Tryz.prog 27 (fun l:List (cu)=>[.sl 4 (l.map dP)]) (fun l:List (cu)=> ∀x∈l,LK x):=Opens.slice 4 Tryz.underlying27 dA iU afm
theorem afi:Opens Tryz.prog 183 cO LJ:=
 Opens.turn (fun x:List UInt8×Int×Int×List UInt8×Int×Int×Unit=>aV.mk x.1 x.2.1 x.2.2.1 x.2.2.2.1 x.2.2.2.2.1 x.2.2.2.2.2.1) (fun _=>rfl) (fun x h=>⟨h.1,h.2.1,h.2.2.1,h.2.2.2.1,h.2.2.2.2.1,h.2.2.2.2.2.1⟩)
  (Opens.struct 6 Tryz.underlying183 dA (fun _=>rfl) (bf.cons (k:=1) rfl (fun _=>rfl) oV (bf.cons (k:=1) rfl (fun _=>rfl) fH (bf.cons (k:=1) rfl (fun _=>rfl) fH (bf.cons (k:=1) rfl (fun _=>rfl) oV (bf.cons (k:=1) rfl (fun _=>rfl) fH (bf.cons (k:=1) rfl (fun _=>rfl) fH bf.nil)))))))
theorem afj:Opens Tryz.prog 28 (fun l:List (aV)=>[.sl 6 (l.map cO)]) (fun l:List (aV)=> ∀x∈l,LJ x):=Opens.slice 6 Tryz.underlying28 dA iU afi
theorem afs:Opens Tryz.prog 186 dH LP:=
 Opens.turn (fun x:Int×List UInt8×Int×Unit=>aY.mk x.1 x.2.1 x.2.2.1) (fun _=>rfl) (fun x h=>⟨h.1,h.2.1,h.2.2.1⟩)
  (Opens.struct 3 Tryz.underlying186 dA (fun _=>rfl) (bf.cons (k:=1) rfl (fun _=>rfl) fH (bf.cons (k:=1) rfl (fun _=>rfl) oV (bf.cons (k:=1) rfl (fun _=>rfl) fH bf.nil))))
theorem aft:Opens Tryz.prog 29 (fun l:List (aY)=>[.sl 3 (l.map dH)]) (fun l:List (aY)=> ∀x∈l,LP x):=Opens.slice 3 Tryz.underlying29 dA iU afs
theorem afu:Opens Tryz.prog 189 dM LQ:=
 Opens.turn (fun x:List UInt8×Int×Unit=>bC.mk x.1 x.2.1) (fun _=>rfl) (fun x h=>⟨h.1,h.2.1⟩)
  (Opens.struct 2 Tryz.underlying189 dA (fun _=>rfl) (bf.cons (k:=1) rfl (fun _=>rfl) oV (bf.cons (k:=1) rfl (fun _=>rfl) fH bf.nil)))
theorem afv:Opens Tryz.prog 30 (fun l:List (bC)=>[.sl 2 (l.map dM)]) (fun l:List (bC)=> ∀x∈l,LQ x):=Opens.slice 2 Tryz.underlying30 dA iU afu
theorem afw:Opens Tryz.prog 192 dI LU:=
 Opens.turn (fun x:List UInt8×Int×Unit=>bg.mk x.1 x.2.1) (fun _=>rfl) (fun x h=>⟨h.1,h.2.1⟩)
  (Opens.struct 2 Tryz.underlying192 dA (fun _=>rfl) (bf.cons (k:=1) rfl (fun _=>rfl) oV (bf.cons (k:=1) rfl (fun _=>rfl) fH bf.nil)))
theorem afx:Opens Tryz.prog 31 (fun l:List (bg)=>[.sl 2 (l.map dI)]) (fun l:List (bg)=> ∀x∈l,LU x):=Opens.slice 2 Tryz.underlying31 dA iU afw
theorem afq:Opens Tryz.prog 33 jQ UJ:=
 Opens.turn (fun x:dn×List (bW)×Int×List (bK)×List (Int)×Int×List (cu)×List (aV)×List (aY)×Int×List (bC)×List (bg)×Int×Unit=>bM.mk x.1 x.2.1 x.2.2.1 x.2.2.2.1 x.2.2.2.2.1 x.2.2.2.2.2.1 x.2.2.2.2.2.2.1 x.2.2.2.2.2.2.2.1 x.2.2.2.2.2.2.2.2.1 x.2.2.2.2.2.2.2.2.2.1 x.2.2.2.2.2.2.2.2.2.2.1 x.2.2.2.2.2.2.2.2.2.2.2.1 x.2.2.2.2.2.2.2.2.2.2.2.2.1) (fun _=>rfl) (fun x h=>⟨h.1,h.2.1,h.2.2.1,h.2.2.2.1,h.2.2.2.2.1,h.2.2.2.2.2.1,h.2.2.2.2.2.2.1,h.2.2.2.2.2.2.2.1,h.2.2.2.2.2.2.2.2.1,h.2.2.2.2.2.2.2.2.2.1,h.2.2.2.2.2.2.2.2.2.2.1,h.2.2.2.2.2.2.2.2.2.2.2.1,h.2.2.2.2.2.2.2.2.2.2.2.2.1⟩)
  (Opens.struct 15 Tryz.underlying33 dA (fun _=>rfl) (bf.cons (k:=3) rfl (fun _=>rfl) afl (bf.cons (k:=1) rfl (fun _=>rfl) afD (bf.cons (k:=1) rfl (fun _=>rfl) fH (bf.cons (k:=1) rfl (fun _=>rfl) afF (bf.cons (k:=1) rfl (fun _=>rfl) afr (bf.cons (k:=1) rfl (fun _=>rfl) fH (bf.cons (k:=1) rfl (fun _=>rfl) afn (bf.cons (k:=1) rfl (fun _=>rfl) afj (bf.cons (k:=1) rfl (fun _=>rfl) aft (bf.cons (k:=1) rfl (fun _=>rfl) fH (bf.cons (k:=1) rfl (fun _=>rfl) afv (bf.cons (k:=1) rfl (fun _=>rfl) afx (bf.cons (k:=1) rfl (fun _=>rfl) fH bf.nil))))))))))))))
theorem afo:Opens Tryz.prog 141 iK LM:=
 Opens.turn (fun x:Int×Int×Unit=>jh.mk x.1 x.2.1) (fun _=>rfl) (fun x h=>⟨h.1,h.2.1⟩)
  (Opens.struct 2 Tryz.underlying141 dA (fun _=>rfl) (bf.cons (k:=1) rfl (fun _=>rfl) fH (bf.cons (k:=1) rfl (fun _=>rfl) fH bf.nil)))
theorem afp:Opens Tryz.prog 34 (fun l:List (jh)=>[.sl 2 (l.map iK)]) (fun l:List (jh)=> ∀x∈l,LM x):=Opens.slice 2 Tryz.underlying34 dA iU afo
theorem afA:Opens Tryz.prog 112 iq LW:=
 Opens.turn (fun x:List UInt8×List UInt8×Int×Int×Int×Unit=>eP.mk x.1 x.2.1 x.2.2.1 x.2.2.2.1 x.2.2.2.2.1) (fun _=>rfl) (fun x h=>⟨h.1,h.2.1,h.2.2.1,h.2.2.2.1,h.2.2.2.2.1⟩)
  (Opens.struct 5 Tryz.underlying112 dA (fun _=>rfl) (bf.cons (k:=1) rfl (fun _=>rfl) oV (bf.cons (k:=1) rfl (fun _=>rfl) oV (bf.cons (k:=1) rfl (fun _=>rfl) fH (bf.cons (k:=1) rfl (fun _=>rfl) fH (bf.cons (k:=1) rfl (fun _=>rfl) fH bf.nil))))))
theorem afB:Opens Tryz.prog 35 (fun l:List (eP)=>[.sl 5 (l.map iq)]) (fun l:List (eP)=> ∀x∈l,LW x):=Opens.slice 5 Tryz.underlying35 dA iU afA
theorem afy:Opens Tryz.prog 115 ig LV:=
 Opens.turn (fun x:List UInt8×List UInt8×Unit=>eH.mk x.1 x.2.1) (fun _=>rfl) (fun x h=>⟨h.1,h.2.1⟩)
  (Opens.struct 2 Tryz.underlying115 dA (fun _=>rfl) (bf.cons (k:=1) rfl (fun _=>rfl) oV (bf.cons (k:=1) rfl (fun _=>rfl) oV bf.nil)))
theorem afz:Opens Tryz.prog 36 (fun l:List (eH)=>[.sl 2 (l.map ig)]) (fun l:List (eH)=> ∀x∈l,LV x):=Opens.slice 2 Tryz.underlying36 dA iU afy
theorem afG:Opens Tryz.prog 38 wU UK:=
 Opens.turn (fun x:List UInt8×Int×Int×Unit=>mF.mk x.1 x.2.1 x.2.2.1) (fun _=>rfl) (fun x h=>⟨h.1,h.2.1,h.2.2.1⟩)
  (Opens.struct 3 Tryz.underlying38 dA (fun _=>rfl) (bf.cons (k:=1) rfl (fun _=>rfl) oV (bf.cons (k:=1) rfl (fun _=>rfl) fH (bf.cons (k:=1) rfl (fun _=>rfl) fH bf.nil))))
theorem afH:Opens Tryz.prog 118 gV LZ:=
 Opens.turn (fun x:List UInt8×Int×Int×Int×Int×Unit=>TStar.mk x.1 x.2.1 x.2.2.1 x.2.2.2.1 x.2.2.2.2.1) (fun _=>rfl) (fun x h=>⟨h.1,h.2.1,h.2.2.1,h.2.2.2.1,h.2.2.2.2.1⟩)
  (Opens.struct 5 Tryz.underlying118 dA (fun _=>rfl) (bf.cons (k:=1) rfl (fun _=>rfl) oV (bf.cons (k:=1) rfl (fun _=>rfl) fH (bf.cons (k:=1) rfl (fun _=>rfl) fH (bf.cons (k:=1) rfl (fun _=>rfl) fH (bf.cons (k:=1) rfl (fun _=>rfl) fH bf.nil))))))
theorem afI:Opens Tryz.prog 39 (fun l:List (TStar)=>[.sl 5 (l.map gV)]) (fun l:List (TStar)=> ∀x∈l,LZ x):=Opens.slice 5 Tryz.underlying39 dA iU afH
theorem afk:Opens Tryz.prog 41 jv UG:=
 Opens.turn (fun x:bM×List (jh)×List (eP)×List (eH)×mF×List (TStar)×Unit=>fG.mk x.1 x.2.1 x.2.2.1 x.2.2.2.1 x.2.2.2.2.1 x.2.2.2.2.2.1) (fun _=>rfl) (fun x h=>⟨h.1,h.2.1,h.2.2.1,h.2.2.2.1,h.2.2.2.2.1,h.2.2.2.2.2.1⟩)
  (Opens.struct 22 Tryz.underlying41 dA (fun _=>rfl) (bf.cons (k:=15) rfl (fun _=>rfl) afq (bf.cons (k:=1) rfl (fun _=>rfl) afp (bf.cons (k:=1) rfl (fun _=>rfl) afB (bf.cons (k:=1) rfl (fun _=>rfl) afz (bf.cons (k:=3) rfl (fun _=>rfl) afG (bf.cons (k:=1) rfl (fun _=>rfl) afI bf.nil)))))))
theorem door_met(os:Os)(args:Array Value):laidMetH Tryz.prog [("math/bits.deBruijn32tab",Rows.laid_math_bits_deBruijn32tab),("math/bits.deBruijn64tab",Rows.laid_math_bits_deBruijn64tab),("internal/strconv.uint64pow10",Rows.laid_internal_strconv_uint64pow10),("unicode/utf8.acceptRanges",Rows.laid_unicode_utf8_acceptRanges),("loop.example/g00955/impl.codeNames",Rows.laid_loop_example_g00955_impl_codeNames),("loop.example/g00955/impl.sines",Rows.laid_loop_example_g00955_impl_sines),("unicode.CaseRanges",Rows.laid_unicode_CaseRanges),("unicode/utf8.first",Rows.laid_unicode_utf8_first)] ((World.laidAll Tryz.prog os [("math/bits.deBruijn32tab",Rows.laid_math_bits_deBruijn32tab),("math/bits.deBruijn64tab",Rows.laid_math_bits_deBruijn64tab),("internal/strconv.uint64pow10",Rows.laid_internal_strconv_uint64pow10),("unicode/utf8.acceptRanges",Rows.laid_unicode_utf8_acceptRanges),("loop.example/g00955/impl.codeNames",Rows.laid_loop_example_g00955_impl_codeNames),("loop.example/g00955/impl.sines",Rows.laid_loop_example_g00955_impl_sines),("unicode.CaseRanges",Rows.laid_unicode_CaseRanges),("unicode/utf8.first",Rows.laid_unicode_utf8_first)]).forCall (fun _ _=>0) ⟨#[],args,[]⟩).memory:=by
 rw[MakeChecks.laidMetH_plain _ _ _ dA]
 exact laidMet_laidAll args dA dA
theorem of_laid{W:World}(h:laidMetH Tryz.prog [("math/bits.deBruijn32tab",Rows.laid_math_bits_deBruijn32tab),("math/bits.deBruijn64tab",Rows.laid_math_bits_deBruijn64tab),("internal/strconv.uint64pow10",Rows.laid_internal_strconv_uint64pow10),("unicode/utf8.acceptRanges",Rows.laid_unicode_utf8_acceptRanges),("loop.example/g00955/impl.codeNames",Rows.laid_loop_example_g00955_impl_codeNames),("loop.example/g00955/impl.sines",Rows.laid_loop_example_g00955_impl_sines),("unicode.CaseRanges",Rows.laid_unicode_CaseRanges),("unicode/utf8.first",Rows.laid_unicode_utf8_first)] W): ∀g cs,GA g=some cs→nY (fun b=>b<W.heap.size) W g cs:=by
 rw[MakeChecks.laidMetH_plain _ _ _ dA] at h
 obtain⟨ps,hA,_⟩:=h
 obtain⟨g0,t0,cs0,f0,p0,q0,hg0,ht0,hv0,hd0,hA0,_⟩:=hA
 obtain rfl:=Option.some.inj (gV0.symm.trans hg0)
 obtain⟨g1,t1,cs1,f1,p1,q1,hg1,ht1,hv1,hd1,hA1,_⟩:=hA0
 obtain rfl:=Option.some.inj (gV1.symm.trans hg1)
 obtain⟨g2,t2,cs2,f2,p2,q2,hg2,ht2,hv2,hd2,hA2,_⟩:=hA1
 obtain rfl:=Option.some.inj (Rt.symm.trans hg2)
 obtain⟨g3,t3,cs3,f3,p3,q3,hg3,ht3,hv3,hd3,hA3,_⟩:=hA2
 obtain rfl:=Option.some.inj (gV3.symm.trans hg3)
 obtain⟨g4,t4,cs4,f4,p4,q4,hg4,ht4,hv4,hd4,hA4,_⟩:=hA3
 obtain rfl:=Option.some.inj (Ru.symm.trans hg4)
 obtain⟨g5,t5,cs5,f5,p5,q5,hg5,ht5,hv5,hd5,hA5,_⟩:=hA4
 obtain rfl:=Option.some.inj (Rw.symm.trans hg5)
 obtain⟨g6,t6,cs6,f6,p6,q6,hg6,ht6,hv6,hd6,hA6,_⟩:=hA5
 obtain rfl:=Option.some.inj (gV6.symm.trans hg6)
 obtain⟨g7,t7,cs7,f7,p7,q7,hg7,ht7,hv7,hd7,hA7,_⟩:=hA6
 obtain rfl:=Option.some.inj (gV7.symm.trans hg7)
 intro g cs hG
 simp only[GA,G1] at hG
 split at hG
 ·rename_i he
  subst he
  cases hG
  obtain rfl:t2=363:=Option.some.inj (ht2.symm.trans (show(Tryz.prog.globals[1]?).map (·.type)=some 363 by kernel_rfl))
  have e:=Tn (ls:=Lib.pow10Tab) (p:=p2) Tryz.underlying363 Tryz.underlying316 dA dA hd2
  exact Ry Rt hv2 e
 split at hG
 ·rename_i he
  subst he
  cases hG
  obtain rfl:t4=306:=Option.some.inj (ht4.symm.trans (show(Tryz.prog.globals[0]?).map (·.type)=some 306 by kernel_rfl))
  have e:=agR (ls:=Fj) (p:=p4) Tryz.underlying306 Tryz.underlying9 dA dA hd4
  exact adw Ru hv4 e.1 e.2
 split at hG
 ·rename_i he
  subst he
  cases hG
  obtain rfl:t5=389:=Option.some.inj (ht5.symm.trans (show(Tryz.prog.globals[2]?).map (·.type)=some 389 by kernel_rfl))
  have e:=Tn (ls:=jW) (p:=p5) Tryz.underlying389 Tryz.underlying2 dA dA hd5
  exact Ry Rw hv5 e
 ·cases hG
set_option maxRecDepth 100000 in
theorem lifted(os:Os)(started:os.Started)(H:Type)(enc:TypeId×Value→H):
 ReturnsInHanded {} Tryz.checked os 3 .any (fun w args=>(Rows.fnExactDeskReportSpec.pre enc Tryz.prog Tryz.f3 [] false w args∧laidMetH Tryz.prog [("math/bits.deBruijn32tab",Rows.laid_math_bits_deBruijn32tab),("math/bits.deBruijn64tab",Rows.laid_math_bits_deBruijn64tab),("internal/strconv.uint64pow10",Rows.laid_internal_strconv_uint64pow10),("unicode/utf8.acceptRanges",Rows.laid_unicode_utf8_acceptRanges),("loop.example/g00955/impl.codeNames",Rows.laid_loop_example_g00955_impl_codeNames),("loop.example/g00955/impl.sines",Rows.laid_loop_example_g00955_impl_sines),("unicode.CaseRanges",Rows.laid_unicode_CaseRanges),("unicode/utf8.first",Rows.laid_unicode_utf8_first)] w)∧sizedMet enc Tryz.prog Tryz.f3 (OpenSpec.ofChange Rows.fnExactDeskReportSpec) false w args)
  (Rows.fnExactDeskReportSpec.post enc Tryz.prog Tryz.f3 false true false false):=by
 refine returnsInHanded_of_change_and (C:=Tryz.checked) (X:=fun w _=>laidMetH Tryz.prog [("math/bits.deBruijn32tab",Rows.laid_math_bits_deBruijn32tab),("math/bits.deBruijn64tab",Rows.laid_math_bits_deBruijn64tab),("internal/strconv.uint64pow10",Rows.laid_internal_strconv_uint64pow10),("unicode/utf8.acceptRanges",Rows.laid_unicode_utf8_acceptRanges),("loop.example/g00955/impl.codeNames",Rows.laid_loop_example_g00955_impl_codeNames),("loop.example/g00955/impl.sines",Rows.laid_loop_example_g00955_impl_sines),("unicode.CaseRanges",Rows.laid_unicode_CaseRanges),("unicode/utf8.first",Rows.laid_unicode_utf8_first)] w) (fun _ _ _ hh h=>h.of_heap hh) own started dA Tryz.func3
  (ChangeSpec.witness_shaped (enc:=enc) (C:=Tryz.checked) (os:=os) (X:=fun w _=>laidMetH Tryz.prog [("math/bits.deBruijn32tab",Rows.laid_math_bits_deBruijn32tab),("math/bits.deBruijn64tab",Rows.laid_math_bits_deBruijn64tab),("internal/strconv.uint64pow10",Rows.laid_internal_strconv_uint64pow10),("unicode/utf8.acceptRanges",Rows.laid_unicode_utf8_acceptRanges),("loop.example/g00955/impl.codeNames",Rows.laid_loop_example_g00955_impl_codeNames),("loop.example/g00955/impl.sines",Rows.laid_loop_example_g00955_impl_sines),("unicode.CaseRanges",Rows.laid_unicode_CaseRanges),("unicode/utf8.first",Rows.laid_unicode_utf8_first)] w) false (World.laidAll Tryz.prog os [("math/bits.deBruijn32tab",Rows.laid_math_bits_deBruijn32tab),("math/bits.deBruijn64tab",Rows.laid_math_bits_deBruijn64tab),("internal/strconv.uint64pow10",Rows.laid_internal_strconv_uint64pow10),("unicode/utf8.acceptRanges",Rows.laid_unicode_utf8_acceptRanges),("loop.example/g00955/impl.codeNames",Rows.laid_loop_example_g00955_impl_codeNames),("loop.example/g00955/impl.sines",Rows.laid_loop_example_g00955_impl_sines),("unicode.CaseRanges",Rows.laid_unicode_CaseRanges),("unicode/utf8.first",Rows.laid_unicode_utf8_first)]) #[.agg #[.string ⟨#[]⟩, .int .i64 0, .int .i64 0, .slice none 0 0, .int .i64 0, .slice none 0 0, .slice none 0 0, .int .i64 0, .slice none 0 0, .slice none 0 0, .slice none 0 0, .int .i64 0, .slice none 0 0, .slice none 0 0, .int .i64 0, .slice none 0 0, .slice none 0 0, .slice none 0 0, .string ⟨#[]⟩, .int .i64 0, .int .i64 0, .slice none 0 0]] 8 (World.laidAll_os _ _ _) (World.shaped_of_ZipB dA dA) dA dA dA (door_met os _)) ?_
 intro W base args ds gs before hval0 hW _ _ hL _
 have hval: ∀(j:Nat) t v,Tryz.f3.params[j]? =some t→args[j]? =some v→Value.okWide Tryz.prog W .any base t v:=hval0
 have hW':=hW
 obtain⟨p,q,hA0,hV,rfl,hfz,hnd⟩:=hW
 have hA:DataW.TrodAll enc Tryz.prog W 0 (fun _=>true) true Tryz.f3.params.toList args.toList ds p:=hA0
 rw[Tryz.params3] at hA hval
 have hlaid:=of_laid hL
 obtain⟨v0,G8,d0,ds0,p0,q0,hargs,rfl,rfl,h0,r0⟩:=trodAll_cons hA
 obtain⟨rfl,rfl,rfl⟩:=trodAll_nil r0
 obtain rfl:args= #[v0]:=by cases args;simp_all
 obtain⟨gq,tq,csq,fq,dq,pq,gr,tr,csr,fr,dr,pr,rfl,hgq,htq,hvq,hdq,hgr,htr,hvr,hdr,hqq⟩:=trodVars_two hV
 have lt0: ∀x∈p0,x.block<W.heap.size:=by obtain⟨m,hm⟩:=h0;exact DataW.trod_lt m _ _ _ hm
 obtain⟨s0,rfl,_⟩:=okWide_struct Tryz.underlying41 (hval 0 41 v0 rfl rfl)
 obtain⟨x0,k0,w0⟩:=afk.many h0
 clear hA0 hval0
 refine((Ye x0 k0).ag1 (w:=W) (vs:=[_]) rfl hlaid (fun i hi=> ?_)).mono fun e W' ⟨he,bel⟩=> ?_
 ·match i,hi with
  |0,_=>exact w0
 subst he
 exact⟨_,rfl,_,_,_,[],_,_,hW',trodAll_mk1 (shut_bool Tryz.underlying4 _),(trodAll_cons_mk (Below.trod laidOut dA (of_decide_eq_true dA) h0 bel lt0) trodAll_mk0),Below.trodVars laidOut bel dA hV,bel.frame _,fun h=>by cases h⟩
end Go.Proofs.YtocoppijdodffaaGreatDoor
