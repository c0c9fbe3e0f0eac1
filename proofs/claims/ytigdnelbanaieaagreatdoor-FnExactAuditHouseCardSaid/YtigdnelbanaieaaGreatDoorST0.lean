/-
  Stars: validity, texts, blocks of stars.
  No conditions.
-/
import Derived.Test.YtigdnelbanaieaaGreatDoorED
import Derived.Test.YtigdnelbanaieaaGreatDoorW1
import Derived.Test.YtigdnelbanaieaaGreatDoorD1
import Derived.Test.YtigdnelbanaieaaGreatDoorV0
import Derived.Test.YtigdnelbanaieaaGreatDoorTX
set_option linter.unusedVariables false
set_option linter.unusedSimpArgs false
set_option maxHeartbeats 4000000
namespace Go.Eng
open Go Go.RowKit Go.Proofs
set_option maxRecDepth 100000
structure TStar where
  fId : List UInt8
  fRight : Int
  fDeclination : Int
  fMagnitude : Int
  fColour : Int
def TStar.sz (x : TStar) : Nat := x.fId.length
def dirB (r d : Int) : Bool := inB r 0 359999 && inB d (-90000) 90000
theorem c_validDirection (r d : Int) : FnC Tryz.prog 195 G0 0 [] [.int .i64 r, .int .i64 d] (fun e os => e = .bool (dirB r d) ∧ os = []) := by
  refine fn_rule Tryz.func195 rfl (by decide +kernel) rfl (fun w0 F0 lent β0 => ?_)
  repeat' (first | refine sC ?_ | ((with_reducible refine isAwp ?_); first | (refine sS ?_; intro Q' hn he hr) | refine sA ?_) | (refine sH ?_; clear hn he hr Q') | ((conv => whnf); first | refine sK ?_ | (refine sB ?_; repeat' (first | refine sb0 ?_ | (refine sb2 ?_ ?_ <;> intro hb <;> try exact cls))) | ((with_reducible refine isCall ?_); (refine call_pure (c_within _ _ _) rfl rfl ?_)) | (refine ret_pick [] rfl rfl rfl ⟨?_, rfl⟩; conv => lhs; whnf)))
  all_goals simp_all [dirB]
end Go.Eng
