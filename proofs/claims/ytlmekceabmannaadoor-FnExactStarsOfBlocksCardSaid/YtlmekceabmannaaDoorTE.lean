/-
  Sessions as data, and what a law's scaffolding function does with them.
  No conditions.
-/
import Derived.Test.YtlmekceabmannaaDoorED
import Derived.Test.YtlmekceabmannaaDoorProg
set_option linter.unusedVariables false
set_option linter.unusedSimpArgs false
set_option maxHeartbeats 4000000
namespace Go.Eng
open Go Go.RowKit Go.Proofs
set_option maxRecDepth 100000
structure TSession where
  fDay : Int
  fTurn : Int
  fLift : Int
  fError : Int
def encSession (x : TSession) : List D := [.int .i64 x.fDay, .int .i64 x.fTurn, .int .i64 x.fLift, .int .i64 x.fError]
def eqTSession (a b : TSession) : Bool := eqI a.fDay b.fDay && (eqI a.fTurn b.fTurn && (eqI a.fLift b.fLift && (eqI a.fError b.fError)))
theorem eqTSession_refl (x : TSession) : eqTSession x x = true := by simp [eqTSession, eqI, eqStr, eqBo]
theorem c_eqSession (a b : TSession) : FnC Tryd.prog 28 G0 0 [] [.agg (encSession a), .agg (encSession b)] (fun d os => d = .bool (eqTSession a b) ∧ os = []) := by
  refine fn_rule Tryd.func28 rfl (by decide +kernel) rfl (fun w0 F0 lent β0 => ?_)
  repeat' (first | refine sC ?_ | ((with_reducible refine isAwp ?_); first | (refine sS ?_; intro Q' hn he hr) | refine sA ?_) | (refine sH ?_; clear hn he hr Q') | refine sO ?_ | ((conv => whnf); first | refine sK ?_ | (refine sB ?_; repeat' (first | refine sb0 ?_ | (refine sb2 ?_ ?_ <;> intro hb <;> try exact cls))) | refine sP ?_ | (refine sE ?_; intro x hx) | (refine sF ?_; intro i y hi hy) | (refine sI ?_; intro i hi) | (refine sL ?_; intro hlen) | (refine sQ ?_; intro c hc hcm; try simp only [lnM, lnA, lnC, lnN] at hc) | (refine sX ?_; intro i1 i2 hi1 hi2 hj1 hj2; try simp only [cutL, lnM, lnA, lnC, lnN, lnT, lnD, lnR] at hi1 hi2 hj2) | refine sD ?_ | (refine ret_pick [] rfl rfl rfl ⟨?_, rfl⟩; conv => lhs; whnf) | (refine ret_pick [0] rfl rfl rfl ⟨rfl, ?_⟩) | (refine sH ?_; clear hn he hr Q')))
  all_goals simp_all [eqTSession, eqI, eqStr, eqBo]
end Go.Eng
