/-
  Sessions as data, and what a law's scaffolding function does with them.
  No conditions.
-/
import Derived.Test.YtlkjechbejfnhaaGreatDoorED
import Derived.Test.YtlkjechbejfnhaaGreatDoorProg
set_option linter.unusedVariables false
set_option linter.unusedSimpArgs false
namespace Go.Eng
open Go Go.RowKit Go.Proofs
set_option maxRecDepth 100000
structure TSession where
  fDay : Int
  fTurn : Int
  fLift : Int
  fError : Int
def encSession (x : TSession) : List D := [.int .i64 x.fDay, .int .i64 x.fTurn, .int .i64 x.fLift, .int .i64 x.fError]
def eqTSession (a b : TSession) : Bool := eqI a.fDay b.fDay && (eqI a.fTurn b.fTurn && (eqI a.fLift b.fLift && (eqI a.fError b.fError)))
theorem eqTSession_refl (x : TSession) : eqTSession x x = true := by simp [eqTSession, eqI, eqStr, eqBo]
end Go.Eng
