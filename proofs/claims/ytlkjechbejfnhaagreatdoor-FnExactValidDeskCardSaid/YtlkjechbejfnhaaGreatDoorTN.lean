/-
  Notes as data.
  No conditions.
-/
import Derived.Test.YtlkjechbejfnhaaGreatDoorEC
set_option linter.unusedVariables false
set_option linter.unusedSimpArgs false
namespace Go.Eng
open Go Go.RowKit
structure TNote where
  fId : List UInt8
  fText : List UInt8
def encNote (x : TNote) : List D := [.str x.fId, .str x.fText]
def TNote.sz (x : TNote) : Nat := x.fId.length + x.fText.length
def eqTNote (a b : TNote) : Bool := eqStr a.fId b.fId && (eqStr a.fText b.fText)
theorem eqTNote_refl (x : TNote) : eqTNote x x = true := by simp [eqTNote, eqI, eqStr, eqBo]
end Go.Eng
