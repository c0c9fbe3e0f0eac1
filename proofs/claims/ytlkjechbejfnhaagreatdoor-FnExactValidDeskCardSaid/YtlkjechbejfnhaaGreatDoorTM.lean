/-
  Media as data.
  No conditions.
-/
import Derived.Test.YtlkjechbejfnhaaGreatDoorEC
set_option linter.unusedVariables false
set_option linter.unusedSimpArgs false
namespace Go.Eng
open Go Go.RowKit
structure TMedia where
  fName : List UInt8
  fSize : Int
def encMedia (x : TMedia) : List D := [.str x.fName, .int .i64 x.fSize]
def TMedia.sz (x : TMedia) : Nat := x.fName.length
def eqTMedia (a b : TMedia) : Bool := eqStr a.fName b.fName && (eqI a.fSize b.fSize)
theorem eqTMedia_refl (x : TMedia) : eqTMedia x x = true := by simp [eqTMedia, eqI, eqStr, eqBo]
end Go.Eng
