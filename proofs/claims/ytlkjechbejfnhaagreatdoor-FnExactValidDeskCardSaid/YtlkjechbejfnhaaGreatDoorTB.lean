/-
  Blocks as data.
  No conditions.
-/
import Derived.Test.YtlkjechbejfnhaaGreatDoorEC
set_option linter.unusedVariables false
set_option linter.unusedSimpArgs false
namespace Go.Eng
open Go Go.RowKit
structure TBlock where
  fKind : List UInt8
  fName : List UInt8
  fText : List UInt8
def encBlock (x : TBlock) : List D := [.str x.fKind, .str x.fName, .str x.fText]
def TBlock.sz (x : TBlock) : Nat := x.fKind.length + x.fName.length + x.fText.length
def eqTBlock (a b : TBlock) : Bool := eqStr a.fKind b.fKind && (eqStr a.fName b.fName && (eqStr a.fText b.fText))
theorem eqTBlock_refl (x : TBlock) : eqTBlock x x = true := by simp [eqTBlock, eqI, eqStr, eqBo]
end Go.Eng
