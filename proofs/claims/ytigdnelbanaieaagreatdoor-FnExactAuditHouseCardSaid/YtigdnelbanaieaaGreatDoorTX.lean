/-
  Contracts of functions of the program and of the reference, and plain laws: a bundle of texts.
  No conditions.
-/
import Derived.Test.YtigdnelbanaieaaGreatDoorEC
set_option linter.unusedVariables false
set_option linter.unusedSimpArgs false
namespace Go.Eng
open Go Go.RowKit
structure TMedia where
  fName : List UInt8
  fSize : Int
def encMedia (x : TMedia) : List D := [.str x.fName, .int .i64 x.fSize]
def TMedia.sz (x : TMedia) : Nat := x.fName.length
def eqTMedia (a b : TMedia) : Bool := eqStr a.fName b.fName && (eqI a.fSize b.fSize)
theorem eqTMedia_refl (x : TMedia) : eqTMedia x x = true := by simp [eqTMedia, eqI, eqStr, eqBo]
end Go.Eng

namespace Go.Eng
open Go Go.RowKit
structure TNote where
  fId : List UInt8
  fText : List UInt8
def TNote.sz (x : TNote) : Nat := x.fId.length + x.fText.length
end Go.Eng

namespace Go.Eng
open Go Go.RowKit
structure TVector where
  fX : Int
  fY : Int
  fZ : Int
def encVector (x : TVector) : List D := [.int .i64 x.fX, .int .i64 x.fY, .int .i64 x.fZ]
end Go.Eng

namespace Go.Eng
open Go Go.RowKit
structure TBlock where
  fKind : List UInt8
  fName : List UInt8
  fText : List UInt8
def TBlock.sz (x : TBlock) : Nat := x.fKind.length + x.fName.length + x.fText.length
end Go.Eng

namespace Go.Eng
open Go Go.RowKit
def joinL : List (List UInt8) → List UInt8
  | [] => []
  | [p] => p
  | p :: q :: r => p ++ 44 :: joinL (q :: r)
theorem joinL_len : ∀ l : List (List UInt8), (∀ x ∈ l, x.length ≤ 30) → (joinL l).length ≤ 31 * l.length := by
  intro l
  induction l with
  | nil => intro _; simp [joinL]
  | cons x r ih =>
    intro h
    have h1 := h x (by simp)
    have h2 := ih fun y hy => h y (by simp [hy])
    cases r with
    | nil => simp [joinL]; omega
    | cons y r =>
      rw [joinL]
      simp only [List.length_append, List.length_cons] at h2 ⊢
      omega
end Go.Eng
