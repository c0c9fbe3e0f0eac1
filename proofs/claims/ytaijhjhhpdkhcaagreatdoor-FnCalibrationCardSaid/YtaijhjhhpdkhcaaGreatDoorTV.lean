/-
  Vectors and marks as data.
  No conditions.
-/
import Derived.Test.YtaijhjhhpdkhcaaGreatDoorEC
set_option linter.unusedVariables false
set_option linter.unusedSimpArgs false
namespace Go.Eng
open Go Go.RowKit
structure TVector where
  fX : Int
  fY : Int
  fZ : Int
def encVector (x : TVector) : List D := [.int .i64 x.fX, .int .i64 x.fY, .int .i64 x.fZ]
def eqTVector (a b : TVector) : Bool := eqI a.fX b.fX && (eqI a.fY b.fY && (eqI a.fZ b.fZ))
theorem eqTVector_refl (x : TVector) : eqTVector x x = true := by simp [eqTVector, eqI, eqStr, eqBo]
structure TMark where
  fAzimuth : Int
  fAltitude : Int
  fFound : Int
  fHeight : Int
def encMark (x : TMark) : List D := [.int .i64 x.fAzimuth, .int .i64 x.fAltitude, .int .i64 x.fFound, .int .i64 x.fHeight]
def eqTMark (a b : TMark) : Bool := eqI a.fAzimuth b.fAzimuth && (eqI a.fAltitude b.fAltitude && (eqI a.fFound b.fFound && (eqI a.fHeight b.fHeight)))
theorem eqTMark_refl (x : TMark) : eqTMark x x = true := by simp [eqTMark, eqI, eqStr, eqBo]
end Go.Eng
