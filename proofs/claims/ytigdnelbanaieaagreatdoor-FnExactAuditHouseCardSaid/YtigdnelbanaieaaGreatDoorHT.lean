/-
  Houses and desks as data.
  No conditions.
-/
import Derived.Test.YtigdnelbanaieaaGreatDoorTX
import Derived.Test.YtigdnelbanaieaaGreatDoorST0
set_option linter.unusedVariables false
set_option linter.unusedSimpArgs false
namespace Go.Eng
open Go Go.RowKit
structure TDome where
  fName : List UInt8
  fRadius : Int
  fTilt : Int
def encDome (x : TDome) : List D := [.str x.fName, .int .i64 x.fRadius, .int .i64 x.fTilt]
def TDome.sz (x : TDome) : Nat := x.fName.length
def eqTDome (a b : TDome) : Bool := eqStr a.fName b.fName && (eqI a.fRadius b.fRadius && (eqI a.fTilt b.fTilt))
theorem eqTDome_refl (x : TDome) : eqTDome x x = true := by simp [eqTDome, eqI, eqStr, eqBo]
structure TProjector where
  fName : List UInt8
  fAzimuth : Int
  fAltitude : Int
  fField : Int
  fPower : Int
def encProjector (x : TProjector) : List D := [.str x.fName, .int .i64 x.fAzimuth, .int .i64 x.fAltitude, .int .i64 x.fField, .int .i64 x.fPower]
def TProjector.sz (x : TProjector) : Nat := x.fName.length
def eqTProjector (a b : TProjector) : Bool := eqStr a.fName b.fName && (eqI a.fAzimuth b.fAzimuth && (eqI a.fAltitude b.fAltitude && (eqI a.fField b.fField && (eqI a.fPower b.fPower))))
theorem eqTProjector_refl (x : TProjector) : eqTProjector x x = true := by simp [eqTProjector, eqI, eqStr, eqBo]
structure TRing where
  fRadius : Int
  fCount : Int
  fFrom : Int
  fStep : Int
  fPrice : Int
def encRing (x : TRing) : List D := [.int .i64 x.fRadius, .int .i64 x.fCount, .int .i64 x.fFrom, .int .i64 x.fStep, .int .i64 x.fPrice]
def eqTRing (a b : TRing) : Bool := eqI a.fRadius b.fRadius && (eqI a.fCount b.fCount && (eqI a.fFrom b.fFrom && (eqI a.fStep b.fStep && (eqI a.fPrice b.fPrice))))
theorem eqTRing_refl (x : TRing) : eqTRing x x = true := by simp [eqTRing, eqI, eqStr, eqBo]
structure TFixture where
  fName : List UInt8
  fUniverse : Int
  fAddress : Int
  fWidth : Int
def encFixture (x : TFixture) : List D := [.str x.fName, .int .i64 x.fUniverse, .int .i64 x.fAddress, .int .i64 x.fWidth]
def TFixture.sz (x : TFixture) : Nat := x.fName.length
def eqTFixture (a b : TFixture) : Bool := eqStr a.fName b.fName && (eqI a.fUniverse b.fUniverse && (eqI a.fAddress b.fAddress && (eqI a.fWidth b.fWidth)))
theorem eqTFixture_refl (x : TFixture) : eqTFixture x x = true := by simp [eqTFixture, eqI, eqStr, eqBo]
structure TCue where
  fId : List UInt8
  fTime : Int
  fLength : Int
  fTarget : List UInt8
  fAction : Int
  fValue : Int
def encCue (x : TCue) : List D := [.str x.fId, .int .i64 x.fTime, .int .i64 x.fLength, .str x.fTarget, .int .i64 x.fAction, .int .i64 x.fValue]
def TCue.sz (x : TCue) : Nat := x.fId.length + x.fTarget.length
def eqTCue (a b : TCue) : Bool := eqStr a.fId b.fId && (eqI a.fTime b.fTime && (eqI a.fLength b.fLength && (eqStr a.fTarget b.fTarget && (eqI a.fAction b.fAction && (eqI a.fValue b.fValue)))))
theorem eqTCue_refl (x : TCue) : eqTCue x x = true := by simp [eqTCue, eqI, eqStr, eqBo]
structure TLine where
  fKind : Int
  fName : List UInt8
  fValue : Int
def encLine (x : TLine) : List D := [.int .i64 x.fKind, .str x.fName, .int .i64 x.fValue]
def TLine.sz (x : TLine) : Nat := x.fName.length
def eqTLine (a b : TLine) : Bool := eqI a.fKind b.fKind && (eqStr a.fName b.fName && (eqI a.fValue b.fValue))
theorem eqTLine_refl (x : TLine) : eqTLine x x = true := by simp [eqTLine, eqI, eqStr, eqBo]
structure TNeed where
  fName : List UInt8
  fTime : Int
def encNeed (x : TNeed) : List D := [.str x.fName, .int .i64 x.fTime]
def TNeed.sz (x : TNeed) : Nat := x.fName.length
def eqTNeed (a b : TNeed) : Bool := eqStr a.fName b.fName && (eqI a.fTime b.fTime)
theorem eqTNeed_refl (x : TNeed) : eqTNeed x x = true := by simp [eqTNeed, eqI, eqStr, eqBo]
structure THouse where
  fDome : TDome
  fProjectors : List (TProjector)
  fStep : Int
  fRings : List (TRing)
  fBooked : List (Int)
  fLeast : Int
  fFixtures : List (TFixture)
  fCues : List (TCue)
  fScript : List (TLine)
  fBudget : Int
  fMedia : List (TMedia)
  fNeeds : List (TNeed)
  fBandwidth : Int
def encHouse (x : THouse) : List D := [.str x.fDome.fName, .int .i64 x.fDome.fRadius, .int .i64 x.fDome.fTilt, .sl 5 (x.fProjectors.map encProjector), .int .i64 x.fStep, .sl 5 (x.fRings.map encRing), .sl 1 (x.fBooked.map encI), .int .i64 x.fLeast, .sl 4 (x.fFixtures.map encFixture), .sl 6 (x.fCues.map encCue), .sl 3 (x.fScript.map encLine), .int .i64 x.fBudget, .sl 2 (x.fMedia.map encMedia), .sl 2 (x.fNeeds.map encNeed), .int .i64 x.fBandwidth]
def THouse.sz (x : THouse) : Nat := x.fDome.sz + szL TProjector.sz x.fProjectors + szL noSz x.fRings + szL noSz x.fBooked + szL TFixture.sz x.fFixtures + szL TCue.sz x.fCues + szL TLine.sz x.fScript + szL TMedia.sz x.fMedia + szL TNeed.sz x.fNeeds
def eqTHouse (a b : THouse) : Bool := eqTDome a.fDome b.fDome && ((eqL eqTProjector) a.fProjectors b.fProjectors && (eqI a.fStep b.fStep && ((eqL eqTRing) a.fRings b.fRings && ((eqL eqI) a.fBooked b.fBooked && (eqI a.fLeast b.fLeast && ((eqL eqTFixture) a.fFixtures b.fFixtures && ((eqL eqTCue) a.fCues b.fCues && ((eqL eqTLine) a.fScript b.fScript && (eqI a.fBudget b.fBudget && ((eqL eqTMedia) a.fMedia b.fMedia && ((eqL eqTNeed) a.fNeeds b.fNeeds && (eqI a.fBandwidth b.fBandwidth))))))))))))
theorem eqTHouse_refl (x : THouse) : eqTHouse x x = true := by simp [eqTHouse, eqI, eqStr, eqBo, eqTDome_refl, eqL_refl eqTProjector_refl, eqL_refl eqTRing_refl, eqL_refl eqI_refl, eqL_refl eqTFixture_refl, eqL_refl eqTCue_refl, eqL_refl eqTLine_refl, eqL_refl eqTMedia_refl, eqL_refl eqTNeed_refl]
structure THold where
  fAt : Int
  fLength : Int
structure TOffer where
  fId : List UInt8
  fKind : List UInt8
  fStart : Int
  fLength : Int
  fWorth : Int
def TOffer.sz (x : TOffer) : Nat := x.fId.length + x.fKind.length
structure TSite where
  fName : List UInt8
  fLongitude : Int
  fLatitude : Int
def TSite.sz (x : TSite) : Nat := x.fName.length
structure TDesk where
  fHouse : THouse
  fHolds : List (THold)
  fOffers : List (TOffer)
  fNotes : List (TNote)
  fSite : TSite
  fStars : List (TStar)
def TDesk.sz (x : TDesk) : Nat := x.fHouse.sz + szL noSz x.fHolds + szL TOffer.sz x.fOffers + szL TNote.sz x.fNotes + x.fSite.sz + szL TStar.sz x.fStars
def encHouseR (x : THouse) (r : List D) : List D := .str x.fDome.fName :: .int .i64 x.fDome.fRadius :: .int .i64 x.fDome.fTilt :: .sl 5 (x.fProjectors.map encProjector) :: .int .i64 x.fStep :: .sl 5 (x.fRings.map encRing) :: .sl 1 (x.fBooked.map encI) :: .int .i64 x.fLeast :: .sl 4 (x.fFixtures.map encFixture) :: .sl 6 (x.fCues.map encCue) :: .sl 3 (x.fScript.map encLine) :: .int .i64 x.fBudget :: .sl 2 (x.fMedia.map encMedia) :: .sl 2 (x.fNeeds.map encNeed) :: .int .i64 x.fBandwidth :: r
end Go.Eng
