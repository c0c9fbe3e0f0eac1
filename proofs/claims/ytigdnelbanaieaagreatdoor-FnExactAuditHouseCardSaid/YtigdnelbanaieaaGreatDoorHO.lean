/-
  What is known of houses and desks that are handed in.
  No conditions.
-/
import Derived.Test.YtigdnelbanaieaaGreatDoorHT
set_option linter.unusedVariables false
set_option linter.unusedSimpArgs false
namespace Go.Eng
open Go Go.RowKit
def okDome (x : TDome) : Prop := (fun l : List UInt8 => l.length ≤ maxLen) x.fName ∧ (fun n : Int => (Lit.int .i64 n).wf = true) x.fRadius ∧ (fun n : Int => (Lit.int .i64 n).wf = true) x.fTilt
def okProjector (x : TProjector) : Prop := (fun l : List UInt8 => l.length ≤ maxLen) x.fName ∧ (fun n : Int => (Lit.int .i64 n).wf = true) x.fAzimuth ∧ (fun n : Int => (Lit.int .i64 n).wf = true) x.fAltitude ∧ (fun n : Int => (Lit.int .i64 n).wf = true) x.fField ∧ (fun n : Int => (Lit.int .i64 n).wf = true) x.fPower
def okRing (x : TRing) : Prop := (fun n : Int => (Lit.int .i64 n).wf = true) x.fRadius ∧ (fun n : Int => (Lit.int .i64 n).wf = true) x.fCount ∧ (fun n : Int => (Lit.int .i64 n).wf = true) x.fFrom ∧ (fun n : Int => (Lit.int .i64 n).wf = true) x.fStep ∧ (fun n : Int => (Lit.int .i64 n).wf = true) x.fPrice
def okFixture (x : TFixture) : Prop := (fun l : List UInt8 => l.length ≤ maxLen) x.fName ∧ (fun n : Int => (Lit.int .i64 n).wf = true) x.fUniverse ∧ (fun n : Int => (Lit.int .i64 n).wf = true) x.fAddress ∧ (fun n : Int => (Lit.int .i64 n).wf = true) x.fWidth
def okCue (x : TCue) : Prop := (fun l : List UInt8 => l.length ≤ maxLen) x.fId ∧ (fun n : Int => (Lit.int .i64 n).wf = true) x.fTime ∧ (fun n : Int => (Lit.int .i64 n).wf = true) x.fLength ∧ (fun l : List UInt8 => l.length ≤ maxLen) x.fTarget ∧ (fun n : Int => (Lit.int .i64 n).wf = true) x.fAction ∧ (fun n : Int => (Lit.int .i64 n).wf = true) x.fValue
def okLine (x : TLine) : Prop := (fun n : Int => (Lit.int .i64 n).wf = true) x.fKind ∧ (fun l : List UInt8 => l.length ≤ maxLen) x.fName ∧ (fun n : Int => (Lit.int .i64 n).wf = true) x.fValue
def okMedia (x : TMedia) : Prop := (fun l : List UInt8 => l.length ≤ maxLen) x.fName ∧ (fun n : Int => (Lit.int .i64 n).wf = true) x.fSize
def okNeed (x : TNeed) : Prop := (fun l : List UInt8 => l.length ≤ maxLen) x.fName ∧ (fun n : Int => (Lit.int .i64 n).wf = true) x.fTime
def okHouse (x : THouse) : Prop := okDome x.fDome ∧ (fun l : List (TProjector) => ∀ x ∈ l, okProjector x) x.fProjectors ∧ (fun n : Int => (Lit.int .i64 n).wf = true) x.fStep ∧ (fun l : List (TRing) => ∀ x ∈ l, okRing x) x.fRings ∧ (fun l : List (Int) => ∀ x ∈ l, (fun n : Int => (Lit.int .i64 n).wf = true) x) x.fBooked ∧ (fun n : Int => (Lit.int .i64 n).wf = true) x.fLeast ∧ (fun l : List (TFixture) => ∀ x ∈ l, okFixture x) x.fFixtures ∧ (fun l : List (TCue) => ∀ x ∈ l, okCue x) x.fCues ∧ (fun l : List (TLine) => ∀ x ∈ l, okLine x) x.fScript ∧ (fun n : Int => (Lit.int .i64 n).wf = true) x.fBudget ∧ (fun l : List (TMedia) => ∀ x ∈ l, okMedia x) x.fMedia ∧ (fun l : List (TNeed) => ∀ x ∈ l, okNeed x) x.fNeeds ∧ (fun n : Int => (Lit.int .i64 n).wf = true) x.fBandwidth
end Go.Eng
