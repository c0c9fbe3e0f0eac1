/-
  DERIVED. GIVEN WITH THE SEED: THE CARDS: each row of YthhmhmbdfahkjaaDoorRows.lean that lists a variable, with what it lists TIED to the program's text (the seventh form; the later family's looks); each row that meets fmt, with fmt's text TOLD by the authors' own Lean function (tested against real Go, not proved from fmt's source: count such statements apart). THE CARD IS WHAT COUNTS. Prove the row's statement (the work); the ties are given (YthhmhmbdfahkjaaDoorTie.lean); close each card by the builder's one call (the guide's Derived/Test/ToyasCard.lean, 'card_holds'). Laid BY PROGRAM, IN A SANDBOX (cutbox-door.mjs). By AI agents, Wed Nov 11 2026. No macro, syntax, notation, axiom, sorry.
-/
import Derived.Test.YthhmhmbdfahkjaaDoorRows
import GoSem.ClaimSeven
namespace Go.Proofs.YthhmhmbdfahkjaaDoor
namespace Rows

/-- THE TIED CARD OF 'laws.FnExactMarkError'. -/
def fnExactMarkErrorCard : Claim7 := { stood := { row := fnExactMarkErrorRow, standIns := [], harness := (true, "b4232ea3f0f6cacbbea5d18fb5c15393d547139fb61898e3b13f93dcebb13987"), looks := false }, kinds := [], alts := [], laidByText := true, laidKinds := [.data], laidTests := true, laidLooks := .later }
def FnExactMarkErrorCardSaid : Prop := Claim7.holds Tryd.pinned (.plain (OpenSpec.ofChange fnExactMarkErrorSpec)) fnExactMarkErrorCard

/-- THE TIED CARD OF 'laws.FnExactMeanError'. -/
def fnExactMeanErrorCard : Claim7 := { stood := { row := fnExactMeanErrorRow, standIns := [], harness := (true, "b4232ea3f0f6cacbbea5d18fb5c15393d547139fb61898e3b13f93dcebb13987"), looks := false }, kinds := [], alts := [], laidByText := true, laidKinds := [.data], laidTests := true, laidLooks := .later }
def FnExactMeanErrorCardSaid : Prop := Claim7.holds Tryd.pinned (.plain (OpenSpec.ofChange fnExactMeanErrorSpec)) fnExactMeanErrorCard

/-- THE TIED CARD OF 'laws.FnExactWorstMark'. -/
def fnExactWorstMarkCard : Claim7 := { stood := { row := fnExactWorstMarkRow, standIns := [], harness := (true, "b4232ea3f0f6cacbbea5d18fb5c15393d547139fb61898e3b13f93dcebb13987"), looks := false }, kinds := [], alts := [], laidByText := true, laidKinds := [.data], laidTests := true, laidLooks := .later }
def FnExactWorstMarkCardSaid : Prop := Claim7.holds Tryd.pinned (.plain (OpenSpec.ofChange fnExactWorstMarkSpec)) fnExactWorstMarkCard

/-- THE TIED CARD OF 'laws.FnExactBlocksOfStars'. -/
def fnExactBlocksOfStarsCard : Claim7 := { stood := { row := fnExactBlocksOfStarsRow, standIns := [], harness := (true, "b4232ea3f0f6cacbbea5d18fb5c15393d547139fb61898e3b13f93dcebb13987"), looks := false }, kinds := [], alts := [], laidByText := true, laidKinds := [.data, .data, .data], laidTests := true, laidLooks := .later }
def FnExactBlocksOfStarsCardSaid : Prop := Claim7.holds Tryd.pinned (.plain (OpenSpec.ofChange fnExactBlocksOfStarsSpec)) fnExactBlocksOfStarsCard

/-- THE SECOND FORM's CARD OF 'laws.FnExactMarkError'. -/
def fnExactMarkErrorUptoCard : Claim7 := { stood := { row := fnExactMarkErrorUptoRow, standIns := [], harness := (true, "b4232ea3f0f6cacbbea5d18fb5c15393d547139fb61898e3b13f93dcebb13987"), looks := false }, kinds := [], alts := [], laidByText := true, laidKinds := [.data], laidTests := true, laidLooks := .later }
def FnExactMarkErrorUptoCardSaid : Prop := Claim7.holds Tryd.pinned (.plain (OpenSpec.upto fnExactMarkErrorSpec)) fnExactMarkErrorUptoCard

/-- THE SECOND FORM's CARD OF 'laws.FnExactMeanError'. -/
def fnExactMeanErrorUptoCard : Claim7 := { stood := { row := fnExactMeanErrorUptoRow, standIns := [], harness := (true, "b4232ea3f0f6cacbbea5d18fb5c15393d547139fb61898e3b13f93dcebb13987"), looks := false }, kinds := [], alts := [], laidByText := true, laidKinds := [.data], laidTests := true, laidLooks := .later }
def FnExactMeanErrorUptoCardSaid : Prop := Claim7.holds Tryd.pinned (.plain (OpenSpec.upto fnExactMeanErrorSpec)) fnExactMeanErrorUptoCard

/-- THE SECOND FORM's CARD OF 'laws.FnExactWorstMark'. -/
def fnExactWorstMarkUptoCard : Claim7 := { stood := { row := fnExactWorstMarkUptoRow, standIns := [], harness := (true, "b4232ea3f0f6cacbbea5d18fb5c15393d547139fb61898e3b13f93dcebb13987"), looks := false }, kinds := [], alts := [], laidByText := true, laidKinds := [.data], laidTests := true, laidLooks := .later }
def FnExactWorstMarkUptoCardSaid : Prop := Claim7.holds Tryd.pinned (.plain (OpenSpec.upto fnExactWorstMarkSpec)) fnExactWorstMarkUptoCard

/-- THE SECOND FORM's CARD OF 'laws.FnExactBlocksOfStars'. -/
def fnExactBlocksOfStarsUptoCard : Claim7 := { stood := { row := fnExactBlocksOfStarsUptoRow, standIns := [], harness := (true, "b4232ea3f0f6cacbbea5d18fb5c15393d547139fb61898e3b13f93dcebb13987"), looks := false }, kinds := [], alts := [], laidByText := true, laidKinds := [.data, .data, .data], laidTests := true, laidLooks := .later }
def FnExactBlocksOfStarsUptoCardSaid : Prop := Claim7.holds Tryd.pinned (.plain (OpenSpec.upto fnExactBlocksOfStarsSpec)) fnExactBlocksOfStarsUptoCard
end Rows
end Go.Proofs.YthhmhmbdfahkjaaDoor
