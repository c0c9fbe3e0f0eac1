/-
  DERIVED. GIVEN WITH THE SEED: THE CARDS: each row of YtikdfigokjhdgaaDoorRows.lean that lists a variable, with what it lists TIED to the program's text (the seventh form; the later family's looks); each row that meets fmt, with fmt's text TOLD by the authors' own Lean function (tested against real Go, not proved from fmt's source: count such statements apart). THE CARD IS WHAT COUNTS. Prove the row's statement (the work); the ties are given (YtikdfigokjhdgaaDoorTie.lean); close each card by the builder's one call (the guide's Derived/Test/ToyasCard.lean, 'card_holds'). Laid BY PROGRAM, IN A SANDBOX (cutbox-door.mjs). By AI agents, Wed Nov 11 2026. No macro, syntax, notation, axiom, sorry.
-/
import Derived.Test.YtikdfigokjhdgaaDoorRows
import GoSem.ClaimSeven
namespace Go.Proofs.YtikdfigokjhdgaaDoor
namespace Rows

/-- THE TIED CARD OF 'laws.FnExactFindingName'. -/
def fnExactFindingNameCard : Claim7 := { stood := { row := fnExactFindingNameRow, standIns := [], harness := (true, "acba111cda7277b4108ad45fef526fbaad9b5c1f96e391a3eac36328a4adee34"), looks := false }, kinds := [], alts := [], laidByText := true, laidKinds := [.data], laidTests := true, laidLooks := .later }
def FnExactFindingNameCardSaid : Prop := Claim7.holds Tryd.pinned (.plain (OpenSpec.ofChange fnExactFindingNameSpec)) fnExactFindingNameCard

/-- THE TIED CARD OF 'laws.FnExactFindingText'. -/
def fnExactFindingTextCard : Claim7 := { stood := { row := fnExactFindingTextRow, standIns := [], harness := (true, "acba111cda7277b4108ad45fef526fbaad9b5c1f96e391a3eac36328a4adee34"), looks := false }, kinds := [], alts := [], laidByText := true, laidKinds := [.data], laidTests := true, laidLooks := .later }
def FnExactFindingTextCardSaid : Prop := Claim7.holds Tryd.pinned (.plain (OpenSpec.ofChange fnExactFindingTextSpec)) fnExactFindingTextCard

/-- THE TIED CARD OF 'laws.FnExactCommandNames'. -/
def fnExactCommandNamesCard : Claim7 := { stood := { row := fnExactCommandNamesRow, standIns := [], harness := (true, "acba111cda7277b4108ad45fef526fbaad9b5c1f96e391a3eac36328a4adee34"), looks := false }, kinds := [], alts := [], laidByText := true, laidKinds := [.listed, .data], laidTests := true, laidLooks := .later }
def FnExactCommandNamesCardSaid : Prop := Claim7.holds Tryd.pinned (.plain (OpenSpec.ofChange fnExactCommandNamesSpec)) fnExactCommandNamesCard

/-- THE SECOND FORM's CARD OF 'laws.FnExactFindingName'. -/
def fnExactFindingNameUptoCard : Claim7 := { stood := { row := fnExactFindingNameUptoRow, standIns := [], harness := (true, "acba111cda7277b4108ad45fef526fbaad9b5c1f96e391a3eac36328a4adee34"), looks := false }, kinds := [], alts := [], laidByText := true, laidKinds := [.data], laidTests := true, laidLooks := .later }
def FnExactFindingNameUptoCardSaid : Prop := Claim7.holds Tryd.pinned (.plain (OpenSpec.upto fnExactFindingNameSpec)) fnExactFindingNameUptoCard

/-- THE SECOND FORM's CARD OF 'laws.FnExactFindingText'. -/
def fnExactFindingTextUptoCard : Claim7 := { stood := { row := fnExactFindingTextUptoRow, standIns := [], harness := (true, "acba111cda7277b4108ad45fef526fbaad9b5c1f96e391a3eac36328a4adee34"), looks := false }, kinds := [], alts := [], laidByText := true, laidKinds := [.data], laidTests := true, laidLooks := .later }
def FnExactFindingTextUptoCardSaid : Prop := Claim7.holds Tryd.pinned (.plain (OpenSpec.upto fnExactFindingTextSpec)) fnExactFindingTextUptoCard

/-- THE SECOND FORM's CARD OF 'laws.FnExactCommandNames'. -/
def fnExactCommandNamesUptoCard : Claim7 := { stood := { row := fnExactCommandNamesUptoRow, standIns := [], harness := (true, "acba111cda7277b4108ad45fef526fbaad9b5c1f96e391a3eac36328a4adee34"), looks := false }, kinds := [], alts := [], laidByText := true, laidKinds := [.listed, .data], laidTests := true, laidLooks := .later }
def FnExactCommandNamesUptoCardSaid : Prop := Claim7.holds Tryd.pinned (.plain (OpenSpec.upto fnExactCommandNamesSpec)) fnExactCommandNamesUptoCard
end Rows
end Go.Proofs.YtikdfigokjhdgaaDoor
