/-
  No cell of these rows narrows 'for every input' (looked for: loops, veiled, ifaces, maps, wideKeys, modest, calm, conditions, laid).
  DERIVED. THE GIVEN ROWS OF THIS SEAT. 4 by the template 'for every input the law returns true; each argument reads behind the call as it read before'; 0 by the template 'total and deterministic' (their statements: YtikdfigokjhdgaaTotals.lean).
  GIVEN WITH THE SEED: the statements are not yours to turn. If you find one false, say at which input.
  Laid BY PROGRAM, IN A SANDBOX (cutbox-rows.mjs): the forced cells as the released guide's own fill.sh prints them over the translation 69b597d542482369… (all of the seat's roots in one cut). By AI agents, Wed Nov 11 2026. No macro, syntax, notation, axiom, sorry.
-/
import Derived.Test.YtikdfigokjhdgaaChecked
import GoSem.Claim
import GoSem.ClaimJoined
import GoSem.ClaimMapViews
import Derived.JoinedTies
import Derived.KernelRfl
namespace Go.Proofs.Ytikdfigokjhdgaa
/- THE CELL 'sum', in the pinned program and in every row, IS THE sha256 OF THE DUMP (.gsa) THAT YtikdfigokjhdgaaProg.lean LOADS. Nothing in Lean hashes anything: it is a label: what it is worth is what the hold of that sum in a sandbox is worth. -/
noncomputable def Try.pinned : Pinned := { name := "ytikdfigokjhdgaa", sum := "69b597d54248236908e3c0fd745cdf9d6bf014d18f5ae3e3f61af4c45e569d82", checked := Try.checked }
namespace Rows
def none {H : Type} : Left H := { results := [], args := [] }

/-- 'laws.FnExactSameNotes': WHATEVER THE INPUT: true; the input reads as it did. -/
def fnExactSameNotesSpec : ChangeSpec := { name := "fnExactSameNotes", fn := fun _ => fun
  | [d1, d2] => { results := [.lit (.bool true)], args := [d1, d2] }
  | _ => none }
def fnExactSameNotesRow : OpenClaim := { program := "ytikdfigokjhdgaa", sum := "69b597d54248236908e3c0fd745cdf9d6bf014d18f5ae3e3f61af4c45e569d82", func := "loop.example/g00955/laws.FnExactSameNotes", spec := "fnExactSameNotes", apart := false }
def FnExactSameNotesSaid : Prop := fnExactSameNotesRow.holds Try.pinned (OpenSpec.ofChange fnExactSameNotesSpec)

/-- ITS FALSE NEIGHBOUR: 'it returns false'. Refute it at one input. -/
def fnExactSameNotesWrong : ChangeSpec := { name := "fnExactSameNotes", fn := fun _ => fun
  | [d1, d2] => { results := [.lit (.bool false)], args := [d1, d2] }
  | _ => none }
def FnExactSameNotesWrongFalsely : Prop := fnExactSameNotesRow.holds Try.pinned (OpenSpec.ofChange fnExactSameNotesWrong)

/-- 'laws.FnExactSameBlocks': WHATEVER THE INPUT: true; the input reads as it did. -/
def fnExactSameBlocksSpec : ChangeSpec := { name := "fnExactSameBlocks", fn := fun _ => fun
  | [d1, d2] => { results := [.lit (.bool true)], args := [d1, d2] }
  | _ => none }
def fnExactSameBlocksRow : OpenClaim := { program := "ytikdfigokjhdgaa", sum := "69b597d54248236908e3c0fd745cdf9d6bf014d18f5ae3e3f61af4c45e569d82", func := "loop.example/g00955/laws.FnExactSameBlocks", spec := "fnExactSameBlocks", apart := false }
def FnExactSameBlocksSaid : Prop := fnExactSameBlocksRow.holds Try.pinned (OpenSpec.ofChange fnExactSameBlocksSpec)

/-- ITS FALSE NEIGHBOUR: 'it returns false'. Refute it at one input. -/
def fnExactSameBlocksWrong : ChangeSpec := { name := "fnExactSameBlocks", fn := fun _ => fun
  | [d1, d2] => { results := [.lit (.bool false)], args := [d1, d2] }
  | _ => none }
def FnExactSameBlocksWrongFalsely : Prop := fnExactSameBlocksRow.holds Try.pinned (OpenSpec.ofChange fnExactSameBlocksWrong)

/-- 'laws.FnExactCountFindings': WHATEVER THE INPUT: true; the input reads as it did. -/
def fnExactCountFindingsSpec : ChangeSpec := { name := "fnExactCountFindings", fn := fun _ => fun
  | [d] => { results := [.lit (.bool true)], args := [d] }
  | _ => none }
def fnExactCountFindingsRow : OpenClaim := { program := "ytikdfigokjhdgaa", sum := "69b597d54248236908e3c0fd745cdf9d6bf014d18f5ae3e3f61af4c45e569d82", func := "loop.example/g00955/laws.FnExactCountFindings", spec := "fnExactCountFindings", apart := false }
def FnExactCountFindingsSaid : Prop := fnExactCountFindingsRow.holds Try.pinned (OpenSpec.ofChange fnExactCountFindingsSpec)

/-- ITS FALSE NEIGHBOUR: 'it returns false'. Refute it at one input. -/
def fnExactCountFindingsWrong : ChangeSpec := { name := "fnExactCountFindings", fn := fun _ => fun
  | [d] => { results := [.lit (.bool false)], args := [d] }
  | _ => none }
def FnExactCountFindingsWrongFalsely : Prop := fnExactCountFindingsRow.holds Try.pinned (OpenSpec.ofChange fnExactCountFindingsWrong)

/-- 'laws.FnExactValidBlock': WHATEVER THE INPUT: true; the input reads as it did. -/
def fnExactValidBlockSpec : ChangeSpec := { name := "fnExactValidBlock", fn := fun _ => fun
  | [d] => { results := [.lit (.bool true)], args := [d] }
  | _ => none }
def fnExactValidBlockRow : OpenClaim := { program := "ytikdfigokjhdgaa", sum := "69b597d54248236908e3c0fd745cdf9d6bf014d18f5ae3e3f61af4c45e569d82", func := "loop.example/g00955/laws.FnExactValidBlock", spec := "fnExactValidBlock", inPlace := ["internal/bytealg.IndexByteString", "internal/bytealg.IndexString"], named := ["internal/bytealg.MaxLen"], apart := false }
def FnExactValidBlockSaid : Prop := fnExactValidBlockRow.holds Try.pinned (OpenSpec.ofChange fnExactValidBlockSpec)

/-- ITS FALSE NEIGHBOUR: 'it returns false'. Refute it at one input. -/
def fnExactValidBlockWrong : ChangeSpec := { name := "fnExactValidBlock", fn := fun _ => fun
  | [d] => { results := [.lit (.bool false)], args := [d] }
  | _ => none }
def FnExactValidBlockWrongFalsely : Prop := fnExactValidBlockRow.holds Try.pinned (OpenSpec.ofChange fnExactValidBlockWrong)

/- THE SECOND FORM. 'bulk': how many values and letters a reading holds, each counted each time it is reached (what is shared counts as often as it is met; a slice's spare places count too). A statement '..UptoSaid' is the law's where the arguments, and the package variables that the reading takes, are together of bulk at most 1048576: NARROWER than '..Said'. Prove '..Said' where nothing that the law and all that it calls make is longer than what came in: it says more and counts as full. Else prove '..UptoSaid'. A law counts once. -/
mutual
def uptoBulk {H : Type} : DataW H → Nat
  | .lit (.string bytes) => bytes.length + 1
  | .lit _ => 1
  | .nil => 1
  | .ptr d => uptoBulk d + 1
  | .slice elems spare => uptoBulkAll elems + uptoBulkAll spare + 1
  | .agg parts => uptoBulkAll parts + 1
  | .iface _ d => uptoBulk d + 1
  | .map entries => uptoBulkEntries entries + 1
  | .held _ => 1
def uptoBulkAll {H : Type} : List (DataW H) → Nat
  | [] => 0
  | d :: r => uptoBulk d + uptoBulkAll r
def uptoBulkEntries {H : Type} : List (Lit × DataW H) → Nat
  | [] => 0
  | x :: r => uptoBulkEntry x + uptoBulkEntries r
def uptoBulkEntry {H : Type} : Lit × DataW H → Nat
  | (.string bytes, d) => bytes.length + uptoBulk d + 1
  | (_, d) => uptoBulk d + 1
 end
def uptoSmall : (H : Type) → List (DataW H) → Bool := fun _ ds => decide (uptoBulkAll ds ≤ 1048576)
def OpenSpec.upto (s : _root_.Go.ChangeSpec) : _root_.Go.OpenSpec := { _root_.Go.OpenSpec.ofChange s with cond := some uptoSmall }

/-- 'laws.FnExactSameNotes', WHERE WHAT IT READS IS OF BULK AT MOST 1048576: true; the input reads as it did. -/
def fnExactSameNotesUptoRow : OpenClaim := { program := "ytikdfigokjhdgaa", sum := "69b597d54248236908e3c0fd745cdf9d6bf014d18f5ae3e3f61af4c45e569d82", func := "loop.example/g00955/laws.FnExactSameNotes", spec := "fnExactSameNotes", apart := false, narrowed := true }
def FnExactSameNotesUptoSaid : Prop := fnExactSameNotesUptoRow.holds Try.pinned (OpenSpec.upto fnExactSameNotesSpec)

/-- 'laws.FnExactSameBlocks', WHERE WHAT IT READS IS OF BULK AT MOST 1048576: true; the input reads as it did. -/
def fnExactSameBlocksUptoRow : OpenClaim := { program := "ytikdfigokjhdgaa", sum := "69b597d54248236908e3c0fd745cdf9d6bf014d18f5ae3e3f61af4c45e569d82", func := "loop.example/g00955/laws.FnExactSameBlocks", spec := "fnExactSameBlocks", apart := false, narrowed := true }
def FnExactSameBlocksUptoSaid : Prop := fnExactSameBlocksUptoRow.holds Try.pinned (OpenSpec.upto fnExactSameBlocksSpec)

/-- 'laws.FnExactCountFindings', WHERE WHAT IT READS IS OF BULK AT MOST 1048576: true; the input reads as it did. -/
def fnExactCountFindingsUptoRow : OpenClaim := { program := "ytikdfigokjhdgaa", sum := "69b597d54248236908e3c0fd745cdf9d6bf014d18f5ae3e3f61af4c45e569d82", func := "loop.example/g00955/laws.FnExactCountFindings", spec := "fnExactCountFindings", apart := false, narrowed := true }
def FnExactCountFindingsUptoSaid : Prop := fnExactCountFindingsUptoRow.holds Try.pinned (OpenSpec.upto fnExactCountFindingsSpec)

/-- 'laws.FnExactValidBlock', WHERE WHAT IT READS IS OF BULK AT MOST 1048576: true; the input reads as it did. -/
def fnExactValidBlockUptoRow : OpenClaim := { program := "ytikdfigokjhdgaa", sum := "69b597d54248236908e3c0fd745cdf9d6bf014d18f5ae3e3f61af4c45e569d82", func := "loop.example/g00955/laws.FnExactValidBlock", spec := "fnExactValidBlock", inPlace := ["internal/bytealg.IndexByteString", "internal/bytealg.IndexString"], named := ["internal/bytealg.MaxLen"], apart := false, narrowed := true }
def FnExactValidBlockUptoSaid : Prop := fnExactValidBlockUptoRow.holds Try.pinned (OpenSpec.upto fnExactValidBlockSpec)

end Rows
end Go.Proofs.Ytikdfigokjhdgaa
