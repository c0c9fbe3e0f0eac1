/-
  No cell of these rows narrows 'for every input' (looked for: loops, veiled, ifaces, maps, wideKeys, modest, calm, conditions, laid).
  DERIVED. THE GIVEN ROWS OF THIS SEAT. 9 by the template 'for every input the law returns true; each argument reads behind the call as it read before'; 0 by the template 'total and deterministic' (their statements: YthhmhmbdfahkjaaTotals.lean).
  GIVEN WITH THE SEED: the statements are not yours to turn. If you find one false, say at which input.
  Laid BY PROGRAM, IN A SANDBOX (cutbox-rows.mjs): the forced cells as the released guide's own fill.sh prints them over the translation 36d3b87349cd9219… (all of the seat's roots in one cut). By AI agents, Wed Nov 11 2026. No macro, syntax, notation, axiom, sorry.
-/
import Derived.Test.YthhmhmbdfahkjaaChecked
import GoSem.Claim
import GoSem.ClaimJoined
import GoSem.ClaimMapViews
import Derived.JoinedTies
import Derived.KernelRfl
namespace Go.Proofs.Ythhmhmbdfahkjaa
/- THE CELL 'sum', in the pinned program and in every row, IS THE sha256 OF THE DUMP (.gsa) THAT YthhmhmbdfahkjaaProg.lean LOADS. Nothing in Lean hashes anything: it is a label: what it is worth is what the hold of that sum in a sandbox is worth. -/
noncomputable def Try.pinned : Pinned := { name := "ythhmhmbdfahkjaa", sum := "36d3b87349cd9219feb820ad092be960379a7441817b5e47b3df9d8fa52759d0", checked := Try.checked }
namespace Rows
def none {H : Type} : Left H := { results := [], args := [] }

/-- 'laws.FnExactValidBlocks': WHATEVER THE INPUT: true; the input reads as it did. -/
def fnExactValidBlocksSpec : ChangeSpec := { name := "fnExactValidBlocks", fn := fun _ => fun
  | [d] => { results := [.lit (.bool true)], args := [d] }
  | _ => none }
def fnExactValidBlocksRow : OpenClaim := { program := "ythhmhmbdfahkjaa", sum := "36d3b87349cd9219feb820ad092be960379a7441817b5e47b3df9d8fa52759d0", func := "loop.example/g00955/laws.FnExactValidBlocks", spec := "fnExactValidBlocks", inPlace := ["internal/bytealg.IndexByteString", "internal/bytealg.IndexString", "internal/bytealg.abigen_runtime_cmpstring"], named := ["internal/bytealg.MaxLen"], apart := false }
def FnExactValidBlocksSaid : Prop := fnExactValidBlocksRow.holds Try.pinned (OpenSpec.ofChange fnExactValidBlocksSpec)

/-- ITS FALSE NEIGHBOUR: 'it returns false'. Refute it at one input. -/
def fnExactValidBlocksWrong : ChangeSpec := { name := "fnExactValidBlocks", fn := fun _ => fun
  | [d] => { results := [.lit (.bool false)], args := [d] }
  | _ => none }
def FnExactValidBlocksWrongFalsely : Prop := fnExactValidBlocksRow.holds Try.pinned (OpenSpec.ofChange fnExactValidBlocksWrong)

/-- 'laws.FnExactBlockNamed': WHATEVER THE INPUT: true; the input reads as it did. -/
def fnExactBlockNamedSpec : ChangeSpec := { name := "fnExactBlockNamed", fn := fun _ => fun
  | [d1, d2, d3] => { results := [.lit (.bool true)], args := [d1, d2, d3] }
  | _ => none }
def fnExactBlockNamedRow : OpenClaim := { program := "ythhmhmbdfahkjaa", sum := "36d3b87349cd9219feb820ad092be960379a7441817b5e47b3df9d8fa52759d0", func := "loop.example/g00955/laws.FnExactBlockNamed", spec := "fnExactBlockNamed", inPlace := ["internal/bytealg.IndexByteString", "internal/bytealg.IndexString", "internal/bytealg.abigen_runtime_cmpstring"], unfollowed := true, recurses := true, named := ["internal/bytealg.MaxLen"], apart := false }
def FnExactBlockNamedSaid : Prop := fnExactBlockNamedRow.holds Try.pinned (OpenSpec.ofChange fnExactBlockNamedSpec)

/-- ITS FALSE NEIGHBOUR: 'it returns false'. Refute it at one input. -/
def fnExactBlockNamedWrong : ChangeSpec := { name := "fnExactBlockNamed", fn := fun _ => fun
  | [d1, d2, d3] => { results := [.lit (.bool false)], args := [d1, d2, d3] }
  | _ => none }
def FnExactBlockNamedWrongFalsely : Prop := fnExactBlockNamedRow.holds Try.pinned (OpenSpec.ofChange fnExactBlockNamedWrong)

/-- 'laws.FnExactBlocksOfKind': WHATEVER THE INPUT: true; the input reads as it did. -/
def fnExactBlocksOfKindSpec : ChangeSpec := { name := "fnExactBlocksOfKind", fn := fun _ => fun
  | [d1, d2] => { results := [.lit (.bool true)], args := [d1, d2] }
  | _ => none }
def fnExactBlocksOfKindRow : OpenClaim := { program := "ythhmhmbdfahkjaa", sum := "36d3b87349cd9219feb820ad092be960379a7441817b5e47b3df9d8fa52759d0", func := "loop.example/g00955/laws.FnExactBlocksOfKind", spec := "fnExactBlocksOfKind", inPlace := ["internal/bytealg.IndexByteString", "internal/bytealg.IndexString", "internal/bytealg.abigen_runtime_cmpstring"], named := ["internal/bytealg.MaxLen"], apart := false }
def FnExactBlocksOfKindSaid : Prop := fnExactBlocksOfKindRow.holds Try.pinned (OpenSpec.ofChange fnExactBlocksOfKindSpec)

/-- ITS FALSE NEIGHBOUR: 'it returns false'. Refute it at one input. -/
def fnExactBlocksOfKindWrong : ChangeSpec := { name := "fnExactBlocksOfKind", fn := fun _ => fun
  | [d1, d2] => { results := [.lit (.bool false)], args := [d1, d2] }
  | _ => none }
def FnExactBlocksOfKindWrongFalsely : Prop := fnExactBlocksOfKindRow.holds Try.pinned (OpenSpec.ofChange fnExactBlocksOfKindWrong)

/-- 'laws.FnExactMissesOf': WHATEVER THE INPUT: true; the input reads as it did. -/
def fnExactMissesOfSpec : ChangeSpec := { name := "fnExactMissesOf", fn := fun _ => fun
  | [d1, d2, d3, d4] => { results := [.lit (.bool true)], args := [d1, d2, d3, d4] }
  | _ => none }
def fnExactMissesOfRow : OpenClaim := { program := "ythhmhmbdfahkjaa", sum := "36d3b87349cd9219feb820ad092be960379a7441817b5e47b3df9d8fa52759d0", func := "loop.example/g00955/laws.FnExactMissesOf", spec := "fnExactMissesOf", apart := false }
def FnExactMissesOfSaid : Prop := fnExactMissesOfRow.holds Try.pinned (OpenSpec.ofChange fnExactMissesOfSpec)

/-- ITS FALSE NEIGHBOUR: 'it returns false'. Refute it at one input. -/
def fnExactMissesOfWrong : ChangeSpec := { name := "fnExactMissesOf", fn := fun _ => fun
  | [d1, d2, d3, d4] => { results := [.lit (.bool false)], args := [d1, d2, d3, d4] }
  | _ => none }
def FnExactMissesOfWrongFalsely : Prop := fnExactMissesOfRow.holds Try.pinned (OpenSpec.ofChange fnExactMissesOfWrong)

/-- 'laws.FnExactBestPolicy': WHATEVER THE INPUT: true; the input reads as it did. -/
def fnExactBestPolicySpec : ChangeSpec := { name := "fnExactBestPolicy", fn := fun _ => fun
  | [d1, d2, d3] => { results := [.lit (.bool true)], args := [d1, d2, d3] }
  | _ => none }
def fnExactBestPolicyRow : OpenClaim := { program := "ythhmhmbdfahkjaa", sum := "36d3b87349cd9219feb820ad092be960379a7441817b5e47b3df9d8fa52759d0", func := "loop.example/g00955/laws.FnExactBestPolicy", spec := "fnExactBestPolicy", apart := false }
def FnExactBestPolicySaid : Prop := fnExactBestPolicyRow.holds Try.pinned (OpenSpec.ofChange fnExactBestPolicySpec)

/-- ITS FALSE NEIGHBOUR: 'it returns false'. Refute it at one input. -/
def fnExactBestPolicyWrong : ChangeSpec := { name := "fnExactBestPolicy", fn := fun _ => fun
  | [d1, d2, d3] => { results := [.lit (.bool false)], args := [d1, d2, d3] }
  | _ => none }
def FnExactBestPolicyWrongFalsely : Prop := fnExactBestPolicyRow.holds Try.pinned (OpenSpec.ofChange fnExactBestPolicyWrong)

/-- 'laws.FnExactDropBlock': WHATEVER THE INPUT: true; the input reads as it did. -/
def fnExactDropBlockSpec : ChangeSpec := { name := "fnExactDropBlock", fn := fun _ => fun
  | [d1, d2, d3] => { results := [.lit (.bool true)], args := [d1, d2, d3] }
  | _ => none }
def fnExactDropBlockRow : OpenClaim := { program := "ythhmhmbdfahkjaa", sum := "36d3b87349cd9219feb820ad092be960379a7441817b5e47b3df9d8fa52759d0", func := "loop.example/g00955/laws.FnExactDropBlock", spec := "fnExactDropBlock", inPlace := ["internal/bytealg.IndexByteString", "internal/bytealg.IndexString", "internal/bytealg.abigen_runtime_cmpstring"], unfollowed := true, recurses := true, named := ["internal/bytealg.MaxLen"], apart := false }
def FnExactDropBlockSaid : Prop := fnExactDropBlockRow.holds Try.pinned (OpenSpec.ofChange fnExactDropBlockSpec)

/-- ITS FALSE NEIGHBOUR: 'it returns false'. Refute it at one input. -/
def fnExactDropBlockWrong : ChangeSpec := { name := "fnExactDropBlock", fn := fun _ => fun
  | [d1, d2, d3] => { results := [.lit (.bool false)], args := [d1, d2, d3] }
  | _ => none }
def FnExactDropBlockWrongFalsely : Prop := fnExactDropBlockRow.holds Try.pinned (OpenSpec.ofChange fnExactDropBlockWrong)

/-- 'laws.FnExactCacheAfter': WHATEVER THE INPUT: true; the input reads as it did. -/
def fnExactCacheAfterSpec : ChangeSpec := { name := "fnExactCacheAfter", fn := fun _ => fun
  | [d1, d2, d3, d4] => { results := [.lit (.bool true)], args := [d1, d2, d3, d4] }
  | _ => none }
def fnExactCacheAfterRow : OpenClaim := { program := "ythhmhmbdfahkjaa", sum := "36d3b87349cd9219feb820ad092be960379a7441817b5e47b3df9d8fa52759d0", func := "loop.example/g00955/laws.FnExactCacheAfter", spec := "fnExactCacheAfter", apart := false }
def FnExactCacheAfterSaid : Prop := fnExactCacheAfterRow.holds Try.pinned (OpenSpec.ofChange fnExactCacheAfterSpec)

/-- ITS FALSE NEIGHBOUR: 'it returns false'. Refute it at one input. -/
def fnExactCacheAfterWrong : ChangeSpec := { name := "fnExactCacheAfter", fn := fun _ => fun
  | [d1, d2, d3, d4] => { results := [.lit (.bool false)], args := [d1, d2, d3, d4] }
  | _ => none }
def FnExactCacheAfterWrongFalsely : Prop := fnExactCacheAfterRow.holds Try.pinned (OpenSpec.ofChange fnExactCacheAfterWrong)

/-- 'laws.FnExactPutBlock': WHATEVER THE INPUT: true; the input reads as it did. -/
def fnExactPutBlockSpec : ChangeSpec := { name := "fnExactPutBlock", fn := fun _ => fun
  | [d1, d2] => { results := [.lit (.bool true)], args := [d1, d2] }
  | _ => none }
def fnExactPutBlockRow : OpenClaim := { program := "ythhmhmbdfahkjaa", sum := "36d3b87349cd9219feb820ad092be960379a7441817b5e47b3df9d8fa52759d0", func := "loop.example/g00955/laws.FnExactPutBlock", spec := "fnExactPutBlock", inPlace := ["internal/bytealg.IndexByteString", "internal/bytealg.IndexString", "internal/bytealg.abigen_runtime_cmpstring", "slices.overlaps[loop.example/g00955/impl.Block]"], unfollowed := true, recurses := true, named := ["internal/bytealg.MaxLen"], apart := false }
def FnExactPutBlockSaid : Prop := fnExactPutBlockRow.holds Try.pinned (OpenSpec.ofChange fnExactPutBlockSpec)

/-- ITS FALSE NEIGHBOUR: 'it returns false'. Refute it at one input. -/
def fnExactPutBlockWrong : ChangeSpec := { name := "fnExactPutBlock", fn := fun _ => fun
  | [d1, d2] => { results := [.lit (.bool false)], args := [d1, d2] }
  | _ => none }
def FnExactPutBlockWrongFalsely : Prop := fnExactPutBlockRow.holds Try.pinned (OpenSpec.ofChange fnExactPutBlockWrong)

/-- 'laws.FnExactMergeBlocks': WHATEVER THE INPUT: true; the input reads as it did. -/
def fnExactMergeBlocksSpec : ChangeSpec := { name := "fnExactMergeBlocks", fn := fun _ => fun
  | [d1, d2] => { results := [.lit (.bool true)], args := [d1, d2] }
  | _ => none }
def fnExactMergeBlocksRow : OpenClaim := { program := "ythhmhmbdfahkjaa", sum := "36d3b87349cd9219feb820ad092be960379a7441817b5e47b3df9d8fa52759d0", func := "loop.example/g00955/laws.FnExactMergeBlocks", spec := "fnExactMergeBlocks", inPlace := ["internal/bytealg.IndexByteString", "internal/bytealg.IndexString", "internal/bytealg.abigen_runtime_cmpstring", "slices.overlaps[loop.example/g00955/impl.Block]"], unfollowed := true, recurses := true, named := ["internal/bytealg.MaxLen"], apart := false }
def FnExactMergeBlocksSaid : Prop := fnExactMergeBlocksRow.holds Try.pinned (OpenSpec.ofChange fnExactMergeBlocksSpec)

/-- ITS FALSE NEIGHBOUR: 'it returns false'. Refute it at one input. -/
def fnExactMergeBlocksWrong : ChangeSpec := { name := "fnExactMergeBlocks", fn := fun _ => fun
  | [d1, d2] => { results := [.lit (.bool false)], args := [d1, d2] }
  | _ => none }
def FnExactMergeBlocksWrongFalsely : Prop := fnExactMergeBlocksRow.holds Try.pinned (OpenSpec.ofChange fnExactMergeBlocksWrong)

/- THE SECOND FORM. 'bulk': how many values and letters a reading holds, each counted each time it is reached (what is shared counts as often as it is met; a slice's spare places count too). A statement '..UptoSaid' is the law's where the arguments, and the package variables that the reading takes, are together of bulk at most 1048576: NARROWER than '..Said'. Prove '..Said' where nothing that the law and all that it calls make is longer than what came in: it says more and counts as full. Else prove '..UptoSaid'. A law counts once. -/
mutual
def uptoBulk {H : Type} : DataW H → Nat
  | .lit (.string bytes) => bytes.length + 1
  | .lit _ => 1
  | .nil => 1
  | .ptr d => uptoBulk d + 1
  | .slice elems spare => uptoBulkAll elems + uptoBulkAll spare + 1
  | .agg parts => uptoBulkAll parts + 1
  | .iface _ d => uptoBulk d + 1
  | .map entries => uptoBulkEntries entries + 1
  | .held _ => 1
def uptoBulkAll {H : Type} : List (DataW H) → Nat
  | [] => 0
  | d :: r => uptoBulk d + uptoBulkAll r
def uptoBulkEntries {H : Type} : List (Lit × DataW H) → Nat
  | [] => 0
  | x :: r => uptoBulkEntry x + uptoBulkEntries r
def uptoBulkEntry {H : Type} : Lit × DataW H → Nat
  | (.string bytes, d) => bytes.length + uptoBulk d + 1
  | (_, d) => uptoBulk d + 1
 end
def uptoSmall : (H : Type) → List (DataW H) → Bool := fun _ ds => decide (uptoBulkAll ds ≤ 1048576)
def OpenSpec.upto (s : _root_.Go.ChangeSpec) : _root_.Go.OpenSpec := { _root_.Go.OpenSpec.ofChange s with cond := some uptoSmall }

/-- 'laws.FnExactValidBlocks', WHERE WHAT IT READS IS OF BULK AT MOST 1048576: true; the input reads as it did. -/
def fnExactValidBlocksUptoRow : OpenClaim := { program := "ythhmhmbdfahkjaa", sum := "36d3b87349cd9219feb820ad092be960379a7441817b5e47b3df9d8fa52759d0", func := "loop.example/g00955/laws.FnExactValidBlocks", spec := "fnExactValidBlocks", inPlace := ["internal/bytealg.IndexByteString", "internal/bytealg.IndexString", "internal/bytealg.abigen_runtime_cmpstring"], named := ["internal/bytealg.MaxLen"], apart := false, narrowed := true }
def FnExactValidBlocksUptoSaid : Prop := fnExactValidBlocksUptoRow.holds Try.pinned (OpenSpec.upto fnExactValidBlocksSpec)

/-- 'laws.FnExactBlockNamed', WHERE WHAT IT READS IS OF BULK AT MOST 1048576: true; the input reads as it did. -/
def fnExactBlockNamedUptoRow : OpenClaim := { program := "ythhmhmbdfahkjaa", sum := "36d3b87349cd9219feb820ad092be960379a7441817b5e47b3df9d8fa52759d0", func := "loop.example/g00955/laws.FnExactBlockNamed", spec := "fnExactBlockNamed", inPlace := ["internal/bytealg.IndexByteString", "internal/bytealg.IndexString", "internal/bytealg.abigen_runtime_cmpstring"], unfollowed := true, recurses := true, named := ["internal/bytealg.MaxLen"], apart := false, narrowed := true }
def FnExactBlockNamedUptoSaid : Prop := fnExactBlockNamedUptoRow.holds Try.pinned (OpenSpec.upto fnExactBlockNamedSpec)

/-- 'laws.FnExactBlocksOfKind', WHERE WHAT IT READS IS OF BULK AT MOST 1048576: true; the input reads as it did. -/
def fnExactBlocksOfKindUptoRow : OpenClaim := { program := "ythhmhmbdfahkjaa", sum := "36d3b87349cd9219feb820ad092be960379a7441817b5e47b3df9d8fa52759d0", func := "loop.example/g00955/laws.FnExactBlocksOfKind", spec := "fnExactBlocksOfKind", inPlace := ["internal/bytealg.IndexByteString", "internal/bytealg.IndexString", "internal/bytealg.abigen_runtime_cmpstring"], named := ["internal/bytealg.MaxLen"], apart := false, narrowed := true }
def FnExactBlocksOfKindUptoSaid : Prop := fnExactBlocksOfKindUptoRow.holds Try.pinned (OpenSpec.upto fnExactBlocksOfKindSpec)

/-- 'laws.FnExactMissesOf', WHERE WHAT IT READS IS OF BULK AT MOST 1048576: true; the input reads as it did. -/
def fnExactMissesOfUptoRow : OpenClaim := { program := "ythhmhmbdfahkjaa", sum := "36d3b87349cd9219feb820ad092be960379a7441817b5e47b3df9d8fa52759d0", func := "loop.example/g00955/laws.FnExactMissesOf", spec := "fnExactMissesOf", apart := false, narrowed := true }
def FnExactMissesOfUptoSaid : Prop := fnExactMissesOfUptoRow.holds Try.pinned (OpenSpec.upto fnExactMissesOfSpec)

/-- 'laws.FnExactBestPolicy', WHERE WHAT IT READS IS OF BULK AT MOST 1048576: true; the input reads as it did. -/
def fnExactBestPolicyUptoRow : OpenClaim := { program := "ythhmhmbdfahkjaa", sum := "36d3b87349cd9219feb820ad092be960379a7441817b5e47b3df9d8fa52759d0", func := "loop.example/g00955/laws.FnExactBestPolicy", spec := "fnExactBestPolicy", apart := false, narrowed := true }
def FnExactBestPolicyUptoSaid : Prop := fnExactBestPolicyUptoRow.holds Try.pinned (OpenSpec.upto fnExactBestPolicySpec)

/-- 'laws.FnExactDropBlock', WHERE WHAT IT READS IS OF BULK AT MOST 1048576: true; the input reads as it did. -/
def fnExactDropBlockUptoRow : OpenClaim := { program := "ythhmhmbdfahkjaa", sum := "36d3b87349cd9219feb820ad092be960379a7441817b5e47b3df9d8fa52759d0", func := "loop.example/g00955/laws.FnExactDropBlock", spec := "fnExactDropBlock", inPlace := ["internal/bytealg.IndexByteString", "internal/bytealg.IndexString", "internal/bytealg.abigen_runtime_cmpstring"], unfollowed := true, recurses := true, named := ["internal/bytealg.MaxLen"], apart := false, narrowed := true }
def FnExactDropBlockUptoSaid : Prop := fnExactDropBlockUptoRow.holds Try.pinned (OpenSpec.upto fnExactDropBlockSpec)

/-- 'laws.FnExactCacheAfter', WHERE WHAT IT READS IS OF BULK AT MOST 1048576: true; the input reads as it did. -/
def fnExactCacheAfterUptoRow : OpenClaim := { program := "ythhmhmbdfahkjaa", sum := "36d3b87349cd9219feb820ad092be960379a7441817b5e47b3df9d8fa52759d0", func := "loop.example/g00955/laws.FnExactCacheAfter", spec := "fnExactCacheAfter", apart := false, narrowed := true }
def FnExactCacheAfterUptoSaid : Prop := fnExactCacheAfterUptoRow.holds Try.pinned (OpenSpec.upto fnExactCacheAfterSpec)

/-- 'laws.FnExactPutBlock', WHERE WHAT IT READS IS OF BULK AT MOST 1048576: true; the input reads as it did. -/
def fnExactPutBlockUptoRow : OpenClaim := { program := "ythhmhmbdfahkjaa", sum := "36d3b87349cd9219feb820ad092be960379a7441817b5e47b3df9d8fa52759d0", func := "loop.example/g00955/laws.FnExactPutBlock", spec := "fnExactPutBlock", inPlace := ["internal/bytealg.IndexByteString", "internal/bytealg.IndexString", "internal/bytealg.abigen_runtime_cmpstring", "slices.overlaps[loop.example/g00955/impl.Block]"], unfollowed := true, recurses := true, named := ["internal/bytealg.MaxLen"], apart := false, narrowed := true }
def FnExactPutBlockUptoSaid : Prop := fnExactPutBlockUptoRow.holds Try.pinned (OpenSpec.upto fnExactPutBlockSpec)

/-- 'laws.FnExactMergeBlocks', WHERE WHAT IT READS IS OF BULK AT MOST 1048576: true; the input reads as it did. -/
def fnExactMergeBlocksUptoRow : OpenClaim := { program := "ythhmhmbdfahkjaa", sum := "36d3b87349cd9219feb820ad092be960379a7441817b5e47b3df9d8fa52759d0", func := "loop.example/g00955/laws.FnExactMergeBlocks", spec := "fnExactMergeBlocks", inPlace := ["internal/bytealg.IndexByteString", "internal/bytealg.IndexString", "internal/bytealg.abigen_runtime_cmpstring", "slices.overlaps[loop.example/g00955/impl.Block]"], unfollowed := true, recurses := true, named := ["internal/bytealg.MaxLen"], apart := false, narrowed := true }
def FnExactMergeBlocksUptoSaid : Prop := fnExactMergeBlocksUptoRow.holds Try.pinned (OpenSpec.upto fnExactMergeBlocksSpec)

end Rows
end Go.Proofs.Ythhmhmbdfahkjaa
