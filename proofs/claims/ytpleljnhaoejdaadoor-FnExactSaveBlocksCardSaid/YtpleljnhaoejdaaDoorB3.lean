/-
  The names of the blocks of a kind.
  No conditions.
-/
import Derived.Test.YtpleljnhaoejdaaDoorEC
import Derived.Test.YtpleljnhaoejdaaDoorB1
set_option linter.unusedVariables false
set_option linter.unusedSimpArgs false
namespace Go.Eng
open Go Go.RowKit Go.Proofs
set_option maxRecDepth 100000
/-- The names of the blocks of a kind. -/
def kindBs (kd : List UInt8) (a : List TBlock) : List (List UInt8) := (a.filter fun b => b.fKind == kd).map (·.fName)
theorem kindBs_succ {kd : List UInt8} {a : List TBlock} {k : Nat} {x : TBlock} (hx : a[k]? = some x) : kindBs kd (a.take (k + 1)) = kindBs kd (a.take k) ++ (if x.fKind = kd then [x.fName] else []) := by
  rw [List.take_add_one, hx]
  by_cases h : x.fKind = kd <;> simp [kindBs, h]
theorem kindBs_len (kd : List UInt8) (a : List TBlock) : (kindBs kd a).length ≤ a.length := by
  simp only [kindBs, List.length_map]
  exact List.length_filter_le _ _
end Go.Eng
