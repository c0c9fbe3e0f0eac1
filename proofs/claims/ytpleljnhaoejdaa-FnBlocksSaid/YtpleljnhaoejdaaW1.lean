/-
  Small functions of the first chapters.
  No conditions.
-/
import Derived.Test.YtpleljnhaoejdaaEC
import Derived.Test.YtpleljnhaoejdaaProg
set_option linter.unusedVariables false
set_option linter.unusedSimpArgs false
namespace Go.Eng
open Go Go.RowKit Go.Proofs
set_option maxRecDepth 100000
def inB (n l h : Int) : Bool := decide (l ≤ n ∧ n ≤ h)
def absI (n : Int) : Int := if n < 0 then -n else n
end Go.Eng
