/-
  Texts divided by a byte: strings.Split and strings.Cut of the program's library, and the reference's l01Split.
  No conditions.
-/
import Derived.Test.YtieiboeboejmkaaGreatDoorED
import Derived.Test.YtieiboeboejmkaaGreatDoorSP0
import Derived.Test.YtieiboeboejmkaaGreatDoorV1
set_option linter.unusedVariables false
set_option linter.unusedSimpArgs false
namespace Go.Eng
open Go Go.RowKit Go.Proofs
set_option maxRecDepth 100000
theorem MakeS.to (n : Nat) {bytes : Nat} {l c : Int} {K : Nat → Prop} (hl : l = (n : Int)) (hc : c = (n : Int)) (hb : Nat.ble bytes 65536 = true) (h : (n : Int) ≤ 4294967296) (hk : K n) : MakeS l c bytes K := by
  subst hl
  subst hc
  exact MakeS.nat hb h hk
end Go.Eng
