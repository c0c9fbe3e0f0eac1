/-
  Texts joined by commas, in plain words.
  No conditions.
-/
import Derived.Test.YtlkjechbejfnhaaGreatDoorEC
set_option linter.unusedVariables false
set_option linter.unusedSimpArgs false
namespace Go.Eng
open Go Go.RowKit
def joinL : List (List UInt8) → List UInt8
  | [] => []
  | [p] => p
  | p :: q :: r => p ++ 44 :: joinL (q :: r)
theorem joinL_len : ∀ l : List (List UInt8), (∀ x ∈ l, x.length ≤ 30) → (joinL l).length ≤ 31 * l.length := by
  intro l
  induction l with
  | nil => intro _; simp [joinL]
  | cons x r ih =>
    intro h
    have h1 := h x (by simp)
    have h2 := ih fun y hy => h y (by simp [hy])
    cases r with
    | nil => simp [joinL]; omega
    | cons y r =>
      rw [joinL]
      simp only [List.length_append, List.length_cons] at h2 ⊢
      omega
end Go.Eng
