/-
  The engine, thirty-sixth part. Lists put together from parts of lists.
  No conditions.
-/
import Derived.Test.YthhmhmbdfahkjaaEng35
namespace Go.Eng
open Go Go.RowKit

/-- What slices.Delete makes of one element. -/
theorem seg_del {α : Type} {L T R1 R2 : List α} {k i a : Nat} (hT : T = L.drop i) (hi : i = k + 1) (hk : k ≤ L.length) (ha : a = k + T.length) : List.take (k + T.length) (List.take (0 + a) (List.take k L ++ (T ++ R1)) ++ R2) = L.take k ++ L.drop (k + 1) := by
  subst hi ha
  have hX : (L.take k ++ T).length = k + T.length := by rw [List.length_append, List.length_take]; omega
  rw [← List.append_assoc (L.take k) T R1, Nat.zero_add, ← hX, List.take_left, List.take_left, hT]
end Go.Eng
