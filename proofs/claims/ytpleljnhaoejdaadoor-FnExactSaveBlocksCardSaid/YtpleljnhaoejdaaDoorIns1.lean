/-
  One element put into an ordered list: what one round of the reference's loop does.
  No conditions.
-/
import Derived.Test.YtpleljnhaoejdaaDoorEC
set_option linter.unusedVariables false
set_option linter.unusedSimpArgs false
namespace Go.Eng
open Go Go.RowKit

section
variable {α : Type} {lt : α → α → Bool} {eqk : α → α → Bool}
theorem insAt_step {a : List α} {t x : α} {k : Nat} (hx : a[k]? = some x) : decide (insAt lt a t < k + 1) = (decide (insAt lt a t < k) || !lt x t) := by
  rcases Nat.lt_trichotomy k (insAt lt a t) with h | h | h
  · rw [insAt_low h hx, decide_eq_false (by omega), decide_eq_false (by omega)]; rfl
  · have h1 := hx
    rw [h] at h1
    rw [insAt_here h1, decide_eq_true (by omega), decide_eq_false (by omega)]; rfl
  · rw [decide_eq_true (show insAt lt a t < k + 1 by omega), decide_eq_true h]
    rfl
theorem insP_step (ht : ∀ {x y z : α}, lt x y = true → lt y z = true → lt x z = true) {a : List α} {t : α} (htot : ∀ x, lt x t = false → eqk t x = false → lt t x = true) (hcon : ∀ x y, eqk t x = true → lt x y = true → lt t y = true)
    (h1 : ∀ x, lt x t = true → eqk t x = false) (h2 : ∀ x, lt t x = true → eqk t x = false) (h : chain lt a = true) {k : Nat} {x : α} (hx : a[k]? = some x) :
    insP lt eqk a t (k + 1) = insP lt eqk a t k ++ ((if insAt lt a t < k ∨ lt x t = true then [] else [t]) ++ (if eqk t x = true then [] else [x])) := by
  rcases Nat.lt_trichotomy k (insAt lt a t) with hk | hk | hk
  · have hl := insAt_low hk hx
    rw [insP_low hk hx, if_pos (.inr hl), if_neg (by rw [h1 x hl]; simp)]
    rfl
  · subst hk
    have hl := insAt_here hx
    rw [insP_at hx]
    simp [hl]
  · have hn := insN_le (lt := lt) (eqk := eqk) a t
    have hl := ins_above (lt := lt) (eqk := eqk) ht htot hcon h (show insN lt eqk a t ≤ k by omega) hx
    rw [insP_high hk hx, if_pos (.inl hk), if_neg (by rw [h2 x hl]; simp)]
    rfl
theorem insP_length (a : List α) (t : α) (k : Nat) : (insP lt eqk a t k).length ≤ k + 1 := by
  unfold insP
  split
  · rw [List.length_take]; omega
  · rw [List.length_append, List.length_cons, List.length_take, List.length_drop, List.length_take]
    have hn := insN_le (lt := lt) (eqk := eqk) a t
    omega
end
/-! ### What slices.Insert does with one element -/
theorem ins_road2 {α : Type} {L l1 l2 l3 : List α} {c z : α} {i : Nat} (hi : i ≤ L.length) (h1 : l1 = L.take i ++ List.replicate (L.length + 1 - i) z) (q1 : l1.length = L.length + 1)
   (h2 : l2 = l1.take i ++ ([c].take (l1.length - i) ++ l1.drop (i + ([c].take (l1.length - i)).length))) (q2 : l2.length = L.length + 1)
   (h3 : l3 = l2.take (i+1) ++ (((L.drop i).take (min L.length (i + (l2.length - (i+1))) - i)).take (l2.length - (i+1)) ++ (l2.drop (i + 1 + (((L.drop i).take (min L.length (i + (l2.length - (i+1))) - i)).take (l2.length - (i+1))).length)))) : l3 = L.take i ++ c :: L.drop i := by
  have e2 : l2 = L.take i ++ c :: l1.drop (i+1) := by
    rw [h2, q1, List.take_of_length_le (l := [c]) (by simp; omega), h1]
    simp [hi]
  have e3 : ((L.drop i).take (min L.length (i + (l2.length - (i+1))) - i)).take (l2.length - (i+1)) = L.drop i := by
    rw [List.take_of_length_le (l := L.drop i) (by simp; omega), List.take_of_length_le (by simp; omega)]
  rw [e3] at h3
  have e4 : l2.drop (i + 1 + (L.drop i).length) = [] := List.drop_eq_nil_of_le (by simp; omega)
  have e5 : l2.take (i + 1) = L.take i ++ [c] := by
    rw [e2, List.take_append, List.take_of_length_le (by simp; omega), List.length_take, show i + 1 - min i L.length = 1 by omega]
    rfl
  rw [h3, e4, e5]
  simp
theorem ins_road3 {α : Type} {L l1 l2 : List α} {c : α} {i : Nat} (hi : i ≤ L.length)
   (h1 : l1 = L.take (i+1) ++ ((((L.drop i).take (min (L.length + 1) (i + (L.length + 1 - (i + 1))) - i)).take (L.length + 1 - (i+1))) ++ L.drop (i + 1 + (((L.drop i).take (min (L.length + 1) (i + (L.length + 1 - (i + 1))) - i)).take (L.length + 1 - (i+1))).length))) (q1 : l1.length = L.length + 1)
   (h2 : l2 = l1.take i ++ ([c].take (L.length + 1 - i) ++ l1.drop (i + ([c].take (L.length + 1 - i)).length))) (q2 : l2.length = L.length + 1) : l2.take (L.length + 1) = L.take i ++ c :: L.drop i := by
  have e3 : ((L.drop i).take (min (L.length + 1) (i + (L.length + 1 - (i+1))) - i)).take (L.length + 1 - (i+1)) = L.drop i := by
    rw [List.take_of_length_le (l := L.drop i) (by simp; omega), List.take_of_length_le (by simp)]
  rw [e3] at h1
  have e4 : L.drop (i + 1 + (L.drop i).length) = [] := List.drop_eq_nil_of_le (by simp; omega)
  rw [e4, List.append_nil] at h1
  rw [List.take_of_length_le (by omega), h2, List.take_of_length_le (l := [c]) (by simp; omega)]
  by_cases h : i = L.length
  · subst h
    simp at h1
    subst h1
    simp at q1
  · have e5 : l1.take i = L.take i := by rw [h1, List.take_append_of_le_length (by simp; omega), List.take_take, Nat.min_eq_left (by omega)]
    have e6 : l1.drop (i + [c].length) = L.drop i := by
      rw [h1, List.drop_append_of_le_length (by simp; omega)]
      rw [List.drop_eq_nil_of_le (by simp; omega)]
      rfl
    rw [e5, e6]
    rfl
end Go.Eng
