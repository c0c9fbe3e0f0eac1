/-
  Plain laws of FnAnswers: what the ranks of notes and the unknown words are.
  No conditions.
-/
import Derived.Test.YtbpbhjlochijdaaGreatDoorNU
set_option linter.unusedVariables false
set_option linter.unusedSimpArgs false
namespace Go.Eng
open Go Go.RowKit
section
variable {α : Type}
theorem slotF_spec (p : α → Bool) (l : List α) : ∀ n, n ≤ l.length → (∀ (i : Nat) y, slotF p l n ≤ i → i < n → l[i]? = some y → p y = true) ∧ (0 < slotF p l n → ∃ y, l[slotF p l n - 1]? = some y ∧ ¬ p y = true)
  | 0, _ => ⟨fun i y _ h => absurd h (Nat.not_lt_zero _), fun h => absurd h (by simp [slotF])⟩
  | n + 1, hn => by
    have ih := slotF_spec p l n (by omega)
    obtain ⟨x, hx⟩ : ∃ x, l[n]? = some x := ⟨_, List.getElem?_eq_getElem (by omega)⟩
    by_cases hp : p x = true
    · rw [slotF_by hx hp]
      refine ⟨fun i y h1 h2 h3 => ?_, ih.2⟩
      by_cases e : i = n
      · subst e
        rw [hx] at h3
        cases h3
        exact hp
      · exact ih.1 i y h1 (by omega) h3
    · rw [slotF_stop hx hp]
      exact ⟨fun i y h1 h2 => by omega, fun _ => ⟨x, by simpa using hx, hp⟩⟩
theorem insR_perm (bef : α → α → Bool) (l : List α) (x : α) : (insR bef l x).Perm (x :: l) := by
  unfold insR
  refine List.perm_middle.trans ?_
  rw [List.take_append_drop]
theorem rankR_perm (bef : α → α → Bool) (l : List α) : (rankR bef l).Perm l := by
  have key : ∀ (l a : List α), (l.foldl (insR bef) a).Perm (a ++ l) := by
    intro l
    induction l with
    | nil => intro a; simp
    | cons x r ih =>
      intro a
      rw [List.foldl_cons]
      refine (ih _).trans ?_
      refine ((insR_perm bef a x).append_right r).trans ?_
      exact List.perm_middle.symm
  have := key l []
  simpa [rankR] using this
theorem insR_sorted {f : α → Int} {bef : α → α → Bool} (h1 : ∀ x y, bef x y = true → f y ≤ f x) (h2 : ∀ x y, ¬ bef x y = true → f x ≤ f y) {l : List α} (hl : l.Pairwise fun a b => f b ≤ f a) (x : α) : (insR bef l x).Pairwise fun a b => f b ≤ f a := by
  have hs := slotF_spec (bef x) l l.length (Nat.le_refl _)
  unfold insR
  generalize slotF (bef x) l l.length = j at hs
  have hl2 := hl
  rw [← List.take_append_drop j l, List.pairwise_append] at hl2
  have hd : ∀ y ∈ l.drop j, f y ≤ f x := fun y hy => by
    obtain ⟨i, hi⟩ := List.getElem?_of_mem hy
    rw [List.getElem?_drop] at hi
    have hlt := (List.getElem?_eq_some_iff.1 hi).1
    exact h1 x y (hs.1 (j + i) y (by omega) hlt hi)
  have ht : ∀ y ∈ l.take j, f x ≤ f y := fun y hy => by
    obtain ⟨i, hi⟩ := List.getElem?_of_mem hy
    have hi2 : i < j := by
      have := (List.getElem?_eq_some_iff.1 hi).1
      rw [List.length_take] at this
      omega
    rw [List.getElem?_take_of_lt hi2] at hi
    obtain ⟨z, hz, hz2⟩ := hs.2 (by omega)
    have hxz := h2 x z hz2
    by_cases e : i = j - 1
    · subst e
      rw [hi] at hz
      cases hz
      exact hxz
    · obtain ⟨g1, e1⟩ := List.getElem?_eq_some_iff.1 hi
      obtain ⟨g2, e2⟩ := List.getElem?_eq_some_iff.1 hz
      have := List.pairwise_iff_getElem.1 hl i (j - 1) g1 g2 (by omega)
      rw [e1, e2] at this
      exact Int.le_trans hxz this
  rw [List.pairwise_append, List.pairwise_cons]
  refine ⟨hl2.1, ⟨hd, hl2.2.1⟩, fun a ha b hb => ?_⟩
  rcases List.mem_cons.1 hb with rfl | hb
  · exact ht a ha
  · exact hl2.2.2 a ha b hb
theorem rankR_sorted {f : α → Int} {bef : α → α → Bool} (h1 : ∀ x y, bef x y = true → f y ≤ f x) (h2 : ∀ x y, ¬ bef x y = true → f x ≤ f y) (l : List α) : (rankR bef l).Pairwise fun a b => f b ≤ f a := by
  have key : ∀ (l a : List α), (a.Pairwise fun a b => f b ≤ f a) → (l.foldl (insR bef) a).Pairwise fun a b => f b ≤ f a := by
    intro l
    induction l with
    | nil => intro a h; exact h
    | cons x r ih =>
      intro a h
      rw [List.foldl_cons]
      exact ih _ (insR_sorted h1 h2 h x)
  exact key l [] List.Pairwise.nil
end
theorem rankN_nodup (S : List Int) (Z : List Nat) (k : Nat) : (rankN S Z k).Nodup := (rankR_perm _ _).nodup_iff.2 (List.Pairwise.filter _ List.nodup_range)
theorem rankN_memI {S : List Int} {Z : List Nat} {k i : Nat} : i ∈ rankN S Z k ↔ i < k ∧ S.getD i 0 ≠ 0 := by
  unfold rankN
  rw [rankR_mem, fitN_mem]
theorem rankN_sorted (S : List Int) (Z : List Nat) (k : Nat) : (rankN S Z k).Pairwise fun a b => S.getD b 0 ≤ S.getD a 0 := by
  refine rankR_sorted (f := fun i => S.getD i 0) (fun x y h => ?_) (fun x y h => ?_) _
  · simp only [befN, Bool.or_eq_true, Bool.and_eq_true, decide_eq_true_eq] at h
    rcases h with h | h
    · exact Int.le_of_lt h
    · exact Int.le_of_eq h.1
  · simp only [befN, Bool.or_eq_true, Bool.and_eq_true, decide_eq_true_eq, not_or] at h
    exact Int.not_lt.1 h.1
theorem scoresW_getD {T : List (List (List UInt8))} {ws : List (List UInt8)} {k : Nat} (h : k < T.length) : (scoresW T ws).getD k 0 = scoreW T k ws := by
  rw [List.getD_eq_getElem?_getD, scoresW_at h]
  rfl
theorem scoreW_ge {T : List (List (List UInt8))} (hT : T.length ≤ 20) {k : Nat} : ∀ {ws : List (List UInt8)} {w : List UInt8}, w ∈ ws → hasW T k w = true → weightW T w ≤ scoreW T k ws
  | [], _, h, _ => absurd h (by simp)
  | v :: ws, w, h, hw => by
    have e : scoreW T k (v :: ws) = (if hasW T k v = true then weightW T v else 0) + scoreW T k ws := by simp [scoreW]
    have h0 := (scoreW_range hT k ws).1
    have hv0 := (weightW_range hT v).1
    rw [e]
    rcases List.mem_cons.1 h with rfl | h
    · rw [if_pos hw]; omega
    · have := scoreW_ge hT h hw
      split <;> omega
/-- A note with a word of the question is ranked. -/
theorem with_ranked {T : List (List (List UInt8))} (hT : T.length ≤ 20) {ws : List (List UInt8)} {Z : List Nat} {w : List UInt8} {i : Nat} (hw : w ∈ ws) (hi : i ∈ withAll T w) : i ∈ rankN (scoresW T ws) Z T.length := by
  have h := withN_mem.1 hi
  have hl : (withAll T w).length ≠ 0 := by
    intro e
    rw [List.length_eq_zero_iff.1 e] at hi
    cases hi
  have hr := weightW_range hT w
  have := scoreW_ge hT hw h.2
  refine rankN_memI.2 ⟨h.1, ?_⟩
  rw [scoresW_getD h.1]
  have hne : weightW T w ≠ 0 := fun e => hl (hr.2.2.1.1 e)
  omega
theorem unkW_split (T : List (List (List UInt8))) (ws : List (List UInt8)) (j : Nat) : unkW T ws = unkW T (ws.take j) ++ unkW T (ws.drop j) := by
  unfold unkW
  rw [← List.filter_append, List.take_append_drop]
/-- The next unknown word. -/
theorem unkW_next {T : List (List (List UInt8))} {ws : List (List UInt8)} {j : Nat} {w : List UInt8} (h : ws[j]? = some w) (h0 : (withAll T w).length = 0) : (unkW T ws)[(unkW T (ws.take j)).length]? = some w ∧ (unkW T (ws.take (j + 1))).length = (unkW T (ws.take j)).length + 1 := by
  have e := unkW_take (T := T) h
  rw [if_pos h0] at e
  refine ⟨?_, by rw [e, List.length_append]; rfl⟩
  rw [unkW_split T ws (j + 1), e, List.append_assoc, List.getElem?_append_right (Nat.le_refl _), Nat.sub_self]
  rfl
theorem unkW_same {T : List (List (List UInt8))} {ws : List (List UInt8)} {j : Nat} {w : List UInt8} (h : ws[j]? = some w) (h0 : (withAll T w).length ≠ 0) : (unkW T (ws.take (j + 1))).length = (unkW T (ws.take j)).length := by
  have e := unkW_take (T := T) h
  rw [if_neg h0, List.append_nil] at e
  rw [e]
end Go.Eng
