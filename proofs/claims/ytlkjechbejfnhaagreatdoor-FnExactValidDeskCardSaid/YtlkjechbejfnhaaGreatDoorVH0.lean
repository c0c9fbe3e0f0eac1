/-
  Lists of which each element passes a test that speaks of the list and its index: plain laws.
  No conditions.
-/
import Derived.Test.YtlkjechbejfnhaaGreatDoorEC
set_option linter.unusedVariables false
set_option linter.unusedSimpArgs false
namespace Go.Eng
open Go Go.RowKit
def allI {α : Type} (p : Nat → α → Bool) (a : List α) : Bool := (List.range a.length).all fun k => match a[k]? with
  | some x => p k x
  | none => true
def allIto {α : Type} (p : Nat → α → Bool) (a : List α) (k : Nat) : Prop := ∀ j x, j < k → a[j]? = some x → p j x = true
theorem allIto_zero {α : Type} {p : Nat → α → Bool} {a : List α} : allIto p a 0 := fun _ _ h => absurd h (Nat.not_lt_zero _)
theorem allIto_succ {α : Type} {p : Nat → α → Bool} {a : List α} {k : Nat} {x : α} (h : allIto p a k) (hx : a[k]? = some x) (hp : p k x = true) : allIto p a (k + 1) := by
  intro j y hj hy
  by_cases e : j = k
  · subst e; rw [hx] at hy; cases hy; exact hp
  · exact h j y (by omega) hy
theorem allI_of {α : Type} {p : Nat → α → Bool} {a : List α} {k : Nat} (h : allIto p a k) (hk : a.length ≤ k) : allI p a = true := by
  unfold allI
  rw [List.all_eq_true]
  intro j hj
  have hj := List.mem_range.1 hj
  have hx : a[j]? = some a[j] := List.getElem?_eq_getElem hj
  rw [hx]
  exact h j _ (by omega) hx
theorem allI_bad {α : Type} {p : Nat → α → Bool} {a : List α} {k : Nat} {x : α} (hx : a[k]? = some x) (hp : p k x = false) : allI p a = false := by
  unfold allI
  rw [List.all_eq_false]
  refine ⟨k, List.mem_range.2 (List.getElem?_eq_some_iff.1 hx).1, ?_⟩
  rw [hx]
  simp [hp]
theorem allI_at {α : Type} {p : Nat → α → Bool} {a : List α} (h : allI p a = true) {k : Nat} {x : α} (hx : a[k]? = some x) : p k x = true := by
  unfold allI at h
  have := List.all_eq_true.1 h k (List.mem_range.2 (List.getElem?_eq_some_iff.1 hx).1)
  rw [hx] at this
  exact this
def prevB {α : Type} (lt : α → α → Bool) (a : List α) (k : Nat) (x : α) : Bool := match k with
  | 0 => true
  | j + 1 => match a[j]? with
    | some y => lt y x
    | none => true
theorem prevB_at {α : Type} {lt : α → α → Bool} {a : List α} {k i : Nat} {x y : α} (hi : i + 1 = k) (hy : a[i]? = some y) : prevB lt a k x = lt y x := by
  subst hi
  simp [prevB, hy]
theorem prevB_first {α : Type} {lt : α → α → Bool} {a : List α} {k : Nat} {x : α} (hk : ¬ 0 < k) : prevB lt a k x = true := by
  obtain rfl : k = 0 := by omega
  rfl
def noneB {α : Type} (q : α → Bool) (a : List α) (k : Nat) : Bool := (a.take k).all fun y => !q y
theorem noneB_bad {α : Type} {q : α → Bool} {a : List α} {k i : Nat} {y : α} (hy : a[i]? = some y) (hi : i < k) (hq : q y = true) : noneB q a k = false := by
  unfold noneB
  rw [List.all_eq_false]
  refine ⟨y, List.mem_of_getElem? (i := i) (by rw [List.getElem?_take, if_pos hi, hy]), by simp [hq]⟩
theorem noneB_of {α : Type} {q : α → Bool} {a : List α} {k : Nat} (h : noneTo q a k) : noneB q a k = true := by
  unfold noneB
  rw [List.all_eq_true]
  intro y hy
  obtain ⟨i, hi⟩ := List.getElem?_of_mem hy
  rw [List.getElem?_take] at hi
  split at hi
  · rename_i hik
    rw [h i y hik hi]
    rfl
  · cases hi
theorem noneB_first {α : Type} {q : α → Bool} {a : List α} {k : Nat} (hk : k ≤ a.length) : noneB q a k = decide (k ≤ firstAt q a) := by
  cases h : noneB q a k with
  | true =>
    symm
    rw [decide_eq_true_eq]
    apply Classical.byContradiction
    intro hc
    have h1 := (firstAt_spec q a).2 a[firstAt q a] (List.getElem?_eq_getElem (by omega))
    rw [noneB_bad (List.getElem?_eq_getElem (by omega)) (by omega) h1] at h
    cases h
  | false =>
    symm
    rw [decide_eq_false_iff_not]
    intro hc
    rw [noneB_of fun j x hj hx => (firstAt_spec q a).1 j x (by omega) hx] at h
    cases h
theorem firstAt_take {α : Type} {q : α → Bool} {a : List α} {k : Nat} (hk : k ≤ a.length) : (firstAt q (a.take k) < (a.take k).length) ↔ noneB q a k = false := by
  have hl : (a.take k).length = k := by rw [List.length_take]; omega
  rw [hl]
  constructor
  · intro h
    have h1 := (firstAt_spec q (a.take k)).2 (a.take k)[firstAt q (a.take k)] (List.getElem?_eq_getElem (by omega))
    refine noneB_bad (i := firstAt q (a.take k)) (y := (a.take k)[firstAt q (a.take k)]) ?_ h h1
    have h2 : (a.take k)[firstAt q (a.take k)]? = some (a.take k)[firstAt q (a.take k)] := List.getElem?_eq_getElem (by omega)
    rwa [List.getElem?_take, if_pos h] at h2
  · intro h
    apply Classical.byContradiction
    intro hc
    have h1 := firstAt_le q (a.take k)
    rw [noneB_of fun j x hj hx => (firstAt_spec q (a.take k)).1 j x (by omega) (by rw [List.getElem?_take, if_pos hj, hx])] at h
    cases h
/-- An index, or -1. -/
def idxQ {α : Type} (q : α → Bool) (a : List α) : Int := if firstAt q a < a.length then firstAt q a else -1
theorem idxQ_lt {α : Type} {q : α → Bool} {a : List α} {k : Nat} {x : α} (hx : a[k]? = some x) (hq : q x = true) : idxQ q a = firstAt q a ∧ firstAt q a ≤ k := by
  have h1 := (List.getElem?_eq_some_iff.1 hx).1
  have h2 : firstAt q a ≤ k := by
    apply Classical.byContradiction
    intro hc
    rw [(firstAt_spec q a).1 k x (by omega) hx] at hq
    cases hq
  unfold idxQ
  rw [if_pos (by omega)]
  exact ⟨rfl, h2⟩
theorem idxQ_take {α : Type} {q : α → Bool} {a : List α} {k : Nat} (hk : k ≤ a.length) : (0 ≤ idxQ q (a.take k)) ↔ noneB q a k = false := by
  rw [← firstAt_take hk]
  unfold idxQ
  have hl : (a.take k).length = k := by rw [List.length_take]; omega
  split
  · exact ⟨fun _ => by assumption, fun _ => by omega⟩
  · exact ⟨fun h => by omega, fun h => absurd h (by assumption)⟩
theorem idxQ_here {α : Type} {q : α → Bool} {a : List α} {k : Nat} {x : α} (h : noneTo q a k) (hx : a[k]? = some x) (hq : q x = true) : idxQ q a = k := by
  have := firstAt_here h hx hq
  unfold idxQ
  rw [this, if_pos (List.getElem?_eq_some_iff.1 hx).1]
theorem idxQ_none {α : Type} {q : α → Bool} {a : List α} {k : Nat} (h : noneTo q a k) (hk : a.length ≤ k) : idxQ q a = -1 := by
  unfold idxQ
  rw [firstAt_none h hk, if_neg (by omega)]
theorem cutT_sl {α : Type} {enc : α → List D} {a : List α} {k s : Nat} : D.sl s ((a.take k).map enc) = D.sl s (cutL (a.map enc) none (some k)) := by
  simp [cutL, List.map_take]
theorem cutT_len {α : Type} {enc : α → List D} {a : List α} {k : Nat} (h : k ≤ a.length) : D.int .i64 (k : Int) = D.int .i64 ((cutL (a.map enc) none (some k)).length : Int) := by
  refine congrArg (D.int _) ?_
  simp [cutL]
  omega
theorem take_at {α : Type} {a : List α} {k j : Nat} {x : α} (h : (a.take k)[j]? = some x) : a[j]? = some x := by
  rw [List.getElem?_take] at h
  split at h
  · exact h
  · cases h
end Go.Eng
