/-
  The engine, twenty-sixth part. Two lists compared element by element.
  No conditions.
-/
import Derived.Test.YtikdfigokjhdgaaEng25
namespace Go.Eng
open Go Go.RowKit

def eqL {α : Type} (e : α → α → Bool) (a b : List α) : Bool := decide (a.length = b.length) && (a.zip b).all fun p => e p.1 p.2
theorem eqL_len {α : Type} {e : α → α → Bool} {a b : List α} (h : a.length ≠ b.length) : eqL e a b = false := by simp [eqL, h]
theorem eqL_at {α : Type} {e : α → α → Bool} {a b : List α} {k : Nat} {x y : α} (hx : a[k]? = some x) (hy : b[k]? = some y) (h : e x y = false) : eqL e a b = false := by
  have hm : (x, y) ∈ a.zip b := List.mem_of_getElem? (i := k) (by rw [List.getElem?_zip_eq_some]; exact ⟨hx, hy⟩)
  unfold eqL
  have h2 : ((a.zip b).all fun p => e p.1 p.2) = false := by
    rw [List.all_eq_false]
    exact ⟨(x, y), hm, by simp [h]⟩
  rw [h2, Bool.and_false]
theorem eqL_all {α : Type} {e : α → α → Bool} {a b : List α} (hl : a.length = b.length) (h : ∀ j x y, j < a.length → a[j]? = some x → b[j]? = some y → e x y = true) : eqL e a b = true := by
  unfold eqL
  rw [decide_eq_true hl, Bool.true_and, List.all_eq_true]
  intro p hp
  obtain ⟨j, hj⟩ := List.getElem?_of_mem hp
  rw [List.getElem?_zip_eq_some] at hj
  have h3 : j < a.length := by
    have h3 : j < a.length ∨ a.length ≤ j := by omega
    rcases h3 with h3 | h3
    · exact h3
    · rw [List.getElem?_eq_none h3] at hj; cases hj.1
  exact h j p.1 p.2 h3 hj.1 hj.2
/-- Alike so far. -/
def eqTo {α : Type} (e : α → α → Bool) (a b : List α) (k : Nat) : Prop := ∀ j x y, j < k → a[j]? = some x → b[j]? = some y → e x y = true
theorem eqTo_zero {α : Type} {e : α → α → Bool} {a b : List α} : eqTo e a b 0 := fun j _ _ h => absurd h (by omega)
theorem eqTo_succ {α : Type} {e : α → α → Bool} {a b : List α} {k : Nat} {x y : α} (h : eqTo e a b k) (hx : a[k]? = some x) (hy : b[k]? = some y) (he : e x y = true) : eqTo e a b (k + 1) := by
  intro j x' y' hj hx' hy'
  have h2 : j < k ∨ j = k := by omega
  rcases h2 with h2 | rfl
  · exact h j x' y' h2 hx' hy'
  · rw [hx] at hx'; rw [hy] at hy'; cases hx'; cases hy'; exact he
theorem eqL_refl {α : Type} {e : α → α → Bool} (he : ∀ x, e x x = true) (a : List α) : eqL e a a = true :=
  eqL_all rfl fun j x y _ hx hy => by rw [hx] at hy; cases hy; exact he x
end Go.Eng
