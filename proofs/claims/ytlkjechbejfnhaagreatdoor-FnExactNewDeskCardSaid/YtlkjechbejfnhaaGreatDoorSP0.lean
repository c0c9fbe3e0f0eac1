/-
  Plain laws: a text divided at each occurrence of a byte, and at the first one.
  No conditions.
-/
import Derived.Test.YtlkjechbejfnhaaGreatDoorED
set_option linter.unusedVariables false
set_option linter.unusedSimpArgs false
namespace Go.Eng
open Go Go.RowKit

/-- The parts of a text between the bytes c. -/
def splitC (c : UInt8) : List UInt8 → List (List UInt8)
  | [] => [[]]
  | b :: r => if b = c then [] :: splitC c r else match splitC c r with
    | [] => [[b]]
    | p :: ps => (b :: p) :: ps
theorem splitC_ne (c : UInt8) : ∀ l, splitC c l ≠ []
  | [] => by simp [splitC]
  | b :: r => by
    rw [splitC]
    split
    · simp
    · split <;> simp
theorem splitC_hit {c : UInt8} : ∀ {l : List UInt8} {m : Nat}, (∀ j, j < m → l[j]? ≠ some c) → l[m]? = some c → splitC c l = l.take m :: splitC c (l.drop (m + 1))
  | [], m, _, h => by simp at h
  | b :: r, 0, _, h => by
    have : b = c := by simpa using h
    subst this
    simp [splitC]
  | b :: r, m + 1, h0, h => by
    have hb : b ≠ c := fun e => h0 0 (by omega) (by simp [e])
    have ih := splitC_hit (l := r) (m := m) (fun j hj => by have := h0 (j + 1) (by omega); simpa using this) (by simpa using h)
    rw [splitC, if_neg hb, ih]
    simp
theorem splitC_none {c : UInt8} : ∀ {l : List UInt8}, (∀ j : Nat, l[j]? ≠ some c) → splitC c l = [l]
  | [], _ => rfl
  | b :: r, h => by
    have hb : b ≠ c := fun e => h 0 (by simp [e])
    rw [splitC, if_neg hb, splitC_none (l := r) (fun j => by have := h (j + 1); simpa using this)]
theorem splitC_length (c : UInt8) : ∀ l : List UInt8, (splitC c l).length = l.count c + 1
  | [] => rfl
  | b :: r => by
    have ih := splitC_length c r
    rw [splitC, List.count_cons]
    by_cases h : b = c
    · simp [h, ih]
    · have h2 : (b == c) = false := by simpa using h
      rw [if_neg h, h2]
      cases hs : splitC c r with
      | nil => exact absurd hs (splitC_ne c r)
      | cons p ps => rw [hs] at ih; simpa using ih
/-- What the library's search for a byte tells. -/
theorem indexByte_hit {l : List UInt8} {c : UInt8} : ∀ {m : Nat}, Lib.indexByte l c = (m : Int) → (∀ j, j < m → l[j]? ≠ some c) ∧ l[m]? = some c := by
  induction l with
  | nil => intro m h; simp [Lib.indexByte] at h
  | cons b r ih =>
    intro m h
    have h1 := Lib.indexByte_ge r c
    unfold Lib.indexByte at h
    by_cases hb : b = c
    · subst hb
      simp at h
      obtain rfl : m = 0 := by omega
      exact ⟨fun j hj => by omega, by simp⟩
    · have h2 : (b == c) = false := by simpa using hb
      rw [h2] at h
      simp only [Bool.false_eq_true, if_false] at h
      by_cases h3 : Lib.indexByte r c = -1
      · rw [h3] at h
        simp at h
      · have h4 : (Lib.indexByte r c == -1) = false := by simpa using h3
        rw [h4] at h
        simp only [Bool.false_eq_true, if_false] at h
        obtain ⟨m', rfl⟩ : ∃ m', m = m' + 1 := ⟨m - 1, by omega⟩
        obtain ⟨h5, h6⟩ := ih (m := m') (by omega)
        refine ⟨fun j hj => ?_, by simpa using h6⟩
        cases j with
        | zero => simpa using hb
        | succ j => simpa using h5 j (by omega)
theorem indexByte_none {l : List UInt8} {c : UInt8} : Lib.indexByte l c < 0 → ∀ j : Nat, l[j]? ≠ some c := by
  induction l with
  | nil => intro _ j; simp
  | cons b r ih =>
    intro h j
    have h1 := Lib.indexByte_ge r c
    unfold Lib.indexByte at h
    by_cases hb : b = c
    · subst hb
      simp at h
    · have h2 : (b == c) = false := by simpa using hb
      rw [h2] at h
      simp only [Bool.false_eq_true, if_false] at h
      by_cases h3 : Lib.indexByte r c = -1
      · cases j with
        | zero => simpa using hb
        | succ j => simpa using ih (by omega) j
      · have h4 : (Lib.indexByte r c == -1) = false := by simpa using h3
        rw [h4] at h
        simp only [Bool.false_eq_true, if_false] at h
        omega
theorem indexByte_some {l : List UInt8} {c : UInt8} (h : 0 < l.count c) : 0 ≤ Lib.indexByte l c := by
  apply Classical.byContradiction
  intro h2
  have h3 := indexByte_none (l := l) (c := c) (by omega)
  obtain ⟨j, hj⟩ := List.getElem?_of_mem (List.count_pos_iff.1 h)
  exact h3 j hj
theorem indexByte_lt {l : List UInt8} {c : UInt8} {m : Nat} (h : Lib.indexByte l c = (m : Int)) : m < l.length := (List.getElem?_eq_some_iff.1 (indexByte_hit h).2).1
/-- A text up to the first byte c, what follows it, and whether there is one. -/
def cutTx (c : UInt8) : List UInt8 → List UInt8 × List UInt8 × Bool
  | [] => ([], [], false)
  | b :: r => if b = c then ([], r, true) else (b :: (cutTx c r).1, (cutTx c r).2.1, (cutTx c r).2.2)
theorem cutTx_hit {c : UInt8} : ∀ {l : List UInt8} {m : Nat}, (∀ j, j < m → l[j]? ≠ some c) → l[m]? = some c → cutTx c l = (l.take m, l.drop (m + 1), true)
  | [], m, _, h => by simp at h
  | b :: r, 0, _, h => by
    have : b = c := by simpa using h
    subst this
    simp [cutTx]
  | b :: r, m + 1, h0, h => by
    have hb : b ≠ c := fun e => h0 0 (by omega) (by simp [e])
    have ih := cutTx_hit (l := r) (m := m) (fun j hj => by have := h0 (j + 1) (by omega); simpa using this) (by simpa using h)
    rw [cutTx, if_neg hb, ih]
    simp
theorem cutTx_none {c : UInt8} : ∀ {l : List UInt8}, (∀ j : Nat, l[j]? ≠ some c) → cutTx c l = (l, [], false)
  | [], _ => rfl
  | b :: r, h => by
    have hb : b ≠ c := fun e => h 0 (by simp [e])
    rw [cutTx, if_neg hb, cutTx_none (l := r) (fun j => by have := h (j + 1); simpa using this)]
theorem cutTx_le (c : UInt8) : ∀ l : List UInt8, (cutTx c l).1.length ≤ l.length ∧ (cutTx c l).2.1.length ≤ l.length
  | [] => by simp [cutTx]
  | b :: r => by
    have ih := cutTx_le c r
    rw [cutTx]
    split
    · simp
    · simp; omega
/-- No byte c from f to i. -/
def freeTo (c : UInt8) (l : List UInt8) (f i : Nat) : Prop := ∀ j, f ≤ j → j < i → l[j]? ≠ some c
theorem freeTo_zero {c : UInt8} {l : List UInt8} {f : Nat} : freeTo c l f f := fun j h1 h2 => by omega
theorem freeTo_succ {c x : UInt8} {l : List UInt8} {f i : Nat} (h : freeTo c l f i) (hx : l[i]? = some x) (hc : x ≠ c) : freeTo c l f (i + 1) := by
  intro j h1 h2
  by_cases e : j = i
  · subst e; rw [hx]; simpa using hc
  · exact h j h1 (by omega)
theorem splitC_part {c : UInt8} {l : List UInt8} {f i : Nat} (h : freeTo c l f i) (hf : f ≤ i) (hx : l[i]? = some c) : splitC c (l.drop f) = (l.drop f).take (i - f) :: splitC c (l.drop (i + 1)) := by
  rw [splitC_hit (m := i - f) (fun j hj => by rw [List.getElem?_drop]; exact h _ (by omega) (by omega)) (by rw [List.getElem?_drop, show f + (i - f) = i by omega]; exact hx), List.drop_drop]
  congr 3
  omega
theorem splitC_rest {c : UInt8} {l : List UInt8} {f : Nat} (h : freeTo c l f l.length) : splitC c (l.drop f) = [l.drop f] := by
  refine splitC_none fun j => ?_
  rw [List.getElem?_drop]
  by_cases hj : f + j < l.length
  · exact h _ (by omega) hj
  · rw [List.getElem?_eq_none (by omega)]; simp
theorem cutTx_part {c : UInt8} {l : List UInt8} {f i : Nat} (h : freeTo c l f i) (hf : f ≤ i) (hx : l[i]? = some c) : cutTx c (l.drop f) = ((l.drop f).take (i - f), l.drop (i + 1), true) := by
  rw [cutTx_hit (m := i - f) (fun j hj => by rw [List.getElem?_drop]; exact h _ (by omega) (by omega)) (by rw [List.getElem?_drop, show f + (i - f) = i by omega]; exact hx), List.drop_drop]
  congr 3
  omega
theorem cutTx_rest {c : UInt8} {l : List UInt8} {f : Nat} (h : freeTo c l f l.length) : cutTx c (l.drop f) = (l.drop f, [], false) := by
  refine cutTx_none fun j => ?_
  rw [List.getElem?_drop]
  by_cases hj : f + j < l.length
  · exact h _ (by omega) hj
  · rw [List.getElem?_eq_none (by omega)]; simp
end Go.Eng
