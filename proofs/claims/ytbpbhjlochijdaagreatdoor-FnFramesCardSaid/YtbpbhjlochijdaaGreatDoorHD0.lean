/-
  Plain laws: the first line of an archive.
  No conditions.
-/
import Derived.Test.YtbpbhjlochijdaaGreatDoorAR0
import Derived.Test.YtbpbhjlochijdaaGreatDoorSR0
set_option linter.unusedVariables false
set_option linter.unusedSimpArgs false
namespace Go.Eng
open Go Go.RowKit

def archW : List UInt8 := [97, 114, 99, 104, 105, 118, 101]
def archL : List UInt8 := [97, 114, 99, 104, 105, 118, 101, 32]
/-- What the reference makes of the first line. -/
def headS (line : List UInt8) : Int × Bool := match splitC 32 line with
  | [a, b] => if a = archW then ((readN b).1, (readN b).2 && inB (readN b).1 0 32) else (0, false)
  | _ => (0, false)
def preA (line : List UInt8) : Bool := decide (line.take 8 = archL)
def digsA (line : List UInt8) : List UInt8 := if preA line = true then line.drop 8 else line
/-- What the program makes of it. -/
def headP (line : List UInt8) : Bool := preA line && ((readN (digsA line)).2 && inB (readN (digsA line)).1 0 32)
theorem numOk_free {s : List UInt8} (h : numOk s = true) : ∀ x ∈ s, x ≠ 32 := by
  have h1 : (digsOf s).all isDig = true := by
    simp only [numOk, Bool.and_eq_true] at h
    exact h.2.1
  intro x hx e
  subst e
  unfold digsOf at h1
  split at h1
  · rename_i hn
    cases s with
    | nil => cases hx
    | cons c r =>
      have hc : c = 45 := by simpa [neg45] using hn
      subst hc
      rcases List.mem_cons.1 hx with hx | hx
      · revert hx; decide
      · have := List.all_eq_true.1 h1 _ hx
        revert this; decide
  · have := List.all_eq_true.1 h1 _ hx
    revert this; decide
theorem preA_iff {line : List UInt8} : preA line = true ↔ ∃ r, line = archW ++ 32 :: r := by
  unfold preA
  rw [decide_eq_true_eq]
  constructor
  · intro h
    refine ⟨line.drop 8, ?_⟩
    have := (List.take_append_drop 8 line).symm
    rw [h] at this
    exact this
  · rintro ⟨r, rfl⟩
    rfl
theorem archW_free : ∀ x ∈ archW, x ≠ (32 : UInt8) := by decide
theorem head_eq (line : List UInt8) : (headS line).2 = headP line ∧ (headP line = true → (headS line).1 = (readN (digsA line)).1 ∧ 0 ≤ (readN (digsA line)).1 ∧ (readN (digsA line)).1 ≤ 32) := by
  cases hp : preA line with
  | false =>
    have h1 : (headS line).2 = false := by
      unfold headS
      split
      · rename_i a b hs
        split
        · rename_i ha
          subst ha
          have h2 := splitC_join 32 line _ _ hs
          have h3 : preA line = true := preA_iff.2 ⟨b, by rw [h2]; simp⟩
          rw [hp] at h3
          cases h3
        · rfl
      · rfl
    have h2 : headP line = false := by unfold headP; rw [hp]; rfl
    rw [h1, h2]
    exact ⟨rfl, fun h => by cases h⟩
  | true =>
    obtain ⟨r, rfl⟩ := preA_iff.1 hp
    have hd : digsA (archW ++ 32 :: r) = r := by unfold digsA; rw [if_pos hp]; rfl
    have hP : headP (archW ++ 32 :: r) = ((readN r).2 && inB (readN r).1 0 32) := by unfold headP; rw [hp, hd]; rfl
    have hb : inB (readN r).1 0 32 = true → 0 ≤ (readN r).1 ∧ (readN r).1 ≤ 32 := fun h => by simpa [inB] using h
    rw [hP, hd]
    cases hn : numOk r with
    | true =>
      have h1 : headS (archW ++ 32 :: r) = ((readN r).1, (readN r).2 && inB (readN r).1 0 32) := by
        unfold headS
        rw [splitC_cat' _ archW_free, splitC_only (numOk_free hn)]
        simp
      rw [h1]
      refine ⟨rfl, fun h => ⟨rfl, hb ?_⟩⟩
      rw [Bool.and_eq_true] at h
      exact h.2
    | false =>
      have hr : readN r = (0, false) := by unfold readN; rw [hn]; simp
      rw [hr]
      refine ⟨?_, fun h => by cases h⟩
      unfold headS
      rw [splitC_cat' _ archW_free]
      cases hs : splitC 32 r with
      | nil => exact absurd hs (splitC_ne 32 r)
      | cons q qs =>
        cases qs with
        | nil =>
          have h2 := splitC_join 32 r _ _ hs
          simp only [List.map_nil, List.flatten_nil, List.append_nil] at h2
          subst h2
          simp [hr]
        | cons q2 qs => rfl
end Go.Eng
