/-
  Plain laws: stars read from their texts.
  No conditions.
-/
import Derived.Test.YtbpbhjlochijdaaGreatDoorSP0
import Derived.Test.YtbpbhjlochijdaaGreatDoorND0
import Derived.Test.YtbpbhjlochijdaaGreatDoorST0
set_option linter.unusedVariables false
set_option linter.unusedSimpArgs false
namespace Go.Eng
open Go Go.RowKit

theorem splitC_join (c : UInt8) : ∀ (s : List UInt8) (p : List UInt8) (ps : List (List UInt8)), splitC c s = p :: ps → s = p ++ (ps.map (c :: ·)).flatten
  | [], p, ps, h => by
    obtain ⟨rfl, rfl⟩ := List.cons.inj h
    rfl
  | b :: r, p, ps, h => by
    rw [splitC] at h
    cases hs : splitC c r with
    | nil => exact absurd hs (splitC_ne c r)
    | cons q qs =>
      have ih := splitC_join c r q qs hs
      by_cases hb : b = c
      · rw [if_pos hb, hs] at h
        obtain ⟨rfl, rfl⟩ := List.cons.inj h
        rw [hb, ih]
        simp
      · rw [if_neg hb, hs] at h
        obtain ⟨rfl, rfl⟩ := List.cons.inj h
        rw [ih]
        simp
theorem splitC_cat' {c : UInt8} {p : List UInt8} (l : List UInt8) (h : ∀ x ∈ p, x ≠ c) : splitC c (p ++ c :: l) = p :: splitC c l := by
  rw [splitC_hit (m := p.length) (fun j hj e => ?_) (by simp)]
  · simp
  · rw [List.getElem?_append_left hj] at e
    exact h _ (List.mem_of_getElem? e) rfl
theorem splitC_only {c : UInt8} {p : List UInt8} (h : ∀ x ∈ p, x ≠ c) : splitC c p = [p] := splitC_none fun j e => h _ (List.mem_of_getElem? e) rfl
theorem itoa_free (n : Int) : ∀ x ∈ Lib.itoa n, x ≠ 32 := fun x hx e => by
  have := itoa_bytes n x hx
  rw [e] at this
  revert this
  decide
theorem name_free {l : List UInt8} (h : nameB l = true) : ∀ x ∈ l, x ≠ 32 := fun x hx e => by
  simp only [nameB, Bool.and_eq_true, List.all_eq_true] at h
  have h1 := h.2.2.2 x hx
  rw [e] at h1
  revert h1
  decide
theorem name_ne {l : List UInt8} (h : nameB l = true) : l ≠ [] := fun e => by
  rw [e] at h
  revert h
  decide
theorem num_ne {l : List UInt8} (h : numOk l = true) : l ≠ [] := fun e => by
  rw [e] at h
  revert h
  decide
def starOf (a b c d e : List UInt8) : TStar := ⟨a, numV b, numV c, numV d, numV e⟩
/-- The star with five words. -/
def star5 : List (List UInt8) → Option TStar
  | [a, b, c, d, e] => if numOk b = true ∧ numOk c = true ∧ numOk d = true ∧ numOk e = true then (if starB (starOf a b c d e) = true then some (starOf a b c d e) else none) else none
  | _ => none
def readStar (s : List UInt8) : Option TStar := star5 (splitC 32 s)
def wordsOf (s : List UInt8) : List (List UInt8) := (splitC 32 s).filter fun p => !p.isEmpty
/-- What the program reads. -/
def readStarP (s : List UInt8) : Option TStar := match star5 (wordsOf s) with
  | some x => if starText x = s then some x else none
  | none => none
theorem star5_some {w : List (List UInt8)} {x : TStar} (h : star5 w = some x) : ∃ a b c d e, w = [a, b, c, d, e] ∧ (numOk b = true ∧ numOk c = true ∧ numOk d = true ∧ numOk e = true) ∧ starB x = true ∧ x = starOf a b c d e := by
  unfold star5 at h
  split at h
  · rename_i a b c d e
    split at h
    · rename_i h1
      split at h
      · rename_i h2
        cases h
        exact ⟨a, b, c, d, e, rfl, h1, h2, rfl⟩
      · cases h
    · cases h
  · cases h
theorem starText_split {x : TStar} (h : starB x = true) : splitC 32 (starText x) = [x.fId, Lib.itoa x.fRight, Lib.itoa x.fDeclination, Lib.itoa x.fMagnitude, Lib.itoa x.fColour] := by
  have hn : nameB x.fId = true := by
    simp only [starB, Bool.and_eq_true] at h
    exact h.1
  have e : starText x = x.fId ++ 32 :: (Lib.itoa x.fRight ++ 32 :: (Lib.itoa x.fDeclination ++ 32 :: (Lib.itoa x.fMagnitude ++ 32 :: Lib.itoa x.fColour))) := by simp [starText]
  rw [e, splitC_cat' _ (name_free hn), splitC_cat' _ (itoa_free _), splitC_cat' _ (itoa_free _), splitC_cat' _ (itoa_free _), splitC_only (itoa_free _)]
theorem itoa_ne (n : Int) : (Lib.itoa n).isEmpty = false := by
  cases h : Lib.itoa n with
  | nil =>
    unfold Lib.itoa at h
    split at h
    · cases h
    · exact absurd h (decDigits_ne _)
  | cons c r => rfl
theorem ne_empty {l : List UInt8} (h : l ≠ []) : l.isEmpty = false := by
  cases l with
  | nil => exact absurd rfl h
  | cons c r => rfl
theorem starText_words {x : TStar} (h : starB x = true) : wordsOf (starText x) = splitC 32 (starText x) := by
  have hn : nameB x.fId = true := by
    simp only [starB, Bool.and_eq_true] at h
    exact h.1
  unfold wordsOf
  rw [starText_split h]
  simp [itoa_ne, ne_empty (name_ne hn)]
theorem readStar_text {s : List UInt8} {x : TStar} (h : readStar s = some x) : starText x = s ∧ wordsOf s = splitC 32 s := by
  obtain ⟨a, b, c, d, e, h1, ⟨h2, h3, h4, h5⟩, h6, rfl⟩ := star5_some h
  have ht : starText (starOf a b c d e) = s := by
    rw [splitC_join 32 s _ _ h1]
    simp [starText, starOf, (parse_good h2).2, (parse_good h3).2, (parse_good h4).2, (parse_good h5).2]
  refine ⟨ht, ?_⟩
  have := starText_words h6
  rw [ht] at this
  exact this
/-- The program reads what the reference reads. -/
theorem readStarP_eq (s : List UInt8) : readStarP s = readStar s := by
  cases h : readStar s with
  | some x =>
    obtain ⟨h1, h2⟩ := readStar_text h
    unfold readStarP
    rw [h2]
    rw [show star5 (splitC 32 s) = some x from h]
    simp only
    rw [if_pos h1]
  | none =>
    unfold readStarP
    cases h1 : star5 (wordsOf s) with
    | none => rfl
    | some x =>
      simp only
      by_cases h2 : starText x = s
      · obtain ⟨a, b, c, d, e, _, _, h3, _⟩ := star5_some h1
        have h4 := starText_words h3
        rw [h2] at h4
        rw [h4] at h1
        unfold readStar at h
        rw [h] at h1
        cases h1
      · rw [if_neg h2]
end Go.Eng
