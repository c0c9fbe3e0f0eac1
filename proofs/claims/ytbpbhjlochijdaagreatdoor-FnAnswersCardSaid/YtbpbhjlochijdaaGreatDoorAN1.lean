/-
  Plain laws of FnAnswers: a note added, taken away, and notes read back from their text.
  No conditions.
-/
import Derived.Test.YtbpbhjlochijdaaGreatDoorNA
import Derived.Test.YtbpbhjlochijdaaGreatDoorNL
import Derived.Test.YtbpbhjlochijdaaGreatDoorBN
set_option linter.unusedVariables false
set_option linter.unusedSimpArgs false
namespace Go.Eng
open Go Go.RowKit
/-- No note has the name of a note that is new. -/
theorem nt_new {a : List TNote} {x : TNote} (hv : validNs a = true) (hh : ntHas a x = false) : ∀ y ∈ a, y.fId ≠ x.fId := fun y hy e => by
  obtain ⟨i, hi⟩ := List.getElem?_of_mem hy
  by_cases h1 : i < ntAt a x
  · have := insAt_low (lt := ltNote) h1 hi
    unfold ltNote at this
    rw [e, less_irrefl] at this
    cases this
  · by_cases h2 : i = ntAt a x
    · subst h2
      unfold ntHas at hh
      rw [hi] at hh
      simp [e] at hh
    · have hg := (List.getElem?_eq_some_iff.1 hi)
      obtain ⟨g1, e1⟩ := hg
      have g2 : ntAt a x < a.length := by omega
      have hp := List.pairwise_iff_getElem.1 (validNs_pw hv) (ntAt a x) i g2 g1 (by omega)
      have hq := insAt_here (lt := ltNote) (a := a) (t := x) (x := a[ntAt a x]) (List.getElem?_eq_getElem g2)
      rw [e1] at hp
      unfold ltNote at hp hq
      rw [e] at hp
      rw [hp] at hq
      cases hq
theorem drop_add {a : List TNote} {x : TNote} (hv : validNs a = true) (hh : ntHas a x = false) : dropN x.fId (addN a x) = a := by
  have hn := nt_new hv hh
  have hf : ∀ l : List TNote, (∀ y ∈ l, y.fId ≠ x.fId) → dropN x.fId l = l := fun l hl => by
    unfold dropN
    rw [List.filter_eq_self]
    intro y hy
    have := hl y hy
    simp [isNt, this]
  have e : dropN x.fId (addN a x) = dropN x.fId (a.take (ntAt a x)) ++ dropN x.fId (a.drop (ntAt a x)) := by
    unfold dropN addN
    rw [List.filter_append, List.filter_cons]
    simp [isNt]
  rw [e, hf _ fun y hy => hn y (List.mem_of_mem_take hy), hf _ fun y hy => hn y (List.mem_of_mem_drop hy), List.take_append_drop]
theorem add_valid {a : List TNote} {x : TNote} (hv : validNs a = true) (hx : validN x = true) (hh : ntHas a x = false) (hl : a.length ≠ 20) : validNs (addN a x) = true := by
  have hn := nt_new hv hh
  obtain ⟨v1, v2, v3⟩ := validNs_iff.1 hv
  refine validNs_iff.2 ⟨by rw [addN_len]; omega, fun y hy => ?_, (chain_pairwise (lt := ltNote) ltNote_trans).2 ?_⟩
  · unfold addN at hy
    rcases List.mem_append.1 hy with h | h
    · exact v2 y (List.mem_of_mem_take h)
    · rcases List.mem_cons.1 h with rfl | h
      · exact hx
      · exact v2 y (List.mem_of_mem_drop h)
  · have hp := validNs_pw hv
    have hlow : ∀ y ∈ a.take (ntAt a x), ltNote y x = true := fun y hy => by
      obtain ⟨i, hi⟩ := List.getElem?_of_mem hy
      have hi2 : i < ntAt a x := by
        have := (List.getElem?_eq_some_iff.1 hi).1
        rw [List.length_take] at this
        omega
      rw [List.getElem?_take_of_lt hi2] at hi
      exact insAt_low (lt := ltNote) hi2 hi
    have hhi : ∀ y ∈ a.drop (ntAt a x), ltNote x y = true := fun y hy => by
      have hym := hn y (List.mem_of_mem_drop hy)
      obtain ⟨i, hi⟩ := List.getElem?_of_mem hy
      rw [List.getElem?_drop] at hi
      obtain ⟨g1, e1⟩ := List.getElem?_eq_some_iff.1 hi
      have g2 : ntAt a x < a.length := by omega
      have hq := insAt_here (lt := ltNote) (a := a) (t := x) (x := a[ntAt a x]) (List.getElem?_eq_getElem g2)
      have hne := hn _ (List.getElem_mem g2)
      have hr : ltNote x a[ntAt a x] = true := less_tri hq hne
      by_cases e0 : i = 0
      · subst e0
        have : y = a[ntAt a x] := by rw [← e1]; simp
        rw [this]
        exact hr
      · have := List.pairwise_iff_getElem.1 hp (ntAt a x) (ntAt a x + i) g2 g1 (by omega)
        rw [e1] at this
        exact ltNote_trans hr this
    have hp2 := hp
    rw [← List.take_append_drop (ntAt a x) a, List.pairwise_append] at hp2
    unfold addN
    rw [List.pairwise_append, List.pairwise_cons]
    refine ⟨hp2.1, ⟨hhi, hp2.2.1⟩, fun y hy z hz => ?_⟩
    rcases List.mem_cons.1 hz with rfl | hz
    · exact hlow y hy
    · exact hp2.2.2 y hy z hz
theorem add_has {a : List TNote} {x : TNote} : firstAt (isNt x.fId) (addN a x) < (addN a x).length := by
  have hm : x ∈ addN a x := by simp [addN]
  by_cases h : firstAt (isNt x.fId) (addN a x) < (addN a x).length
  · exact h
  · exfalso
    have h2 : firstAt (isNt x.fId) (addN a x) = (addN a x).length := Nat.le_antisymm (firstAt_le _ _) (Nat.not_lt.1 h)
    have := dropN_none h2
    unfold dropN at this
    have h3 := List.filter_eq_self.1 this x hm
    simp [isNt] at h3
theorem splitC_catN {c : UInt8} {p : List UInt8} (l : List UInt8) (h : ∀ x ∈ p, x ≠ c) : splitC c (p ++ c :: l) = p :: splitC c l := by
  rw [splitC_hit (m := p.length) (fun j hj e => ?_) (by simp)]
  · simp
  · rw [List.getElem?_append_left hj] at e
    exact h _ (List.mem_of_getElem? e) rfl
theorem cutTx_catN {c : UInt8} {p : List UInt8} (l : List UInt8) (h : ∀ x ∈ p, x ≠ c) : cutTx c (p ++ c :: l) = (p, l, true) := by
  rw [cutTx_hit (m := p.length) (fun j hj e => ?_) (by simp)]
  · simp
  · rw [List.getElem?_append_left hj] at e
    exact h _ (List.mem_of_getElem? e) rfl
/-- The line of a note, without its end. -/
def lineP (x : TNote) : List UInt8 := x.fId ++ 32 :: x.fText
theorem validN_free {x : TNote} (h : validN x = true) : (∀ c ∈ x.fId, c ≠ 32 ∧ c ≠ 10) ∧ ∀ c ∈ x.fText, c ≠ 10 := by
  simp only [validN, nameB, textB, Bool.and_eq_true, decide_eq_true_eq] at h
  obtain ⟨⟨_, _, _, h1⟩, ⟨_, h2⟩, _⟩ := h
  refine ⟨fun c hc => ?_, fun c hc e => ?_⟩
  · have := List.all_eq_true.1 h1 c hc
    constructor <;> (rintro rfl; revert this; decide)
  · have := List.all_eq_true.1 h2 c hc
    subst e
    revert this
    decide
theorem line_read {x : TNote} (h : validN x = true) : okL (lineP x) = true ∧ noteL (lineP x) = x := by
  have hf := validN_free h
  have hc := cutTx_catN (c := 32) (p := x.fId) x.fText fun c hc => (hf.1 c hc).1
  unfold okL noteL lineP
  rw [hc]
  exact ⟨rfl, rfl⟩
theorem text_split : ∀ {a : List TNote}, (∀ x ∈ a, validN x = true) → splitC 10 (textN a) = a.map lineP ++ [[]]
  | [], _ => rfl
  | x :: a, h => by
    have hf := validN_free (h x (by simp))
    have e : textN (x :: a) = lineP x ++ 10 :: textN a := by simp [textN, lineN, lineP]
    rw [e, splitC_catN _ fun c hc => ?_, text_split fun y hy => h y (by simp [hy])]
    · rfl
    · unfold lineP at hc
      rcases List.mem_append.1 hc with h1 | h1
      · exact (hf.1 c h1).2
      · rcases List.mem_cons.1 h1 with rfl | h1
        · decide
        · exact hf.2 c h1
theorem text_read {a : List TNote} (hv : validNs a = true) : (a.map lineP).all okL = true ∧ (a.map lineP).map noteL = a := by
  have hv2 := (validNs_iff.1 hv).2.1
  refine ⟨?_, ?_⟩
  · rw [List.all_eq_true]
    intro l hl
    obtain ⟨x, hx, rfl⟩ := List.mem_map.1 hl
    exact (line_read (hv2 x hx)).1
  · rw [List.map_map]
    have : ∀ l : List TNote, (∀ x ∈ l, validN x = true) → l.map (noteL ∘ lineP) = l := fun l hl => by
      conv => rhs; rw [← List.map_id l]
      exact List.map_congr_left fun x hx => (line_read (hl x hx)).2
    exact this a hv2
end Go.Eng
