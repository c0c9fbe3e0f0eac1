/-
  Plain laws: the reference's way through a text, word by word.
  No conditions.
-/
import Derived.Test.YtlkjechbejfnhaaGreatDoorWF0
set_option linter.unusedVariables false
set_option linter.unusedSimpArgs false
namespace Go.Eng
open Go Go.RowKit
set_option maxRecDepth 100000
theorem flds_trail : ∀ (l cur : List UInt8), flds cur (l ++ [32]) = flds cur l
  | [], cur => by
    have hc : ¬ wordC 32 = true := by decide
    by_cases h : cur = []
    · rw [h, List.nil_append, flds_gap hc]
    · rw [List.nil_append, flds_end hc h, flds_nil, flds_nil, if_pos rfl, if_neg h]
  | c :: l, cur => by
    rw [List.cons_append]
    by_cases hc : wordC c = true
    · rw [flds_in hc, flds_in hc, flds_trail l]
    · by_cases h : cur = []
      · rw [h, flds_gap hc, flds_gap hc, flds_trail l]
      · rw [flds_end hc h, flds_end hc h, flds_trail l]
/-- What has been found and what is still to come. -/
structure WInv (s : List UInt8) (k : Nat) (out : List (List UInt8)) (word : List UInt8) : Prop where
  le : k ≤ s.length + 1
  ch : chain Op.bytesLess out = true
  eq : (flds word ((lowL s ++ [32]).drop k)).foldl insS out = wordsL s
  len : out.length + word.length ≤ k
  fin : k = s.length + 1 → word = []
theorem winv_zero (s : List UInt8) : WInv s 0 [] [] :=
  ⟨Nat.zero_le _, rfl, by rw [List.drop_zero, flds_trail]; rfl, Nat.le_refl _, fun h => by omega⟩
theorem winv_at {s : List UInt8} {k : Nat} {c : UInt8} (h : s[k]? = some c) : (lowL s ++ [32]).drop k = Lib.lowerB c :: (lowL s ++ [32]).drop (k + 1) := by
  obtain ⟨hk1, hk2⟩ := List.getElem?_eq_some_iff.1 h
  have hl : k < (lowL s ++ [32]).length := by simp [lowL]; omega
  rw [List.drop_eq_getElem_cons hl]
  congr 1
  rw [List.getElem_append_left (by simp [lowL]; omega)]
  simp [lowL, hk2]
theorem winv_end (s : List UInt8) : (lowL s ++ [32]).drop s.length = 32 :: (lowL s ++ [32]).drop (s.length + 1) := by
  have hl : s.length < (lowL s ++ [32]).length := by simp [lowL]
  rw [List.drop_eq_getElem_cons hl]
  congr 1
  rw [List.getElem_append_right (by simp [lowL])]
  simp
theorem winv_in {s : List UInt8} {k : Nat} {out : List (List UInt8)} {word : List UInt8} (h : WInv s k out word) {c : UInt8} (hc : s[k]? = some c) (hw : wordC (Lib.lowerB c) = true) : WInv s (k + 1) out (word ++ [Lib.lowerB c]) := by
  have hk := (List.getElem?_eq_some_iff.1 hc).1
  have h2 := h.eq
  rw [winv_at hc, flds_in hw] at h2
  exact ⟨by omega, h.ch, h2, by have := h.len; simp; omega, fun e => by omega⟩
theorem insS_len_le (a : List (List UInt8)) (t : List UInt8) : (insS a t).length ≤ a.length + 1 := by
  show (insL Op.bytesLess (fun x y => x == y) a t).length ≤ _
  rw [insL_length]
  split <;> omega
theorem winv_gap {s : List UInt8} {k : Nat} {out : List (List UInt8)} (h : WInv s k out []) {c : UInt8} (hc : (lowL s ++ [32]).drop k = c :: (lowL s ++ [32]).drop (k + 1)) (hk : k ≤ s.length) (hw : ¬ wordC c = true) : WInv s (k + 1) out [] := by
  have h2 := h.eq
  rw [hc, flds_gap hw] at h2
  exact ⟨by omega, h.ch, h2, by have := h.len; simp at this ⊢; omega, fun _ => rfl⟩
theorem winv_cut {s : List UInt8} {k : Nat} {out : List (List UInt8)} {word : List UInt8} (h : WInv s k out word) (hne : word ≠ []) {c : UInt8} (hc : (lowL s ++ [32]).drop k = c :: (lowL s ++ [32]).drop (k + 1)) (hk : k ≤ s.length) (hw : ¬ wordC c = true) : WInv s (k + 1) (insS out word) [] := by
  have h2 := h.eq
  rw [hc, flds_end hw hne, List.foldl_cons] at h2
  refine ⟨by omega, insS_chain h.ch _, h2, ?_, fun _ => rfl⟩
  have h3 := h.len
  have h4 := insS_len_le out word
  have h5 : 0 < word.length := List.length_pos_iff.2 hne
  simp
  omega
theorem winv_done {s : List UInt8} {out : List (List UInt8)} {word : List UInt8} (h : WInv s (s.length + 1) out word) : out = wordsL s := by
  have h2 := h.eq
  rw [h.fin rfl, List.drop_of_length_le (by simp [lowL]), flds_nil, if_pos rfl] at h2
  exact h2
theorem lowerB_up {c : UInt8} (h : 65 ≤ c.toNat) (h2 : c.toNat ≤ 90) : (Lib.lowerB c).toNat = c.toNat + 32 := by
  have key : ∀ i : Fin 256, 65 ≤ i.val → i.val ≤ 90 → (Lib.lowerB (UInt8.ofNat i.val)).toNat = i.val + 32 := by decide
  have := key ⟨c.toNat, c.toNat_lt⟩ h h2
  simpa using this
theorem lowerB_else {c : UInt8} (h : c.toNat < 65 ∨ 90 < c.toNat) : Lib.lowerB c = c := by
  have key : ∀ i : Fin 256, (i.val < 65 ∨ 90 < i.val) → Lib.lowerB (UInt8.ofNat i.val) = UInt8.ofNat i.val := by decide
  have := key ⟨c.toNat, c.toNat_lt⟩ h
  simpa using this
theorem wordsL_len (s : List UInt8) : (wordsL s).length ≤ s.length := by
  have h1 := foldS_len (flds [] (lowL s)) []
  have h2 := flds_len (lowL s) []
  have h3 : (lowL s).length = s.length := by simp [lowL]
  unfold wordsL
  rw [List.length_nil] at h1 h2
  omega
theorem wordsL_chain (s : List UInt8) : chain Op.bytesLess (wordsL s) = true := foldS_chain _ rfl
end Go.Eng
