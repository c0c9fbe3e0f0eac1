/-
  Plain law of TopicWords: words sorted by how many notes have them are those that are gathered number by number.
  No conditions.
-/
import Derived.Test.YtbpbhjlochijdaaDoorNP
set_option linter.unusedVariables false
set_option linter.unusedSimpArgs false
namespace Go.Eng
open Go Go.RowKit
/-- Ahead: in more notes, or in as many and smaller. -/
def ltT (c : List UInt8 → Nat) (x y : List UInt8) : Bool := decide (c y < c x) || (decide (c y = c x) && Op.bytesLess x y)
theorem ltT_iff {c : List UInt8 → Nat} {x y : List UInt8} : ltT c x y = true ↔ c y < c x ∨ (c y = c x ∧ Op.bytesLess x y = true) := by
  simp [ltT]
theorem ltT_irrefl (c : List UInt8 → Nat) (x : List UInt8) : ltT c x x = false := by
  rw [Bool.eq_false_iff]
  intro h
  rcases ltT_iff.1 h with h | ⟨_, h⟩
  · omega
  · rw [less_irrefl] at h; cases h
theorem ltT_trans {c : List UInt8 → Nat} {x y z : List UInt8} (h : ltT c x y = true) (k : ltT c y z = true) : ltT c x z = true := by
  rcases ltT_iff.1 h with h | ⟨h, h2⟩ <;> rcases ltT_iff.1 k with k | ⟨k, k2⟩ <;> refine ltT_iff.2 ?_
  · exact .inl (by omega)
  · exact .inl (by omega)
  · exact .inl (by omega)
  · exact .inr ⟨by omega, less_trans h2 k2⟩
theorem ltT_tot {c : List UInt8 → Nat} {x y : List UInt8} (h : ltT c x y = false) (k : ltT c y x = false) : x = y := by
  by_cases e : x = y
  · exact e
  · exfalso
    have h1 : ¬ (c y < c x ∨ (c y = c x ∧ Op.bytesLess x y = true)) := fun q => by rw [ltT_iff.2 q] at h; cases h
    have h2 : ¬ (c x < c y ∨ (c x = c y ∧ Op.bytesLess y x = true)) := fun q => by rw [ltT_iff.2 q] at k; cases k
    have e1 : c x = c y := by omega
    have e2 : Op.bytesLess x y = false := by
      rw [Bool.eq_false_iff]; intro q; exact h1 (.inr ⟨e1.symm, q⟩)
    exact h2 (.inr ⟨e1, less_tri e2 e⟩)
/-- Those of the words that N, N - 1, .. notes have: the first k numbers. -/
def topD (c : List UInt8 → Nat) (S : List (List UInt8)) (N : Nat) : Nat → List (List UInt8)
  | 0 => []
  | k + 1 => topD c S N k ++ S.filter fun w => decide (c w = N - k)
theorem topD_mem {c : List UInt8 → Nat} {S : List (List UInt8)} {N : Nat} {x : List UInt8} : ∀ {k : Nat}, k ≤ N → (x ∈ topD c S N k ↔ x ∈ S ∧ N - k < c x ∧ c x ≤ N)
  | 0, _ => by simp [topD] <;> omega
  | k + 1, h => by
    have ih := topD_mem (c := c) (S := S) (N := N) (x := x) (k := k) (by omega)
    rw [topD, List.mem_append, ih, List.mem_filter]
    simp only [decide_eq_true_eq]
    constructor
    · rintro (⟨h1, h2, h3⟩ | ⟨h1, h2⟩)
      · exact ⟨h1, by omega, h3⟩
      · exact ⟨h1, by omega, by omega⟩
    · rintro ⟨h1, h2, h3⟩
      by_cases e : c x = N - k
      · exact .inr ⟨h1, e⟩
      · exact .inl ⟨h1, by omega, h3⟩
theorem topD_pw {c : List UInt8 → Nat} {S : List (List UInt8)} (hS : S.Pairwise fun x y => Op.bytesLess x y = true) {N : Nat} : ∀ {k : Nat}, k ≤ N → (topD c S N k).Pairwise fun x y => ltT c x y = true
  | 0, _ => List.Pairwise.nil
  | k + 1, h => by
    rw [topD, List.pairwise_append]
    refine ⟨topD_pw hS (by omega), ?_, fun x hx y hy => ?_⟩
    · have hf : (S.filter fun w => decide (c w = N - k)).Pairwise fun x y => Op.bytesLess x y = true := hS.filter _
      refine hf.imp_of_mem fun {x y} hx hy hl => ltT_iff.2 (.inr ⟨?_, hl⟩)
      have h1 := (List.mem_filter.1 hx).2
      have h2 := (List.mem_filter.1 hy).2
      simp only [decide_eq_true_eq] at h1 h2
      omega
    · have h1 := (topD_mem (by omega)).1 hx
      have h2 := (List.mem_filter.1 hy).2
      simp only [decide_eq_true_eq] at h2
      exact ltT_iff.2 (.inl (by omega))
/-- The words as they come first. -/
def seenU (l : List (List UInt8)) : List (List UInt8) := l.foldl (fun u w => if u.contains w = true then u else u ++ [w]) []
theorem seenU_snoc (l : List (List UInt8)) (w : List UInt8) : seenU (l ++ [w]) = if (seenU l).contains w = true then seenU l else seenU l ++ [w] := by
  simp [seenU]
theorem snoc_ind {p : List (List UInt8) → Prop} (h0 : p []) (h1 : ∀ l w, p l → p (l ++ [w])) (l : List (List UInt8)) : p l := by
  have key : ∀ n, ∀ l : List (List UInt8), l.length = n → p l := by
    intro n
    induction n with
    | zero => intro l h; rw [List.length_eq_zero_iff.1 h]; exact h0
    | succ n ih =>
      intro l h
      have hne : l ≠ [] := by intro e; rw [e] at h; simp at h
      rw [← List.dropLast_concat_getLast hne]
      exact h1 _ _ (ih _ (by simp [h]))
  exact key _ l rfl
theorem seenU_mem (l : List (List UInt8)) : ∀ x, x ∈ seenU l ↔ x ∈ l := by
  refine snoc_ind (p := fun l => ∀ x, x ∈ seenU l ↔ x ∈ l) (by simp [seenU]) (fun l w ih x => ?_) l
  rw [seenU_snoc]
  by_cases h : (seenU l).contains w = true
  · rw [if_pos h]
    have hw : w ∈ l := (ih w).1 (List.contains_iff_mem.1 h)
    rw [ih]
    simp only [List.mem_append, List.mem_singleton]
    constructor
    · exact .inl
    · rintro (h | rfl)
      · exact h
      · exact hw
  · rw [if_neg h]
    simp [ih]
theorem seenU_nodup (l : List (List UInt8)) : (seenU l).Nodup := by
  refine snoc_ind (p := fun l => (seenU l).Nodup) (by simp [seenU]) (fun l w ih => ?_) l
  rw [seenU_snoc]
  by_cases h : (seenU l).contains w = true
  · rw [if_pos h]; exact ih
  · rw [if_neg h, List.nodup_append]
    refine ⟨ih, by simp, fun x hx y hy e => ?_⟩
    rw [List.mem_singleton] at hy
    subst hy
    subst e
    exact h (List.contains_iff_mem.2 hx)
theorem seenU_len (l : List (List UInt8)) : (seenU l).length ≤ l.length := by
  refine snoc_ind (p := fun l => (seenU l).length ≤ l.length) (by simp [seenU]) (fun l w ih => ?_) l
  rw [seenU_snoc]
  split <;> simp <;> omega
theorem count_seen {l : List (List UInt8)} {w : List UInt8} : l.count w = 0 ↔ ¬ (seenU l).contains w = true := by
  rw [List.contains_iff_mem, seenU_mem, List.count_eq_zero]
theorem withN_count {T : List (List (List UInt8))} (hT : ∀ ws ∈ T, ws.Nodup) (w : List UInt8) : ∀ k, k ≤ T.length → ((T.take k).flatten).count w = (withN T w k).length
  | 0, _ => by simp [withN]
  | k + 1, h => by
    have ih := withN_count hT w k (by omega)
    have hk : T[k]? = some T[k] := List.getElem?_eq_getElem (by omega)
    rw [List.take_add_one, hk, withN_succ, List.flatten_append, List.count_append, ih, List.length_append]
    congr 1
    have hn := hT T[k] (List.getElem_mem _)
    have e : hasW T k w = T[k].contains w := by simp [hasW, hk]
    rw [e]
    simp only [Option.toList_some, List.flatten_cons, List.flatten_nil, List.append_nil]
    by_cases hc : T[k].contains w = true
    · rw [if_pos hc, hn.count, if_pos (List.contains_iff_mem.1 hc)]; rfl
    · rw [if_neg hc, hn.count, if_neg (fun q => hc (List.contains_iff_mem.2 q))]; rfl
/-- How many notes have a word. -/
def cntT (T : List (List (List UInt8))) (w : List UInt8) : Nat := (withAll T w).length
theorem cntT_count {T : List (List (List UInt8))} (hT : ∀ ws ∈ T, ws.Nodup) (w : List UInt8) : (T.flatten).count w = cntT T w := by
  have := withN_count hT w T.length (Nat.le_refl _)
  rwa [List.take_length] at this
/-- All words, in order. -/
def allS (T : List (List (List UInt8))) : List (List UInt8) := T.flatten.foldl insS []
theorem allS_pw (T : List (List (List UInt8))) : (allS T).Pairwise fun x y => Op.bytesLess x y = true := (chain_pairwise (lt := Op.bytesLess) less_trans).1 (foldS_chain _ rfl)
theorem allS_mem {T : List (List (List UInt8))} {x : List UInt8} : x ∈ allS T ↔ x ∈ T.flatten := by
  unfold allS
  rw [foldS_mem]
  simp
theorem topic_law {T : List (List (List UInt8))} (hT : ∀ ws ∈ T, ws.Nodup) : (seenU T.flatten).mergeSort (fun x y => !ltT (cntT T) y x) = topD (cntT T) (allS T) T.length T.length := by
  refine strict_ext (lt := ltT (cntT T)) (ltT_irrefl _) ltT_trans ?_ (topD_pw (allS_pw T) (Nat.le_refl _)) fun x => ?_
  · have h1 : ((seenU T.flatten).mergeSort fun x y => !ltT (cntT T) y x).Pairwise fun x y => (!ltT (cntT T) y x) = true := by
      refine List.pairwise_mergeSort (fun a b c h k => ?_) (fun a b => ?_) _
      · simp only [Bool.not_eq_true'] at h k ⊢
        rw [Bool.eq_false_iff]
        intro q
        cases hba : ltT (cntT T) a b with
        | true =>
          have := ltT_trans q hba
          rw [k] at this; cases this
        | false =>
          have e := ltT_tot hba h
          subst e
          rw [k] at q; cases q
      · simp only [Bool.or_eq_true, Bool.not_eq_true']
        cases hab : ltT (cntT T) b a with
        | false => exact .inl rfl
        | true =>
          right
          rw [Bool.eq_false_iff]
          intro q
          have := ltT_trans q hab
          rw [ltT_irrefl] at this; cases this
    have h2 : ((seenU T.flatten).mergeSort fun x y => !ltT (cntT T) y x).Nodup := (List.mergeSort_perm _ _).nodup_iff.2 (seenU_nodup _)
    refine (h1.and h2).imp fun {x y} h => ?_
    obtain ⟨h3, h4⟩ := h
    simp only [Bool.not_eq_true'] at h3
    cases hxy : ltT (cntT T) x y with
    | true => rfl
    | false => exact absurd (ltT_tot hxy h3) h4
  · rw [List.mem_mergeSort, seenU_mem, topD_mem (Nat.le_refl _), allS_mem]
    constructor
    · intro h
      refine ⟨h, ?_, withAll_len T x⟩
      have := cntT_count hT x
      have h0 : 0 < (T.flatten).count x := List.count_pos_iff.2 h
      omega
    · exact fun h => h.1
/-- The first n of a list that grows. -/
theorem takeN_app {A : List (List UInt8)} {n : Nat} (B : List (List UInt8)) (h : ¬ (A.take n).length < n) : (A ++ B).take n = A.take n := by
  rw [List.length_take] at h
  rw [List.take_append_of_le_length (by omega)]
theorem takeN_snoc {A : List (List UInt8)} {n : Nat} (x : List UInt8) (h : (A.take n).length < n) : (A ++ [x]).take n = A.take n ++ [x] := by
  rw [List.length_take] at h
  rw [List.take_of_length_le (by simp; omega), List.take_of_length_le (by omega)]
end Go.Eng
