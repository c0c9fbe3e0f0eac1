/-
  Plain laws: the notes with a word, the weights of words, the scores of notes and their ranks.
  No conditions.
-/
import Derived.Test.YtbpbhjlochijdaaDoorWF0
set_option linter.unusedVariables false
set_option linter.unusedSimpArgs false
namespace Go.Eng
open Go Go.RowKit
/-- Is w a word of note k? -/
def hasW (T : List (List (List UInt8))) (k : Nat) (w : List UInt8) : Bool := (T.getD k []).contains w
/-- Those of the first k notes that have a word. -/
def withN (T : List (List (List UInt8))) (w : List UInt8) (k : Nat) : List Nat := (List.range k).filter fun i => hasW T i w
theorem withN_zero (T : List (List (List UInt8))) (w : List UInt8) : withN T w 0 = [] := rfl
theorem withN_succ (T : List (List (List UInt8))) (w : List UInt8) (k : Nat) : withN T w (k + 1) = withN T w k ++ (if hasW T k w = true then [k] else []) := by
  unfold withN
  rw [List.range_succ, List.filter_append]
  by_cases h : hasW T k w = true
  · simp [h]
  · simp [h]
theorem withN_len (T : List (List (List UInt8))) (w : List UInt8) (k : Nat) : (withN T w k).length ≤ k := by
  have := List.length_filter_le (fun i => hasW T i w) (List.range k)
  rw [List.length_range] at this
  exact this
theorem withN_mem {T : List (List (List UInt8))} {w : List UInt8} {k i : Nat} : i ∈ withN T w k ↔ i < k ∧ hasW T i w = true := by
  simp [withN]
/-- The notes with a word. -/
def withAll (T : List (List (List UInt8))) (w : List UInt8) : List Nat := withN T w T.length
theorem withAll_len (T : List (List (List UInt8))) (w : List UInt8) : (withAll T w).length ≤ T.length := withN_len T w _
def weightW (T : List (List (List UInt8))) (w : List UInt8) : Int :=
  if (withAll T w).length = 0 then 0 else 1000 + Int.tdiv (1000 * ((T.length : Int) - (withAll T w).length)) (withAll T w).length
theorem weightW_range {T : List (List (List UInt8))} (hT : T.length ≤ 20) (w : List UInt8) : 0 ≤ weightW T w ∧ weightW T w ≤ 21000 ∧ (weightW T w = 0 ↔ (withAll T w).length = 0) ∧ (weightW T w = 0 ∨ 1000 ≤ weightW T w) := by
  have h1 := withAll_len T w
  unfold weightW
  by_cases h : (withAll T w).length = 0
  · rw [if_pos h]; omega
  · rw [if_neg h]
    generalize hn : (withAll T w).length = n at *
    have h2 : 0 ≤ 1000 * ((T.length : Int) - n) := by omega
    have h3 : Int.tdiv (1000 * ((T.length : Int) - n)) n = (1000 * ((T.length : Int) - n)) / n := Int.tdiv_eq_ediv_of_nonneg h2
    have h4 : 0 ≤ (1000 * ((T.length : Int) - n)) / n := Int.ediv_nonneg h2 (by omega)
    have h5 : (1000 * ((T.length : Int) - n)) / n ≤ 1000 * ((T.length : Int) - n) := Int.ediv_le_self _ h2
    rw [h3]
    omega
def scoreW (T : List (List (List UInt8))) (k : Nat) (ws : List (List UInt8)) : Int := (ws.map fun w => if hasW T k w = true then weightW T w else 0).sum
theorem scoreW_nil (T : List (List (List UInt8))) (k : Nat) : scoreW T k [] = 0 := rfl
theorem scoreW_take {T : List (List (List UInt8))} {k j : Nat} {ws : List (List UInt8)} {w : List UInt8} (h : ws[j]? = some w) : scoreW T k (ws.take (j + 1)) = scoreW T k (ws.take j) + (if hasW T k w = true then weightW T w else 0) := by
  unfold scoreW
  rw [List.take_add_one, h]
  simp
theorem scoreW_range {T : List (List (List UInt8))} (hT : T.length ≤ 20) (k : Nat) : ∀ (ws : List (List UInt8)), 0 ≤ scoreW T k ws ∧ scoreW T k ws ≤ 21000 * ws.length ∧ (scoreW T k ws = 0 ∨ 1000 ≤ scoreW T k ws)
  | [] => by simp [scoreW]
  | w :: ws => by
    have ih := scoreW_range hT k ws
    have hw := weightW_range hT w
    have e : scoreW T k (w :: ws) = (if hasW T k w = true then weightW T w else 0) + scoreW T k ws := by simp [scoreW]
    rw [e, List.length_cons]
    split <;> omega
/-- The scores of the notes for some words. -/
def scoresW (T : List (List (List UInt8))) (ws : List (List UInt8)) : List Int := (List.range T.length).map fun k => scoreW T k ws
theorem scoresW_len (T : List (List (List UInt8))) (ws : List (List UInt8)) : (scoresW T ws).length = T.length := by simp [scoresW]
theorem scoresW_at {T : List (List (List UInt8))} {ws : List (List UInt8)} {k : Nat} (h : k < T.length) : (scoresW T ws)[k]? = some (scoreW T k ws) := by
  unfold scoresW
  rw [List.getElem?_map, List.getElem?_range h]
  rfl
theorem scoresW_nil (T : List (List (List UInt8))) : scoresW T [] = List.replicate T.length 0 := by
  unfold scoresW
  apply List.ext_getElem?
  intro i
  by_cases h : i < T.length
  · rw [List.getElem?_map, List.getElem?_range h, List.getElem?_replicate, if_pos h]; rfl
  · rw [List.getElem?_eq_none (by simp; omega), List.getElem?_eq_none (by simp; omega)]
/-- A weight is added to the scores of some notes. -/
def addI (v : Int) (S : List Int) (i : Nat) : List Int := S.set i (S.getD i 0 + v)
theorem addI_len (v : Int) (S : List Int) (i : Nat) : (addI v S i).length = S.length := by simp [addI]
theorem addAll_len (v : Int) : ∀ (l : List Nat) (S : List Int), (l.foldl (addI v) S).length = S.length
  | [], S => rfl
  | i :: l, S => by rw [List.foldl_cons, addAll_len v l, addI_len]
theorem addAll_take {v : Int} {l : List Nat} {S : List Int} {j i : Nat} (h : l[j]? = some i) : (l.take (j + 1)).foldl (addI v) S = addI v ((l.take j).foldl (addI v) S) i := by
  rw [List.take_add_one, h, List.foldl_append]
  rfl
theorem addAll_at (T : List (List (List UInt8))) (w : List UInt8) (v : Int) (S : List Int) : ∀ (m : Nat), m ≤ S.length → ∀ i, ((withN T w m).foldl (addI v) S)[i]? = S[i]?.map fun s => if i < m ∧ hasW T i w = true then s + v else s := by
  intro m
  induction m with
  | zero =>
    intro _ i
    rw [withN_zero]
    simp
  | succ m ih =>
    intro hm i
    have ih := ih (by omega)
    rw [withN_succ]
    by_cases h : hasW T m w = true
    · rw [if_pos h, List.foldl_append, List.foldl_cons, List.foldl_nil]
      have hlen := addAll_len v (withN T w m) S
      have hg : ((withN T w m).foldl (addI v) S).getD m 0 = S.getD m 0 := by
        rw [List.getD_eq_getElem?_getD, List.getD_eq_getElem?_getD, ih m]
        simp
      have e : addI v ((withN T w m).foldl (addI v) S) m = ((withN T w m).foldl (addI v) S).set m (S.getD m 0 + v) := by rw [← hg]; rfl
      rw [e]
      by_cases hi : i = m
      · subst hi
        rw [List.getElem?_set_self (by omega)]
        simp [List.getD_eq_getElem?_getD, List.getElem?_eq_getElem (show i < S.length by omega), h]
      · rw [List.getElem?_set_ne (by omega), ih i]
        congr 1
        funext s
        have : (i < m + 1 ∧ hasW T i w = true) ↔ (i < m ∧ hasW T i w = true) := by
          constructor
          · rintro ⟨h1, h2⟩; exact ⟨by omega, h2⟩
          · rintro ⟨h1, h2⟩; exact ⟨by omega, h2⟩
        simp [this]
    · rw [if_neg h, List.append_nil, ih i]
      congr 1
      funext s
      have : (i < m + 1 ∧ hasW T i w = true) ↔ (i < m ∧ hasW T i w = true) := by
        constructor
        · rintro ⟨h1, h2⟩
          refine ⟨?_, h2⟩
          by_cases e : i = m
          · subst e; exact absurd h2 h
          · omega
        · rintro ⟨h1, h2⟩; exact ⟨by omega, h2⟩
      simp [this]
theorem scores_step {T : List (List (List UInt8))} {ws : List (List UInt8)} {j : Nat} {w : List UInt8} (h : ws[j]? = some w) : (withAll T w).foldl (addI (weightW T w)) (scoresW T (ws.take j)) = scoresW T (ws.take (j + 1)) := by
  apply List.ext_getElem?
  intro i
  have hl := scoresW_len T (ws.take j)
  unfold withAll
  rw [addAll_at T w (weightW T w) _ T.length (by omega) i]
  by_cases hi : i < T.length
  · rw [scoresW_at hi, scoresW_at hi, Option.map_some, scoreW_take h]
    congr 1
    by_cases hw : hasW T i w = true
    · rw [if_pos ⟨hi, hw⟩, if_pos hw]
    · rw [if_neg (fun x => hw x.2), if_neg hw]; omega
  · rw [List.getElem?_eq_none (by omega), List.getElem?_eq_none (by rw [scoresW_len]; omega)]
    rfl

/-! ### Ranks -/
section
variable {α : Type}
/-- Where an element goes that passes by those behind it for which p says so. -/
def slotF (p : α → Bool) (l : List α) : Nat → Nat
  | 0 => 0
  | n + 1 => match l[n]? with
    | some x => if p x = true then slotF p l n else n + 1
    | none => n + 1
theorem slotF_le (p : α → Bool) (l : List α) : ∀ n, slotF p l n ≤ n
  | 0 => Nat.le_refl _
  | n + 1 => by
    unfold slotF
    have := slotF_le p l n
    split
    · split <;> omega
    · omega
theorem slotF_by {p : α → Bool} {l : List α} {n : Nat} {x : α} (h : l[n]? = some x) (hp : p x = true) : slotF p l (n + 1) = slotF p l n := by
  rw [slotF, h]
  simp [hp]
theorem slotF_stop {p : α → Bool} {l : List α} {n : Nat} {x : α} (h : l[n]? = some x) (hp : ¬ p x = true) : slotF p l (n + 1) = n + 1 := by
  rw [slotF, h]
  simp [hp]
def insR (bef : α → α → Bool) (l : List α) (x : α) : List α := l.take (slotF (bef x) l l.length) ++ x :: l.drop (slotF (bef x) l l.length)
theorem insR_len (bef : α → α → Bool) (l : List α) (x : α) : (insR bef l x).length = l.length + 1 := by
  have := slotF_le (bef x) l l.length
  simp [insR]
  omega
theorem insR_mem {bef : α → α → Bool} {l : List α} {x y : α} : y ∈ insR bef l x ↔ y = x ∨ y ∈ l := by
  have h : y ∈ l ↔ y ∈ l.take (slotF (bef x) l l.length) ∨ y ∈ l.drop (slotF (bef x) l l.length) := by
    rw [← List.mem_append, List.take_append_drop]
  rw [h]
  simp only [insR, List.mem_append, List.mem_cons]
  constructor
  · rintro (h1 | h1 | h1)
    · exact .inr (.inl h1)
    · exact .inl h1
    · exact .inr (.inr h1)
  · rintro (h1 | h1 | h1)
    · exact .inr (.inl h1)
    · exact .inl h1
    · exact .inr (.inr h1)
def rankR (bef : α → α → Bool) (l : List α) : List α := l.foldl (insR bef) []
theorem rankR_take {bef : α → α → Bool} {l : List α} {j : Nat} {x : α} (h : l[j]? = some x) : rankR bef (l.take (j + 1)) = insR bef (rankR bef (l.take j)) x := by
  unfold rankR
  rw [List.take_add_one, h, List.foldl_append]
  rfl
theorem rankR_len (bef : α → α → Bool) : ∀ (l : List α), (rankR bef l).length = l.length := by
  intro l
  have key : ∀ (l a : List α), (l.foldl (insR bef) a).length = a.length + l.length := by
    intro l
    induction l with
    | nil => intro a; rfl
    | cons x r ih =>
      intro a
      rw [List.foldl_cons, ih, insR_len, List.length_cons]
      omega
  have := key l []
  simpa [rankR] using this
theorem rankR_mem {bef : α → α → Bool} {x : α} : ∀ {l : List α}, x ∈ rankR bef l ↔ x ∈ l := by
  have key : ∀ (l a : List α), x ∈ l.foldl (insR bef) a ↔ x ∈ l ∨ x ∈ a := by
    intro l
    induction l with
    | nil => intro a; simp
    | cons y r ih =>
      intro a
      rw [List.foldl_cons, ih, insR_mem, List.mem_cons]
      constructor
      · rintro (h | h | h)
        · exact .inl (.inr h)
        · exact .inl (.inl h)
        · exact .inr h
      · rintro ((h | h) | h)
        · exact .inr (.inl h)
        · exact .inl h
        · exact .inr (.inr h)
  intro l
  have := key l []
  simpa [rankR] using this
end
/-- Note i goes ahead of note k: by its score, then by the number of its words. -/
def befN (S : List Int) (Z : List Nat) (i k : Nat) : Bool := decide (S.getD k 0 < S.getD i 0) || (decide (S.getD k 0 = S.getD i 0) && decide (Z.getD i 0 < Z.getD k 0))
/-- Those of the first k notes whose score is not 0. -/
def fitN (S : List Int) (k : Nat) : List Nat := (List.range k).filter fun i => !decide (S.getD i 0 = 0)
theorem fitN_succ (S : List Int) (k : Nat) : fitN S (k + 1) = fitN S k ++ (if S.getD k 0 = 0 then [] else [k]) := by
  unfold fitN
  have e : (!decide (S.getD k 0 = 0)) = true ↔ ¬ S.getD k 0 = 0 := by simp
  rw [List.range_succ, List.filter_append, List.filter_cons, List.filter_nil]
  by_cases h : S.getD k 0 = 0
  · rw [if_pos h, if_neg (by rw [e]; exact fun x => x h)]
  · rw [if_neg h, if_pos (e.2 h)]
theorem fitN_len (S : List Int) (k : Nat) : (fitN S k).length ≤ k := by
  have := List.length_filter_le (fun i => !decide (S.getD i 0 = 0)) (List.range k)
  rw [List.length_range] at this
  exact this
theorem fitN_mem {S : List Int} {k i : Nat} : i ∈ fitN S k ↔ i < k ∧ S.getD i 0 ≠ 0 := by
  simp [fitN]
def rankN (S : List Int) (Z : List Nat) (k : Nat) : List Nat := rankR (befN S Z) (fitN S k)
theorem rankN_succ (S : List Int) (Z : List Nat) (k : Nat) : rankN S Z (k + 1) = if S.getD k 0 = 0 then rankN S Z k else insR (befN S Z) (rankN S Z k) k := by
  unfold rankN
  rw [fitN_succ]
  by_cases h : S.getD k 0 = 0
  · rw [if_pos h, if_pos h, List.append_nil]
  · rw [if_neg h, if_neg h]
    unfold rankR
    rw [List.foldl_append]
    rfl
theorem rankN_len (S : List Int) (Z : List Nat) (k : Nat) : (rankN S Z k).length ≤ k := by
  unfold rankN
  rw [rankR_len]
  exact fitN_len S k
theorem rankN_mem {S : List Int} {Z : List Nat} {k i : Nat} : i ∈ rankN S Z k ↔ i < k ∧ S.getD i 0 ≠ 0 := by
  unfold rankN
  rw [rankR_mem, fitN_mem]
end Go.Eng
