/-
  Plain laws: the words of a text, each once, in order.
  No conditions.
-/
import Derived.Test.YtigdnelbanaieaaGreatDoorED
import Derived.Lib.FieldsP
import Derived.Lib.TrimUEq
import Derived.Lib.TrimAscii
import Derived.Lib.SlicesCompact
import Derived.Lib.Case
import Derived.Sort.Walk0
set_option linter.unusedVariables false
set_option linter.unusedSimpArgs false
namespace Go.Eng
open Go Go.RowKit

/-- One word put into an ordered list. -/
def insS (a : List (List UInt8)) (t : List UInt8) : List (List UInt8) := insL Op.bytesLess (fun x y => x == y) a t
theorem insS_tot (x t : List UInt8) (h1 : Op.bytesLess x t = false) (h2 : (t == x) = false) : Op.bytesLess t x = true :=
  less_tri h1 fun e => by rw [e] at h2; simp at h2
theorem insS_con (t x y : List UInt8) (h1 : (t == x) = true) (h2 : Op.bytesLess x y = true) : Op.bytesLess t y = true := by
  rw [eq_of_beq h1]; exact h2
theorem insS_chain {a : List (List UInt8)} (h : chain Op.bytesLess a = true) (t : List UInt8) : chain Op.bytesLess (insS a t) = true :=
  insL_chain (lt := Op.bytesLess) (eqk := fun x y => x == y) less_trans (fun x => insS_tot x t) (fun x y => insS_con t x y) h
theorem insS_mem {a : List (List UInt8)} {t x : List UInt8} : x ∈ insS a t ↔ x = t ∨ x ∈ a := by
  constructor
  · exact insL_mem
  · intro h
    unfold insS insL
    rcases h with rfl | h
    · simp
    · have h0 : a.take (insAt Op.bytesLess a t) ++ a.drop (insAt Op.bytesLess a t) = a := List.take_append_drop _ _
      rw [← h0, List.mem_append] at h
      rcases h with h | h
      · simp [h]
      · unfold insN
        split
        · rename_i hf
          have hl := insF_lt hf
          rw [List.drop_eq_getElem_cons hl, List.mem_cons] at h
          rcases h with h | h
          · unfold insF at hf
            rw [List.getElem?_eq_getElem hl] at hf
            have : t = a[insAt Op.bytesLess a t] := by simpa using hf
            rw [h, ← this]
            simp
          · simp [h]
        · simp [h]
theorem foldS_chain (l : List (List UInt8)) : ∀ {a : List (List UInt8)}, chain Op.bytesLess a = true → chain Op.bytesLess (l.foldl insS a) = true := by
  induction l with
  | nil => intro a h; exact h
  | cons x r ih => intro a h; exact ih (insS_chain h x)
theorem foldS_mem (l : List (List UInt8)) : ∀ {a : List (List UInt8)} {x : List UInt8}, x ∈ l.foldl insS a ↔ x ∈ l ∨ x ∈ a := by
  induction l with
  | nil => intro a x; simp
  | cons y r ih =>
    intro a x
    rw [List.foldl_cons, ih, insS_mem, List.mem_cons]
    constructor
    · rintro (h | h | h)
      · exact .inl (.inr h)
      · exact .inl (.inl h)
      · exact .inr h
    · rintro ((h | h) | h)
      · exact .inr (.inl h)
      · exact .inl h
      · exact .inr (.inr h)
theorem foldS_len (l : List (List UInt8)) : ∀ (a : List (List UInt8)), (l.foldl insS a).length ≤ a.length + l.length := by
  induction l with
  | nil => intro a; simp
  | cons y r ih =>
    intro a
    have h1 := ih (insS a y)
    have h2 := insL_length (lt := Op.bytesLess) (eqk := fun x y => x == y) a y
    have h3 : (insS a y).length ≤ a.length + 1 := by
      show (insL Op.bytesLess (fun x y => x == y) a y).length ≤ _
      rw [h2]
      split <;> omega
    rw [List.foldl_cons, List.length_cons]
    omega
/-- Two strictly ordered lists with the same elements are one. -/
theorem strict_ext {α : Type} {lt : α → α → Bool} (hi : ∀ x, lt x x = false) (ht : ∀ {x y z : α}, lt x y = true → lt y z = true → lt x z = true) : ∀ {a b : List α}, a.Pairwise (fun x y => lt x y = true) → b.Pairwise (fun x y => lt x y = true) → (∀ x, x ∈ a ↔ x ∈ b) → a = b
  | [], [], _, _, _ => rfl
  | [], y :: b, _, _, h => by have := (h y).2 (by simp); cases this
  | x :: a, [], _, _, h => by have := (h x).1 (by simp); cases this
  | x :: a, y :: b, ha, hb, h => by
    rw [List.pairwise_cons] at ha hb
    have hxy : x = y := by
      have h1 := (h x).1 (by simp)
      have h2 := (h y).2 (by simp)
      rcases List.mem_cons.1 h1 with e | h1
      · exact e
      rcases List.mem_cons.1 h2 with e | h2
      · exact e.symm
      have h3 := ht (ha.1 y h2) (hb.1 x h1)
      rw [hi] at h3
      cases h3
    subst hxy
    congr 1
    refine strict_ext hi ht ha.2 hb.2 fun z => ⟨fun hz => ?_, fun hz => ?_⟩
    · rcases List.mem_cons.1 ((h z).1 (by simp [hz])) with e | h1
      · subst e
        have := ha.1 z hz
        rw [hi] at this
        cases this
      · exact h1
    · rcases List.mem_cons.1 ((h z).2 (by simp [hz])) with e | h1
      · subst e
        have := hb.1 z hz
        rw [hi] at this
        cases this
      · exact h1
/-- What stays where each element that equals the one before it goes. -/
def uniq : List UInt8 → List (List UInt8) → List (List UInt8)
  | _, [] => []
  | y, x :: r => if x = y then uniq x r else x :: uniq x r
theorem compact_cons (x : List UInt8) (r : List (List UInt8)) : Lib.compact (x :: r) = x :: uniq x r := by
  have key : ∀ (r : List (List UInt8)) (p : List (List UInt8)) (y : List UInt8), p.getLast? = some y → (((List.range' p.length r.length).filter (Lib.keeps (p ++ r).toArray)).map ((p ++ r).toArray[·]!)) = uniq y r := by
    intro r
    induction r with
    | nil => intro p y _; simp [uniq]
    | cons z r ih =>
      intro p y hy
      have hp : 0 < p.length := by
        cases p with
        | nil => cases hy
        | cons => simp
      have ez : (p ++ z :: r).toArray[p.length]! = z := by
        rw [getElem!_pos _ _ (by simp)]; simp
      have ey : (p ++ z :: r).toArray[p.length - 1]! = y := by
        rw [getElem!_pos _ _ (by simp; omega), List.getElem_toArray, List.getElem_append_left (by omega)]
        rw [List.getLast?_eq_getElem?] at hy
        exact (List.getElem?_eq_some_iff.1 hy).2
      have ih2 := ih (p ++ [z]) z (by simp)
      rw [List.append_assoc, List.singleton_append, List.length_append, List.length_singleton] at ih2
      rw [List.length_cons, List.range'_succ, List.filter_cons, uniq]
      by_cases hzy : z = y
      · have hk : Lib.keeps (p ++ z :: r).toArray p.length = false := Lib.keeps_neg hp (by rw [ez, ey]; exact hzy)
        rw [hk, if_pos hzy, ← ih2]
        rfl
      · have hk : Lib.keeps (p ++ z :: r).toArray p.length = true := Lib.keeps_pos (by rw [ez, ey]; exact hzy)
        rw [hk, if_neg hzy, ← ih2, if_pos rfl, List.map_cons, ez]
  have h1 := key r [x] x rfl
  unfold Lib.compact Lib.compactUpTo
  rw [List.length_cons, List.range_eq_range', List.range'_succ, List.filter_cons, if_pos (by simp [Lib.keeps]), List.map_cons]
  congr 1
theorem compact_nil : Lib.compact ([] : List (List UInt8)) = [] := rfl
theorem uniq_mem : ∀ (r : List (List UInt8)) (y x : List UInt8), x ∈ y :: uniq y r ↔ x ∈ y :: r
  | [], y, x => by rw [uniq]
  | z :: r, y, x => by
    have ih := uniq_mem r z x
    rw [uniq]
    by_cases h : z = y
    · subst h
      rw [if_pos rfl, ih]
      simp
    · rw [if_neg h, List.mem_cons, ih]
      exact List.mem_cons.symm
theorem uniq_sorted : ∀ (r : List (List UInt8)) (y : List UInt8), (y :: r).Pairwise (fun a b => a ≤ b) → (y :: uniq y r).Pairwise (fun a b => Op.bytesLess a b = true)
  | [], y, _ => by simp [uniq]
  | z :: r, y, h => by
    rw [List.pairwise_cons] at h
    have ih := uniq_sorted r z h.2
    have hyz : y ≤ z := h.1 z (by simp)
    rw [uniq]
    by_cases e : z = y
    · subst e
      rw [if_pos rfl]
      exact ih
    · rw [if_neg e, List.pairwise_cons]
      refine ⟨fun w hw => ?_, ih⟩
      have h1 : y ≤ w := h.1 w ((uniq_mem r z w).1 hw)
      have hzw : z ≤ w := by
        rcases List.mem_cons.1 hw with h2 | h2
        · rw [h2]; exact List.le_refl _
        · rw [List.pairwise_cons] at ih h
          exact h.2.1 w (by
            have := (uniq_mem r z w).1 hw
            rcases List.mem_cons.1 this with h3 | h3
            · have := ih.1 w h2
              rw [h3, less_irrefl] at this
              cases this
            · exact h3)
      rw [Go.Proofs.bytesLess_eq, decide_eq_true_eq]
      have hne : y ≠ w := fun e2 => e (List.le_antisymm (e2 ▸ hzw) hyz)
      rcases List.le_iff_lt_or_eq.1 h1 with h2 | h2
      · exact h2
      · exact absurd h2 hne
theorem words_sorted (l : List (List UInt8)) : Lib.compact (l.mergeSort fun x y => decide (x ≤ y)) = l.foldl insS [] := by
  have hs : (l.mergeSort fun x y => decide (x ≤ y)).Pairwise (fun a b => a ≤ b) := by
    have := List.pairwise_mergeSort (le := fun (x y : List UInt8) => decide (x ≤ y)) (fun a b c h1 h2 => by
      rw [decide_eq_true_eq] at *
      exact List.le_trans h1 h2) (fun a b => by
      simp only [Bool.or_eq_true, decide_eq_true_eq]
      exact List.le_total a b) l
    exact this.imp fun h => by simpa using h
  have hm : ∀ x, x ∈ (l.mergeSort fun x y => decide (x ≤ y)) ↔ x ∈ l := fun x => List.mem_mergeSort
  generalize (l.mergeSort fun x y => decide (x ≤ y)) = S at hs hm
  have hpw : (Lib.compact S).Pairwise (fun a b => Op.bytesLess a b = true) ∧ ∀ x, x ∈ Lib.compact S ↔ x ∈ S := by
    cases S with
    | nil => rw [compact_nil]; simp
    | cons y r => rw [compact_cons]; exact ⟨uniq_sorted r y hs, uniq_mem r y⟩
  refine strict_ext (lt := Op.bytesLess) less_irrefl less_trans hpw.1 ((chain_pairwise (lt := Op.bytesLess) less_trans).1 (foldS_chain l rfl)) fun x => ?_
  rw [hpw.2, hm, foldS_mem]
  simp
theorem compact_len_sub (l : List (List UInt8)) : (Lib.compact l).length ≤ l.length ∧ ∀ t ∈ Lib.compact l, t ∈ l := by
  have key : ∀ (r : List (List UInt8)) (y : List UInt8), (uniq y r).length ≤ r.length := by
    intro r
    induction r with
    | nil => intro y; simp [uniq]
    | cons z r ih =>
      intro y
      rw [uniq]
      split
      · have := ih z; simp; omega
      · have := ih z; simp; omega
  cases l with
  | nil => rw [compact_nil]; simp
  | cons y r =>
    rw [compact_cons]
    refine ⟨by have := key r y; simp; omega, fun t ht => (uniq_mem r y t).1 ht⟩
theorem compact_le (l : List (List UInt8)) : (Lib.compact l).length ≤ l.length := (compact_len_sub l).1
theorem compact_sub (l : List (List UInt8)) : ∀ t ∈ Lib.compact l, t ∈ l := (compact_len_sub l).2
end Go.Eng
