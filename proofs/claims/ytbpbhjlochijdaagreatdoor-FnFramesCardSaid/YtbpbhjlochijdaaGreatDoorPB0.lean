/-
  Plain laws: blocks put into ordered lists, found there and dropped again.
  No conditions.
-/
import Derived.Test.YtbpbhjlochijdaaGreatDoorBA
set_option linter.unusedVariables false
set_option linter.unusedSimpArgs false
namespace Go.Eng
open Go Go.RowKit
theorem eqk_lt {b t : TBlock} (h : ltBlk b t = true ∨ ltBlk t b = true) : eqkB t b = false := by
  cases he : eqkB t b with
  | false => rfl
  | true =>
    simp only [eqkB, isBlk, Bool.and_eq_true, beq_iff_eq] at he
    rcases h with h | h
    · exact absurd he (ltBlk_irrefl h)
    · exact absurd ⟨he.1.symm, he.2.symm⟩ (ltBlk_irrefl h)
theorem insB_mem {a : List TBlock} {t b : TBlock} (hs : chain ltBlk a = true) : b ∈ insB a t ↔ b = t ∨ (b ∈ a ∧ eqkB t b = false) := by
  constructor
  · intro h
    simp only [insB, insL, List.mem_append, List.mem_cons] at h
    rcases h with h | h | h
    · right
      refine ⟨List.mem_of_mem_take h, ?_⟩
      obtain ⟨m, hm⟩ := List.getElem?_of_mem h
      have hml := (List.getElem?_eq_some_iff.1 hm).1
      rw [List.length_take] at hml
      rw [List.getElem?_take_of_lt (by omega)] at hm
      exact eqk_lt (.inl (insAt_low (lt := ltBlk) (t := t) (by omega) hm))
    · exact .inl h
    · right
      refine ⟨List.mem_of_mem_drop h, ?_⟩
      obtain ⟨m, hm⟩ := List.getElem?_of_mem h
      rw [List.getElem?_drop] at hm
      exact eqk_lt (.inr (ins_above (lt := ltBlk) (eqk := eqkB) ltBlk_trans (fun x => insB_tot x t) (fun x y => insB_con t x y) hs (Nat.le_add_right _ _) hm))
  · rintro (rfl | ⟨h1, h2⟩)
    · simp [insB, insL]
    · obtain ⟨j, hj⟩ := List.getElem?_of_mem h1
      have hjl := (List.getElem?_eq_some_iff.1 hj).1
      simp only [insB, insL, List.mem_append, List.mem_cons]
      rcases Nat.lt_or_ge j (insAt ltBlk a t) with h | h
      · left
        exact List.mem_of_getElem? (i := j) (by rw [List.getElem?_take_of_lt h]; exact hj)
      · right; right
        have hN : insN ltBlk eqkB a t ≤ j := by
          unfold insN
          split
          · rename_i hf
            rcases Nat.lt_or_ge (insAt ltBlk a t) j with h3 | h3
            · omega
            · exfalso
              have e : insAt ltBlk a t = j := by omega
              rw [insF, e, hj] at hf
              have hf2 : eqkB t b = true := hf
              rw [h2] at hf2
              cases hf2
          · exact h
        exact List.mem_of_getElem? (i := j - insN ltBlk eqkB a t) (by rw [List.getElem?_drop, show insN ltBlk eqkB a t + (j - insN ltBlk eqkB a t) = j by omega]; exact hj)
theorem mrgB_mem {o : TBlock} : ∀ {l a : List TBlock}, chain ltBlk a = true → l.Pairwise (fun x y => ltBlk x y = true) → (o ∈ l ∨ (o ∈ a ∧ ∀ t ∈ l, eqkB t o = false)) → o ∈ mrgB a l
  | [], a, _, _, h => by
    rcases h with h | h
    · cases h
    · exact h.1
  | t :: r, a, hs, hp, h => by
    have hp' := List.pairwise_cons.1 hp
    show o ∈ mrgB (insB a t) r
    refine mrgB_mem (insB_chain hs t) hp'.2 ?_
    rcases h with h | ⟨h1, h2⟩
    · rcases List.mem_cons.1 h with rfl | h
      · exact .inr ⟨(insB_mem hs).2 (.inl rfl), fun y hy => eqk_lt (.inl (hp'.1 y hy))⟩
      · exact .inl h
    · exact .inr ⟨(insB_mem hs).2 (.inr ⟨h1, h2 t (List.mem_cons_self ..)⟩), fun y hy => h2 y (List.mem_cons_of_mem _ hy)⟩
theorem mrgB_sub {o : TBlock} : ∀ {l a : List TBlock}, o ∈ mrgB a l → o ∈ a ∨ o ∈ l
  | [], a, h => .inl h
  | t :: r, a, h => by
    rcases mrgB_sub (l := r) (a := insB a t) h with h | h
    · rcases insL_mem h with rfl | h
      · exact .inr (List.mem_cons_self ..)
      · exact .inl h
    · exact .inr (List.mem_cons_of_mem _ h)
theorem validBs_iff {a : List TBlock} : validBs a = true ↔ a.length ≤ 32 ∧ (∀ x ∈ a, validB x = true) ∧ chain ltBlk a = true := by
  simp [validBs, listOk]
theorem validBs_ins {a : List TBlock} {t : TBlock} (h : validBs a = true) (ht : validB t = true) (hl : (insB a t).length ≤ 32) : validBs (insB a t) = true := by
  obtain ⟨h1, h2, h3⟩ := validBs_iff.1 h
  refine validBs_iff.2 ⟨hl, fun x hx => ?_, insB_chain h3 t⟩
  rcases insL_mem hx with rfl | hx
  · exact ht
  · exact h2 x hx
theorem validBs_mrg {a b : List TBlock} (h : validBs a = true) (hb : validBs b = true) (hl : (mrgB a b).length ≤ 32) : validBs (mrgB a b) = true := by
  obtain ⟨h1, h2, h3⟩ := validBs_iff.1 h
  refine validBs_iff.2 ⟨hl, fun x hx => ?_, mrgB_chain h3⟩
  rcases mrgB_sub hx with hx | hx
  · exact h2 x hx
  · exact (validBs_iff.1 hb).2.1 x hx
theorem validBs_pw {a : List TBlock} (h : validBs a = true) : a.Pairwise (fun x y => ltBlk x y = true) := (chain_pairwise (lt := ltBlk) ltBlk_trans).1 (validBs_chain h)
theorem firstAt_mem {a : List TBlock} {o : TBlock} {j : Nat} (hs : chain ltBlk a = true) (hj : a[j]? = some o) : firstAt (isBlk o.fKind o.fName) a = j := by
  have hjl := (List.getElem?_eq_some_iff.1 hj).1
  refine firstAt_eq (by omega) (fun i x hi hx => ?_) (fun x hx => ?_)
  · exact eqk_lt (t := o) (.inl (blkSorted hs hi hx hj))
  · rw [hj] at hx
    cases hx
    simp [isBlk]
theorem namedB_mem {a : List TBlock} {o : TBlock} (hv : validBs a = true) (h : o ∈ a) : namedB a o.fKind o.fName = (o.fText, 0) := by
  obtain ⟨j, hj⟩ := List.getElem?_of_mem h
  unfold namedB
  rw [if_pos hv, firstAt_mem (validBs_chain hv) hj, hj]
/-- A block with a new key: where it stands, and what is left without it. -/
theorem ins_new {a : List TBlock} {t : TBlock} (hn : ∀ b ∈ a, eqkB t b = false) : insB a t = a.take (insAt ltBlk a t) ++ t :: a.drop (insAt ltBlk a t) := by
  have hf : insF ltBlk eqkB a t = false := by
    unfold insF
    cases h : a[insAt ltBlk a t]? with
    | none => rfl
    | some b => exact hn b (List.mem_of_getElem? h)
  unfold insB insL insN
  rw [if_neg (by rw [hf]; simp)]
theorem ins_new_len {a : List TBlock} {t : TBlock} (hn : ∀ b ∈ a, eqkB t b = false) : (insB a t).length = a.length + 1 := by
  have h1 := insAt_le (lt := ltBlk) a t
  rw [ins_new hn]
  simp
  omega
theorem ins_new_at {a : List TBlock} {t : TBlock} (hn : ∀ b ∈ a, eqkB t b = false) : (insB a t)[insAt ltBlk a t]? = some t := by
  have h1 := insAt_le (lt := ltBlk) a t
  rw [ins_new hn, List.getElem?_append_right (by rw [List.length_take]; omega), List.length_take, Nat.min_eq_left h1, Nat.sub_self]
  rfl
theorem ins_new_blk {a : List TBlock} {t : TBlock} (hn : ∀ b ∈ a, eqkB t b = false) : blkAt (insB a t) ⟨t.fKind, t.fName, []⟩ = insAt ltBlk a t := by
  have h1 := insAt_le (lt := ltBlk) a t
  refine firstAt_eq (by rw [ins_new_len hn]; omega) (fun j x hj hx => ?_) (fun x hx => ?_)
  · rw [ins_new hn, List.getElem?_append_left (by rw [List.length_take]; omega), List.getElem?_take_of_lt hj] at hx
    have h2 : ltBlk x t = true := insAt_low (lt := ltBlk) hj hx
    show (!ltBlk x t) = false
    rw [h2]
    rfl
  · rw [ins_new_at hn] at hx
    cases hx
    show (!ltBlk t t) = true
    cases h : ltBlk t t with
    | false => rfl
    | true => exact absurd ⟨rfl, rfl⟩ (ltBlk_irrefl h)
theorem ins_new_drop {a : List TBlock} {t : TBlock} (hn : ∀ b ∈ a, eqkB t b = false) : (insB a t).take (insAt ltBlk a t) ++ (insB a t).drop (insAt ltBlk a t + 1) = a := by
  have h1 := insAt_le (lt := ltBlk) a t
  have h2 : (a.take (insAt ltBlk a t)).length = insAt ltBlk a t := by rw [List.length_take]; omega
  rw [ins_new hn, List.take_left' h2, List.drop_append, h2, List.drop_eq_nil_of_le (by omega), show insAt ltBlk a t + 1 - insAt ltBlk a t = 1 by omega]
  simp
theorem ins_new_kind {a : List TBlock} {t : TBlock} (hn : ∀ b ∈ a, b.fKind ≠ t.fKind) : (kindBs t.fKind (insB a t)).length = 1 := by
  have hn2 : ∀ b ∈ a, eqkB t b = false := fun b hb => by
    simp [eqkB, isBlk, hn b hb]
  have h1 : ∀ l : List TBlock, (∀ b ∈ l, b ∈ a) → l.filter (fun b => b.fKind == t.fKind) = [] := by
    intro l hl
    rw [List.filter_eq_nil_iff]
    intro b hb
    simpa using hn b (hl b hb)
  unfold kindBs
  rw [ins_new hn2, List.filter_append, h1 _ (fun b hb => List.mem_of_mem_take hb), List.filter_cons, if_pos (by simp), h1 _ (fun b hb => List.mem_of_mem_drop hb)]
  rfl
end Go.Eng
