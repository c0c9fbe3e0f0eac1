/-
  Contracts of functions of the program and of the reference, and plain laws: a bundle of texts.
  No conditions.
-/
import Derived.Test.YtieiboeboejmkaaGreatEC
import Derived.Test.YtieiboeboejmkaaGreatV1
import Derived.Test.YtieiboeboejmkaaGreatP1
import Derived.Test.YtieiboeboejmkaaGreatED
set_option linter.unusedVariables false
set_option linter.unusedSimpArgs false
set_option maxHeartbeats 4000000
namespace Go.Eng
open Go Go.RowKit Go.Proofs
set_option maxRecDepth 100000

/-- The first number that is not 0. -/
def orI : List Int → Int
  | [] => 0
  | x :: r => if x = 0 then orI r else x
theorem orI_drop : ∀ {a : List Int} {k : Nat}, allTo (fun x => decide (x = 0)) a k → orI a = orI (a.drop k)
  | [], k, _ => by simp
  | x :: r, 0, _ => rfl
  | x :: r, k + 1, h => by
    have h0 := h 0 x (Nat.zero_lt_succ _) rfl
    simp only [decide_eq_true_eq] at h0
    subst h0
    show (if (0 : Int) = 0 then orI r else 0) = orI (r.drop k)
    rw [if_pos rfl]
    exact orI_drop fun j y hj hy => h (j + 1) y (by omega) hy
theorem c_cmp_Or (a : List Int) : FnC Tryz.prog 107 G0 0 [] [.sl 1 (a.map encI)] (fun d os => d = .int .i64 (orI a) ∧ os = []) := by
  refine fn_rule Tryz.func107 rfl (by decide +kernel) rfl (fun w0 F0 lent β0 => ?_)
  repeat' (first | refine sC ?_ | ((with_reducible refine isAwp ?_); first | (refine sS ?_; intro Q' hn he hr) | refine sA ?_) | (refine sH ?_; clear hn he hr Q') | ((conv => whnf); first | refine sK ?_ | (refine sL ?_; intro hlen)))
  refine loop_env (fun k : Nat => [(3,.int .i64 0),(6,.sl 1 (a.map encI)),(7,.int .i64 a.length),(8,.int .i64 k)]) (fun _ => []) (fun k => k ≤ a.length ∧ allTo (fun x => decide (x = 0)) a k) (fun k => a.length - k) 0 ⟨by omega, allTo_zero⟩ (by refine weak_to rfl rfl rfl ?_; ((repeat' (first | exact trivial | refine And.intro ?_ ?_)) <;> (first | rfl | (conv => rhs; whnf) <;> (first | rfl | (refine congrArg (D.int _) ?_; omega))))) (fun k hk Q' hn he hr => ?_)
  repeat' (first | refine sC ?_ | ((with_reducible refine isAwp ?_); first | (refine sS ?_; intro Q' hn he hr) | refine sA ?_) | (refine sH ?_; clear hn he hr Q') | ((conv => whnf); first | refine sK ?_ | (refine sB ?_; repeat' (refine sb2 ?_ ?_ <;> intro hb <;> try exact cls)) | refine sP ?_ | (refine sE ?_; intro x hx) | (refine ret_pick [] rfl rfl rfl ⟨?_, rfl⟩; conv => lhs; whnf) | (refine sH ?_; clear hn he hr Q')))
  · rw [orI_drop hk.2, List.drop_eq_getElem_cons (by omega)]
    have h9 : a[k]'(by omega) = x := by have := List.getElem?_eq_some_iff.1 hx; exact this.2
    rw [h9, orI, if_neg hb]
  · exact ⟨k + 1, ⟨by omega, allTo_succ hk.2 hx (by simpa using hb)⟩, by omega, (by refine weak_to rfl rfl rfl ?_; ((repeat' (first | exact trivial | refine And.intro ?_ ?_)) <;> (first | rfl | (conv => rhs; whnf) <;> (first | rfl | (refine congrArg (D.int _) ?_; omega)))))⟩
  · rw [orI_drop hk.2, List.drop_eq_nil_of_le (by omega)]
    rfl

/-! ### Blocks in their order -/
def ltBlk (a b : TBlock) : Bool := Op.bytesLess a.fKind b.fKind || a.fKind == b.fKind && Op.bytesLess a.fName b.fName
def cmpBlk (a b : TBlock) : Int := orI [Lib.compareBytes a.fKind b.fKind, Lib.compareBytes a.fName b.fName]
theorem cmpBlk_eq (a b : TBlock) : cmpBlk a b = if ltBlk a b = true then -1 else if a.fKind = b.fKind ∧ a.fName = b.fName then 0 else 1 := by
  simp only [cmpBlk, orI, cmp_less, ltBlk]
  by_cases h1 : Op.bytesLess a.fKind b.fKind = true
  · simp [h1]
  · by_cases h2 : a.fKind = b.fKind
    · by_cases h3 : Op.bytesLess a.fName b.fName = true
      · simp [h2, h3, less_irrefl]
      · by_cases h4 : a.fName = b.fName <;> simp [h2, h3, h4, less_irrefl]
    · simp [h1, h2]
theorem cmpBlk_lt {a b : TBlock} : cmpBlk a b < 0 ↔ ltBlk a b = true := by
  rw [cmpBlk_eq]
  by_cases h : ltBlk a b = true
  · simp [h]
  · rw [if_neg h]; split <;> simp [h]
theorem cmpBlk_ge {a b : TBlock} : 0 ≤ cmpBlk a b ↔ ltBlk a b = false := by
  have := cmpBlk_lt (a := a) (b := b)
  cases h : ltBlk a b <;> rw [h] at this <;> simp at this <;> simp <;> omega
theorem ltBlk_trans {a b c : TBlock} (h : ltBlk a b = true) (k : ltBlk b c = true) : ltBlk a c = true := by
  simp only [ltBlk, Bool.or_eq_true, Bool.and_eq_true, beq_iff_eq] at h k ⊢
  rcases h with h | ⟨h, h'⟩ <;> rcases k with k | ⟨k, k'⟩
  · exact .inl (less_trans h k)
  · exact .inl (by rw [← k]; exact h)
  · exact .inl (by rw [h]; exact k)
  · exact .inr ⟨h.trans k, less_trans h' k'⟩
theorem ltBlk_irrefl {a b : TBlock} (h : ltBlk a b = true) : ¬ (a.fKind = b.fKind ∧ a.fName = b.fName) := by
  rintro ⟨h1, h2⟩
  simp [ltBlk, h1, h2, less_irrefl] at h
theorem ltBlk_asymm {a b : TBlock} (h : ltBlk a b = true) : ltBlk b a = false := by
  cases hb : ltBlk b a with
  | false => rfl
  | true => exact absurd ⟨rfl, rfl⟩ (ltBlk_irrefl (ltBlk_trans h hb))
def validBs (a : List TBlock) : Bool := decide (a.length ≤ 32) && listOk validB ltBlk a
theorem validBs_long {a : List TBlock} (h : ¬ a.length ≤ 32) : validBs a = false := by simp [validBs, h]
end Go.Eng

namespace Go.Eng
open Go Go.RowKit Go.Proofs
set_option maxRecDepth 100000

def isBlk (kd nm : List UInt8) (b : TBlock) : Bool := b.fKind == kd && b.fName == nm
theorem blkSorted {a : List TBlock} (h : chain ltBlk a = true) {i j : Nat} {x y : TBlock} (hi : i < j) (hx : a[i]? = some x) (hy : a[j]? = some y) : ltBlk x y = true := chain_sorted (lt := ltBlk) ltBlk_trans h hi hx hy
theorem cmpBlk_zero {a b : TBlock} : cmpBlk a b = 0 ↔ a.fKind = b.fKind ∧ a.fName = b.fName := by
  rw [cmpBlk_eq]
  by_cases h : ltBlk a b = true
  · rw [if_pos h]
    exact Iff.intro (fun h => absurd h (by decide)) (fun h2 => absurd h2 (ltBlk_irrefl h))
  · rw [if_neg h]; split <;> simp_all
theorem cmpBlk_is (a b : TBlock) : decide (cmpBlk a b = 0) = isBlk b.fKind b.fName a := by
  rw [Bool.eq_iff_iff]; simp [isBlk, cmpBlk_zero]
/-- Where the block stands, or would stand. -/
def blkAt (a : List TBlock) (t : TBlock) : Nat := firstAt (fun b => !ltBlk b t) a
theorem blkAt_le (a : List TBlock) (t : TBlock) : blkAt a t ≤ a.length := firstAt_le _ _
theorem validBs_chain {a : List TBlock} (h : validBs a = true) : chain ltBlk a = true := by
  simp only [validBs, listOk, Bool.and_eq_true] at h
  exact h.2.2
theorem blkAt_first {a : List TBlock} (hs : chain ltBlk a = true) (t : TBlock) : if (a[blkAt a t]?).any (fun b => isBlk t.fKind t.fName b) = true then firstAt (isBlk t.fKind t.fName) a = blkAt a t else firstAt (isBlk t.fKind t.fName) a = a.length := by
  have hle := blkAt_le a t
  obtain ⟨h1, h2⟩ := firstAt_spec (fun b => !ltBlk b t) a
  have hlow : ∀ j x, j < blkAt a t → a[j]? = some x → isBlk t.fKind t.fName x = false := by
    intro j x hj hx
    have := h1 j x hj hx
    simp only [Bool.not_eq_false'] at this
    cases hi : isBlk t.fKind t.fName x with
    | false => rfl
    | true =>
      simp only [isBlk, Bool.and_eq_true, beq_iff_eq] at hi
      exact absurd hi (ltBlk_irrefl this)
  split
  · rename_i h
    have hlt := any_lt h
    refine firstAt_eq hle hlow (fun x hx => ?_)
    rw [hx] at h
    exact h
  · rename_i h
    refine firstAt_eq (Nat.le_refl _) (fun j x _ hx => ?_) (fun x hx => by simp at hx)
    rcases Nat.lt_trichotomy j (blkAt a t) with hj | hj | hj
    · exact hlow j x hj hx
    · subst hj
      rw [hx] at h
      simpa using h
    · cases hi : isBlk t.fKind t.fName x with
      | false => rfl
      | true =>
        exfalso
        have hjl := (List.getElem?_eq_some_iff.1 hx).1
        have hp : a[blkAt a t]? = some (a[blkAt a t]'(by omega)) := List.getElem?_eq_getElem (by omega)
        have h3 := blkSorted hs hj hp hx
        have h4 : (!ltBlk (a[blkAt a t]'(by omega)) t) = true := h2 _ hp
        simp only [isBlk, Bool.and_eq_true, beq_iff_eq] at hi
        have h5 : ltBlk (a[blkAt a t]'(by omega)) t = true := by
          simp only [ltBlk, hi.1, hi.2] at h3 ⊢
          exact h3
        rw [h5] at h4
        cases h4
/-- The text of a block, and a code. -/
def namedB (a : List TBlock) (kd nm : List UInt8) : List UInt8 × Int :=
  if validBs a = true then (match a[firstAt (isBlk kd nm) a]? with
    | some b => (b.fText, 0)
    | none => ([], 3)) else ([], 1)
end Go.Eng

namespace Go.Eng
open Go Go.RowKit Go.Proofs
set_option maxRecDepth 100000
/-- The names of the blocks of a kind. -/
def kindBs (kd : List UInt8) (a : List TBlock) : List (List UInt8) := (a.filter fun b => b.fKind == kd).map (·.fName)
theorem kindBs_succ {kd : List UInt8} {a : List TBlock} {k : Nat} {x : TBlock} (hx : a[k]? = some x) : kindBs kd (a.take (k + 1)) = kindBs kd (a.take k) ++ (if x.fKind = kd then [x.fName] else []) := by
  rw [List.take_add_one, hx]
  by_cases h : x.fKind = kd <;> simp [kindBs, h]
theorem kindBs_len (kd : List UInt8) (a : List TBlock) : (kindBs kd a).length ≤ a.length := by
  simp only [kindBs, List.length_map]
  exact List.length_filter_le _ _
end Go.Eng

namespace Go.Eng
open Go Go.RowKit Go.Proofs
set_option maxRecDepth 100000
end Go.Eng

namespace Go.Eng
open Go Go.RowKit

section
variable {α : Type} {lt : α → α → Bool} {eqk : α → α → Bool}
theorem insAt_step {a : List α} {t x : α} {k : Nat} (hx : a[k]? = some x) : decide (insAt lt a t < k + 1) = (decide (insAt lt a t < k) || !lt x t) := by
  rcases Nat.lt_trichotomy k (insAt lt a t) with h | h | h
  · rw [insAt_low h hx, decide_eq_false (by omega), decide_eq_false (by omega)]; rfl
  · have h1 := hx
    rw [h] at h1
    rw [insAt_here h1, decide_eq_true (by omega), decide_eq_false (by omega)]; rfl
  · rw [decide_eq_true (show insAt lt a t < k + 1 by omega), decide_eq_true h]
    rfl
theorem insP_step (ht : ∀ {x y z : α}, lt x y = true → lt y z = true → lt x z = true) {a : List α} {t : α} (htot : ∀ x, lt x t = false → eqk t x = false → lt t x = true) (hcon : ∀ x y, eqk t x = true → lt x y = true → lt t y = true)
    (h1 : ∀ x, lt x t = true → eqk t x = false) (h2 : ∀ x, lt t x = true → eqk t x = false) (h : chain lt a = true) {k : Nat} {x : α} (hx : a[k]? = some x) :
    insP lt eqk a t (k + 1) = insP lt eqk a t k ++ ((if insAt lt a t < k ∨ lt x t = true then [] else [t]) ++ (if eqk t x = true then [] else [x])) := by
  rcases Nat.lt_trichotomy k (insAt lt a t) with hk | hk | hk
  · have hl := insAt_low hk hx
    rw [insP_low hk hx, if_pos (.inr hl), if_neg (by rw [h1 x hl]; simp)]
    rfl
  · subst hk
    have hl := insAt_here hx
    rw [insP_at hx]
    simp [hl]
  · have hn := insN_le (lt := lt) (eqk := eqk) a t
    have hl := ins_above (lt := lt) (eqk := eqk) ht htot hcon h (show insN lt eqk a t ≤ k by omega) hx
    rw [insP_high hk hx, if_pos (.inl hk), if_neg (by rw [h2 x hl]; simp)]
    rfl
theorem insP_length (a : List α) (t : α) (k : Nat) : (insP lt eqk a t k).length ≤ k + 1 := by
  unfold insP
  split
  · rw [List.length_take]; omega
  · rw [List.length_append, List.length_cons, List.length_take, List.length_drop, List.length_take]
    have hn := insN_le (lt := lt) (eqk := eqk) a t
    omega
end
/-! ### What slices.Insert does with one element -/
theorem ins_road2 {α : Type} {L l1 l2 l3 : List α} {c z : α} {i : Nat} (hi : i ≤ L.length) (h1 : l1 = L.take i ++ List.replicate (L.length + 1 - i) z) (q1 : l1.length = L.length + 1)
   (h2 : l2 = l1.take i ++ ([c].take (l1.length - i) ++ l1.drop (i + ([c].take (l1.length - i)).length))) (q2 : l2.length = L.length + 1)
   (h3 : l3 = l2.take (i+1) ++ (((L.drop i).take (min L.length (i + (l2.length - (i+1))) - i)).take (l2.length - (i+1)) ++ (l2.drop (i + 1 + (((L.drop i).take (min L.length (i + (l2.length - (i+1))) - i)).take (l2.length - (i+1))).length)))) : l3 = L.take i ++ c :: L.drop i := by
  have e2 : l2 = L.take i ++ c :: l1.drop (i+1) := by
    rw [h2, q1, List.take_of_length_le (l := [c]) (by simp; omega), h1]
    simp [hi]
  have e3 : ((L.drop i).take (min L.length (i + (l2.length - (i+1))) - i)).take (l2.length - (i+1)) = L.drop i := by
    rw [List.take_of_length_le (l := L.drop i) (by simp; omega), List.take_of_length_le (by simp; omega)]
  rw [e3] at h3
  have e4 : l2.drop (i + 1 + (L.drop i).length) = [] := List.drop_eq_nil_of_le (by simp; omega)
  have e5 : l2.take (i + 1) = L.take i ++ [c] := by
    rw [e2, List.take_append, List.take_of_length_le (by simp; omega), List.length_take, show i + 1 - min i L.length = 1 by omega]
    rfl
  rw [h3, e4, e5]
  simp
theorem ins_road3 {α : Type} {L l1 l2 : List α} {c : α} {i : Nat} (hi : i ≤ L.length)
   (h1 : l1 = L.take (i+1) ++ ((((L.drop i).take (min (L.length + 1) (i + (L.length + 1 - (i + 1))) - i)).take (L.length + 1 - (i+1))) ++ L.drop (i + 1 + (((L.drop i).take (min (L.length + 1) (i + (L.length + 1 - (i + 1))) - i)).take (L.length + 1 - (i+1))).length))) (q1 : l1.length = L.length + 1)
   (h2 : l2 = l1.take i ++ ([c].take (L.length + 1 - i) ++ l1.drop (i + ([c].take (L.length + 1 - i)).length))) (q2 : l2.length = L.length + 1) : l2.take (L.length + 1) = L.take i ++ c :: L.drop i := by
  have e3 : ((L.drop i).take (min (L.length + 1) (i + (L.length + 1 - (i+1))) - i)).take (L.length + 1 - (i+1)) = L.drop i := by
    rw [List.take_of_length_le (l := L.drop i) (by simp; omega), List.take_of_length_le (by simp)]
  rw [e3] at h1
  have e4 : L.drop (i + 1 + (L.drop i).length) = [] := List.drop_eq_nil_of_le (by simp; omega)
  rw [e4, List.append_nil] at h1
  rw [List.take_of_length_le (by omega), h2, List.take_of_length_le (l := [c]) (by simp; omega)]
  by_cases h : i = L.length
  · subst h
    simp at h1
    subst h1
    simp at q1
  · have e5 : l1.take i = L.take i := by rw [h1, List.take_append_of_le_length (by simp; omega), List.take_take, Nat.min_eq_left (by omega)]
    have e6 : l1.drop (i + [c].length) = L.drop i := by
      rw [h1, List.drop_append_of_le_length (by simp; omega)]
      rw [List.drop_eq_nil_of_le (by simp; omega)]
      rfl
    rw [e5, e6]
    rfl
end Go.Eng

namespace Go.Eng
open Go Go.RowKit Go.Proofs
set_option maxRecDepth 100000
def eqkB (t b : TBlock) : Bool := isBlk t.fKind t.fName b
def insB (a : List TBlock) (t : TBlock) : List TBlock := insL ltBlk eqkB a t
theorem insB_tot (x t : TBlock) (h1 : ltBlk x t = false) (h2 : eqkB t x = false) : ltBlk t x = true := by
  simp only [ltBlk, eqkB, isBlk, Bool.or_eq_false_iff, Bool.and_eq_false_iff, beq_eq_false_iff_ne, Bool.or_eq_true, Bool.and_eq_true, beq_iff_eq] at *
  by_cases e : x.fKind = t.fKind
  · refine .inr ⟨e.symm, ?_⟩
    have h3 := h1.2.resolve_left (fun h => h e)
    exact less_tri h3 (h2.resolve_left (fun h => h e))
  · exact .inl (less_tri h1.1 e)
theorem insB_con (t x y : TBlock) (h1 : eqkB t x = true) (h2 : ltBlk x y = true) : ltBlk t y = true := by
  simp only [ltBlk, eqkB, isBlk, Bool.or_eq_true, Bool.and_eq_true, beq_iff_eq] at *
  rw [← h1.1, ← h1.2]
  exact h2
theorem insB_chain {a : List TBlock} (h : chain ltBlk a = true) (t : TBlock) : chain ltBlk (insB a t) = true :=
  insL_chain (lt := ltBlk) (eqk := eqkB) ltBlk_trans (fun x => insB_tot x t) (fun x y => insB_con t x y) h
theorem insB_step {a : List TBlock} (t : TBlock) (h : chain ltBlk a = true) {k : Nat} {x : TBlock} (hx : a[k]? = some x) :
    insP ltBlk eqkB a t (k + 1) = insP ltBlk eqkB a t k ++ ((if insAt ltBlk a t < k ∨ ltBlk x t = true then [] else [t]) ++ (if eqkB t x = true then [] else [x])) := by
  refine insP_step (lt := ltBlk) (eqk := eqkB) ltBlk_trans (fun x => insB_tot x t) (fun x y => insB_con t x y) (fun x hl => ?_) (fun x hl => ?_) h hx
  · cases he : eqkB t x with
    | false => rfl
    | true => simp only [eqkB, isBlk, Bool.and_eq_true, beq_iff_eq] at he; exact absurd he (ltBlk_irrefl hl)
  · cases he : eqkB t x with
    | false => rfl
    | true => simp only [eqkB, isBlk, Bool.and_eq_true, beq_iff_eq] at he; exact absurd ⟨he.1.symm, he.2.symm⟩ (ltBlk_irrefl hl)
end Go.Eng

namespace Go.Eng
open Go Go.RowKit Go.Proofs
set_option maxRecDepth 100000
end Go.Eng

namespace Go.Eng
open Go Go.RowKit Go.Proofs
set_option maxRecDepth 100000
/-- Is there room for the block? -/
def roomB (a : List TBlock) (t : TBlock) : Bool := insF ltBlk eqkB a t || decide (a.length < 32)
def putB (a : List TBlock) (t : TBlock) : List TBlock := if roomB a t = true then insB a t else a
end Go.Eng

namespace Go.Eng
open Go Go.RowKit Go.Proofs
set_option maxRecDepth 100000
theorem insB_length (a : List TBlock) (t : TBlock) : (insB a t).length = if insF ltBlk eqkB a t = true then a.length else a.length + 1 := by
  have h1 : insAt ltBlk a t ≤ a.length := blkAt_le a t
  unfold insB insL insN
  cases h : insF ltBlk eqkB a t with
  | true =>
    have h2 : insAt ltBlk a t < a.length := any_lt h
    simp only [if_true, List.length_append, List.length_cons, List.length_take, List.length_drop]; omega
  | false => simp only [Bool.false_eq_true, if_false, List.length_append, List.length_cons, List.length_take, List.length_drop]; omega
theorem roomB_iff {a : List TBlock} (h : a.length ≤ 32) (t : TBlock) : roomB a t = decide ((insB a t).length ≤ 32) := by
  rw [insB_length]
  unfold roomB
  cases insF ltBlk eqkB a t with
  | true => simp [h]
  | false => simp; omega
theorem insB_ge (a : List TBlock) (t : TBlock) : a.length ≤ (insB a t).length := by
  rw [insB_length]; split <;> omega
/-- The second list's blocks put into the first, one after the other. -/
def mrgB (a b : List TBlock) : List TBlock := b.foldl insB a
theorem mrgB_chain {a b : List TBlock} (h : chain ltBlk a = true) : chain ltBlk (mrgB a b) = true := by
  unfold mrgB
  induction b generalizing a with
  | nil => exact h
  | cons x r ih => exact ih (insB_chain h x)
theorem mrgB_ge (a b : List TBlock) : a.length ≤ (mrgB a b).length := by
  unfold mrgB
  induction b generalizing a with
  | nil => exact Nat.le_refl _
  | cons x r ih => exact Nat.le_trans (insB_ge a x) (ih _)
theorem mrgB_le (a b : List TBlock) : (mrgB a b).length ≤ a.length + b.length := by
  unfold mrgB
  induction b generalizing a with
  | nil => exact Nat.le_refl _
  | cons x r ih =>
    have h1 := ih (insB a x)
    have h2 := insB_length a x
    rw [List.foldl_cons, List.length_cons]
    split at h2 <;> omega
theorem mrgB_step {a b : List TBlock} {k : Nat} {x : TBlock} (h : b[k]? = some x) : mrgB a (b.take (k + 1)) = insB (mrgB a (b.take k)) x := by
  unfold mrgB
  rw [List.take_add_one, h, List.foldl_append]; rfl
theorem mrgB_mono {a b : List TBlock} (k : Nat) : (mrgB a (b.take k)).length ≤ (mrgB a b).length := by
  have h := mrgB_ge (mrgB a (b.take k)) (b.drop k)
  unfold mrgB at *
  rwa [← List.foldl_append, List.take_append_drop] at h
theorem validBs_len {a : List TBlock} (h : validBs a = true) : a.length ≤ 32 := by
  simp only [validBs, Bool.and_eq_true, decide_eq_true_eq] at h
  exact h.1
end Go.Eng
