/-
  Lists of blocks: order, validity, places.
  No conditions.
-/
import Derived.Test.YtaijhjhhpdkhcaaGreatED
import Derived.Test.YtaijhjhhpdkhcaaGreatEC
import Derived.Test.YtaijhjhhpdkhcaaGreatV1
set_option linter.unusedVariables false
set_option linter.unusedSimpArgs false
set_option maxHeartbeats 4000000
namespace Go.Eng
open Go Go.RowKit Go.Proofs
set_option maxRecDepth 100000

/-- The first number that is not 0. -/
def orI : List Int → Int
  | [] => 0
  | x :: r => if x = 0 then orI r else x
theorem orI_drop : ∀ {a : List Int} {k : Nat}, allTo (fun x => decide (x = 0)) a k → orI a = orI (a.drop k)
  | [], k, _ => by simp
  | x :: r, 0, _ => rfl
  | x :: r, k + 1, h => by
    have h0 := h 0 x (Nat.zero_lt_succ _) rfl
    simp only [decide_eq_true_eq] at h0
    subst h0
    show (if (0 : Int) = 0 then orI r else 0) = orI (r.drop k)
    rw [if_pos rfl]
    exact orI_drop fun j y hj hy => h (j + 1) y (by omega) hy
theorem c_cmp_Or (a : List Int) : FnC Tryz.prog 160 G0 0 [] [.sl 1 (a.map encI)] (fun d os => d = .int .i64 (orI a) ∧ os = []) := by
  refine fn_rule Tryz.func160 rfl (by decide +kernel) rfl (fun w0 F0 lent β0 => ?_)
  repeat' (first | refine sC ?_ | ((with_reducible refine isAwp ?_); first | (refine sS ?_; intro Q' hn he hr) | refine sA ?_) | (refine sH ?_; clear hn he hr Q') | refine sO ?_ | ((conv => whnf); first | refine sK ?_ | (refine sB ?_; repeat' (first | refine sb0 ?_ | (refine sb2 ?_ ?_ <;> intro hb <;> try exact cls))) | refine sP ?_ | (refine sE ?_; intro x hx) | (refine sF ?_; intro i y hi hy) | (refine sI ?_; intro i hi) | (refine sL ?_; intro hlen) | (refine sQ ?_; intro c hc hcm; try simp only [lnM, lnA, lnC, lnN] at hc) | (refine sX ?_; intro i1 i2 hi1 hi2 hj1 hj2; try simp only [cutL, lnM, lnA, lnC, lnN, lnT, lnD, lnR] at hi1 hi2 hj2) | refine sD ?_ | (refine ret_pick [] rfl rfl rfl ⟨?_, rfl⟩; conv => lhs; whnf) | (refine ret_pick [0] rfl rfl rfl ⟨rfl, ?_⟩) | (refine sH ?_; clear hn he hr Q')))
  refine loop_env (fun k : Nat => [(3,.int .i64 0),(6,.sl 1 (a.map encI)),(7,.int .i64 a.length),(8,.int .i64 k)]) (fun _ => []) (fun k => k ≤ a.length ∧ allTo (fun x => decide (x = 0)) a k) (fun k => a.length - k) 0 ⟨by omega, allTo_zero⟩ (by refine weak_to rfl rfl rfl ?_; ((repeat' (first | exact trivial | refine And.intro ?_ ?_)) <;> (first | rfl | (conv => rhs; whnf) <;> (first | rfl | (refine congrArg (D.int _) ?_; omega))))) (fun k hk Q' hn he hr => ?_)
  repeat' (first | refine sC ?_ | ((with_reducible refine isAwp ?_); first | (refine sS ?_; intro Q' hn he hr) | refine sA ?_) | (refine sH ?_; clear hn he hr Q') | refine sO ?_ | ((conv => whnf); first | refine sK ?_ | (refine sB ?_; repeat' (first | refine sb0 ?_ | (refine sb2 ?_ ?_ <;> intro hb <;> try exact cls))) | refine sP ?_ | (refine sE ?_; intro x hx) | (refine sF ?_; intro i y hi hy) | (refine sI ?_; intro i hi) | (refine sL ?_; intro hlen) | (refine sQ ?_; intro c hc hcm; try simp only [lnM, lnA, lnC, lnN] at hc) | (refine sX ?_; intro i1 i2 hi1 hi2 hj1 hj2; try simp only [cutL, lnM, lnA, lnC, lnN, lnT, lnD, lnR] at hi1 hi2 hj2) | refine sD ?_ | (refine ret_pick [] rfl rfl rfl ⟨?_, rfl⟩; conv => lhs; whnf) | (refine ret_pick [0] rfl rfl rfl ⟨rfl, ?_⟩) | (refine sH ?_; clear hn he hr Q')))
  · rw [orI_drop hk.2, List.drop_eq_getElem_cons (by omega)]
    have h9 : a[k]'(by omega) = x := by have := List.getElem?_eq_some_iff.1 hx; exact this.2
    rw [h9, orI, if_neg hb]
  · exact ⟨k + 1, ⟨by omega, allTo_succ hk.2 hx (by simpa using hb)⟩, by omega, (by refine weak_to rfl rfl rfl ?_; ((repeat' (first | exact trivial | refine And.intro ?_ ?_)) <;> (first | rfl | (conv => rhs; whnf) <;> (first | rfl | (refine congrArg (D.int _) ?_; omega)))))⟩
  · rw [orI_drop hk.2, List.drop_eq_nil_of_le (by omega)]
    rfl

/-! ### Blocks in their order -/
def ltBlk (a b : TBlock) : Bool := Op.bytesLess a.fKind b.fKind || a.fKind == b.fKind && Op.bytesLess a.fName b.fName
def cmpBlk (a b : TBlock) : Int := orI [Lib.compareBytes a.fKind b.fKind, Lib.compareBytes a.fName b.fName]
theorem cmpBlk_eq (a b : TBlock) : cmpBlk a b = if ltBlk a b = true then -1 else if a.fKind = b.fKind ∧ a.fName = b.fName then 0 else 1 := by
  simp only [cmpBlk, orI, cmp_less, ltBlk]
  by_cases h1 : Op.bytesLess a.fKind b.fKind = true
  · simp [h1]
  · by_cases h2 : a.fKind = b.fKind
    · by_cases h3 : Op.bytesLess a.fName b.fName = true
      · simp [h2, h3, less_irrefl]
      · by_cases h4 : a.fName = b.fName <;> simp [h2, h3, h4, less_irrefl]
    · simp [h1, h2]
theorem cmpBlk_lt {a b : TBlock} : cmpBlk a b < 0 ↔ ltBlk a b = true := by
  rw [cmpBlk_eq]
  by_cases h : ltBlk a b = true
  · simp [h]
  · rw [if_neg h]; split <;> simp [h]
theorem cmpBlk_ge {a b : TBlock} : 0 ≤ cmpBlk a b ↔ ltBlk a b = false := by
  have := cmpBlk_lt (a := a) (b := b)
  cases h : ltBlk a b <;> rw [h] at this <;> simp at this <;> simp <;> omega
theorem ltBlk_trans {a b c : TBlock} (h : ltBlk a b = true) (k : ltBlk b c = true) : ltBlk a c = true := by
  simp only [ltBlk, Bool.or_eq_true, Bool.and_eq_true, beq_iff_eq] at h k ⊢
  rcases h with h | ⟨h, h'⟩ <;> rcases k with k | ⟨k, k'⟩
  · exact .inl (less_trans h k)
  · exact .inl (by rw [← k]; exact h)
  · exact .inl (by rw [h]; exact k)
  · exact .inr ⟨h.trans k, less_trans h' k'⟩
theorem ltBlk_irrefl {a b : TBlock} (h : ltBlk a b = true) : ¬ (a.fKind = b.fKind ∧ a.fName = b.fName) := by
  rintro ⟨h1, h2⟩
  simp [ltBlk, h1, h2, less_irrefl] at h
theorem ltBlk_asymm {a b : TBlock} (h : ltBlk a b = true) : ltBlk b a = false := by
  cases hb : ltBlk b a with
  | false => rfl
  | true => exact absurd ⟨rfl, rfl⟩ (ltBlk_irrefl (ltBlk_trans h hb))
def validBs (a : List TBlock) : Bool := decide (a.length ≤ 32) && listOk validB ltBlk a
theorem validBs_long {a : List TBlock} (h : ¬ a.length ≤ 32) : validBs a = false := by simp [validBs, h]
end Go.Eng
