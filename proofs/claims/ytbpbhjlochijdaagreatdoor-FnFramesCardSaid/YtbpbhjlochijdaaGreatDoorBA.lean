/-
  Contracts of functions of the program and of the reference, and plain laws: a bundle of texts.
  No conditions.
-/
import Derived.Test.YtbpbhjlochijdaaGreatDoorEC
import Derived.Test.YtbpbhjlochijdaaGreatDoorV1
import Derived.Test.YtbpbhjlochijdaaGreatDoorP1
import Derived.Test.YtbpbhjlochijdaaGreatDoorED
set_option linter.unusedVariables false
set_option linter.unusedSimpArgs false
set_option maxHeartbeats 4000000
namespace Go.Eng
open Go Go.RowKit Go.Proofs
set_option maxRecDepth 100000

theorem c_bytealg_CompareString (a b : List UInt8) : FnC Tryz.prog 144 G0 0 [] [.str a, .str b] (fun d os => d = .int .i64 (Lib.compareBytes a b) ∧ os = []) := by
  refine fn_rule Tryz.func144 rfl (by decide +kernel) rfl (fun w0 F0 lent β0 => ?_)
  repeat' (first | refine sC ?_ | ((with_reducible refine isAwp ?_); first | (refine sS ?_; intro Q' hn he hr) | refine sA ?_) | (refine sH ?_; clear hn he hr Q') | refine sO ?_ | ((conv => whnf); first | refine sK ?_ | (refine sB ?_; repeat' (first | refine sb0 ?_ | (refine sb2 ?_ ?_ <;> intro hb <;> try exact cls))) | (refine CallS.ext (ext_compareString Tryz.func193 (by decide +kernel) rfl (by kernel_rfl) (by kernel_rfl) ?_)) | refine sP ?_ | (refine sE ?_; intro x hx) | (refine sF ?_; intro i y hi hy) | (refine sI ?_; intro i hi) | (refine sL ?_; intro hlen) | (refine sQ ?_; intro c hc hcm; try simp only [lnM, lnA, lnC, lnN] at hc) | (refine sX ?_; intro i1 i2 hi1 hi2 hj1 hj2; try simp only [cutL, lnM, lnA, lnC, lnN, lnT, lnD, lnR] at hi1 hi2 hj2) | refine sD ?_ | (refine ret_pick [] rfl rfl rfl ⟨?_, rfl⟩; conv => lhs; whnf) | (refine ret_pick [0] rfl rfl rfl ⟨rfl, ?_⟩) | (refine sH ?_; clear hn he hr Q')))
theorem c_strings_Compare (a b : List UInt8) : FnC Tryz.prog 106 G0 0 [] [.str a, .str b] (fun d os => d = .int .i64 (Lib.compareBytes a b) ∧ os = []) := by
  refine fn_rule Tryz.func106 rfl (by decide +kernel) rfl (fun w0 F0 lent β0 => ?_)
  repeat' (first | refine sC ?_ | ((with_reducible refine isAwp ?_); first | (refine sS ?_; intro Q' hn he hr) | refine sA ?_) | (refine sH ?_; clear hn he hr Q') | refine sO ?_ | ((conv => whnf); first | refine sK ?_ | (refine sB ?_; repeat' (first | refine sb0 ?_ | (refine sb2 ?_ ?_ <;> intro hb <;> try exact cls))) | ((with_reducible refine isCall ?_); first | (refine call_pure (c_bytealg_CompareString _ _) rfl rfl ?_)) | refine sP ?_ | (refine sE ?_; intro x hx) | (refine sF ?_; intro i y hi hy) | (refine sI ?_; intro i hi) | (refine sL ?_; intro hlen) | (refine sQ ?_; intro c hc hcm; try simp only [lnM, lnA, lnC, lnN] at hc) | (refine sX ?_; intro i1 i2 hi1 hi2 hj1 hj2; try simp only [cutL, lnM, lnA, lnC, lnN, lnT, lnD, lnR] at hi1 hi2 hj2) | refine sD ?_ | (refine ret_pick [] rfl rfl rfl ⟨?_, rfl⟩; conv => lhs; whnf) | (refine ret_pick [0] rfl rfl rfl ⟨rfl, ?_⟩) | (refine sH ?_; clear hn he hr Q')))
/-- The first number that is not 0. -/
def orI : List Int → Int
  | [] => 0
  | x :: r => if x = 0 then orI r else x
theorem orI_drop : ∀ {a : List Int} {k : Nat}, allTo (fun x => decide (x = 0)) a k → orI a = orI (a.drop k)
  | [], k, _ => by simp
  | x :: r, 0, _ => rfl
  | x :: r, k + 1, h => by
    have h0 := h 0 x (Nat.zero_lt_succ _) rfl
    simp only [decide_eq_true_eq] at h0
    subst h0
    show (if (0 : Int) = 0 then orI r else 0) = orI (r.drop k)
    rw [if_pos rfl]
    exact orI_drop fun j y hj hy => h (j + 1) y (by omega) hy
theorem c_cmp_Or (a : List Int) : FnC Tryz.prog 43 G0 0 [] [.sl 1 (a.map encI)] (fun d os => d = .int .i64 (orI a) ∧ os = []) := by
  refine fn_rule Tryz.func43 rfl (by decide +kernel) rfl (fun w0 F0 lent β0 => ?_)
  repeat' (first | refine sC ?_ | ((with_reducible refine isAwp ?_); first | (refine sS ?_; intro Q' hn he hr) | refine sA ?_) | (refine sH ?_; clear hn he hr Q') | refine sO ?_ | ((conv => whnf); first | refine sK ?_ | (refine sB ?_; repeat' (first | refine sb0 ?_ | (refine sb2 ?_ ?_ <;> intro hb <;> try exact cls))) | refine sP ?_ | (refine sE ?_; intro x hx) | (refine sF ?_; intro i y hi hy) | (refine sI ?_; intro i hi) | (refine sL ?_; intro hlen) | (refine sQ ?_; intro c hc hcm; try simp only [lnM, lnA, lnC, lnN] at hc) | (refine sX ?_; intro i1 i2 hi1 hi2 hj1 hj2; try simp only [cutL, lnM, lnA, lnC, lnN, lnT, lnD, lnR] at hi1 hi2 hj2) | refine sD ?_ | (refine ret_pick [] rfl rfl rfl ⟨?_, rfl⟩; conv => lhs; whnf) | (refine ret_pick [0] rfl rfl rfl ⟨rfl, ?_⟩) | (refine sH ?_; clear hn he hr Q')))
  refine loop_env (fun k : Nat => [(3,.int .i64 0),(6,.sl 1 (a.map encI)),(7,.int .i64 a.length),(8,.int .i64 k)]) (fun _ => []) (fun k => k ≤ a.length ∧ allTo (fun x => decide (x = 0)) a k) (fun k => a.length - k) 0 ⟨by omega, allTo_zero⟩ (by refine weak_to rfl rfl rfl ?_; ((repeat' (first | exact trivial | refine And.intro ?_ ?_)) <;> (first | rfl | (conv => rhs; whnf) <;> (first | rfl | (refine congrArg (D.int _) ?_; omega))))) (fun k hk Q' hn he hr => ?_)
  repeat' (first | refine sC ?_ | ((with_reducible refine isAwp ?_); first | (refine sS ?_; intro Q' hn he hr) | refine sA ?_) | (refine sH ?_; clear hn he hr Q') | refine sO ?_ | ((conv => whnf); first | refine sK ?_ | (refine sB ?_; repeat' (first | refine sb0 ?_ | (refine sb2 ?_ ?_ <;> intro hb <;> try exact cls))) | refine sP ?_ | (refine sE ?_; intro x hx) | (refine sF ?_; intro i y hi hy) | (refine sI ?_; intro i hi) | (refine sL ?_; intro hlen) | (refine sQ ?_; intro c hc hcm; try simp only [lnM, lnA, lnC, lnN] at hc) | (refine sX ?_; intro i1 i2 hi1 hi2 hj1 hj2; try simp only [cutL, lnM, lnA, lnC, lnN, lnT, lnD, lnR] at hi1 hi2 hj2) | refine sD ?_ | (refine ret_pick [] rfl rfl rfl ⟨?_, rfl⟩; conv => lhs; whnf) | (refine ret_pick [0] rfl rfl rfl ⟨rfl, ?_⟩) | (refine sH ?_; clear hn he hr Q')))
  · rw [orI_drop hk.2, List.drop_eq_getElem_cons (by omega)]
    have h9 : a[k]'(by omega) = x := by have := List.getElem?_eq_some_iff.1 hx; exact this.2
    rw [h9, orI, if_neg hb]
  · exact ⟨k + 1, ⟨by omega, allTo_succ hk.2 hx (by simpa using hb)⟩, by omega, (by refine weak_to rfl rfl rfl ?_; ((repeat' (first | exact trivial | refine And.intro ?_ ?_)) <;> (first | rfl | (conv => rhs; whnf) <;> (first | rfl | (refine congrArg (D.int _) ?_; omega)))))⟩
  · rw [orI_drop hk.2, List.drop_eq_nil_of_le (by omega)]
    rfl

/-! ### Blocks in their order -/
def ltBlk (a b : TBlock) : Bool := Op.bytesLess a.fKind b.fKind || a.fKind == b.fKind && Op.bytesLess a.fName b.fName
def cmpBlk (a b : TBlock) : Int := orI [Lib.compareBytes a.fKind b.fKind, Lib.compareBytes a.fName b.fName]
theorem cmpBlk_eq (a b : TBlock) : cmpBlk a b = if ltBlk a b = true then -1 else if a.fKind = b.fKind ∧ a.fName = b.fName then 0 else 1 := by
  simp only [cmpBlk, orI, cmp_less, ltBlk]
  by_cases h1 : Op.bytesLess a.fKind b.fKind = true
  · simp [h1]
  · by_cases h2 : a.fKind = b.fKind
    · by_cases h3 : Op.bytesLess a.fName b.fName = true
      · simp [h2, h3, less_irrefl]
      · by_cases h4 : a.fName = b.fName <;> simp [h2, h3, h4, less_irrefl]
    · simp [h1, h2]
theorem cmpBlk_lt {a b : TBlock} : cmpBlk a b < 0 ↔ ltBlk a b = true := by
  rw [cmpBlk_eq]
  by_cases h : ltBlk a b = true
  · simp [h]
  · rw [if_neg h]; split <;> simp [h]
theorem cmpBlk_ge {a b : TBlock} : 0 ≤ cmpBlk a b ↔ ltBlk a b = false := by
  have := cmpBlk_lt (a := a) (b := b)
  cases h : ltBlk a b <;> rw [h] at this <;> simp at this <;> simp <;> omega
theorem ltBlk_trans {a b c : TBlock} (h : ltBlk a b = true) (k : ltBlk b c = true) : ltBlk a c = true := by
  simp only [ltBlk, Bool.or_eq_true, Bool.and_eq_true, beq_iff_eq] at h k ⊢
  rcases h with h | ⟨h, h'⟩ <;> rcases k with k | ⟨k, k'⟩
  · exact .inl (less_trans h k)
  · exact .inl (by rw [← k]; exact h)
  · exact .inl (by rw [h]; exact k)
  · exact .inr ⟨h.trans k, less_trans h' k'⟩
theorem ltBlk_irrefl {a b : TBlock} (h : ltBlk a b = true) : ¬ (a.fKind = b.fKind ∧ a.fName = b.fName) := by
  rintro ⟨h1, h2⟩
  simp [ltBlk, h1, h2, less_irrefl] at h
theorem ltBlk_asymm {a b : TBlock} (h : ltBlk a b = true) : ltBlk b a = false := by
  cases hb : ltBlk b a with
  | false => rfl
  | true => exact absurd ⟨rfl, rfl⟩ (ltBlk_irrefl (ltBlk_trans h hb))
theorem c_impl_compareBlocks (a b : TBlock) : FnC Tryz.prog 70 G0 0 [] [.agg (encBlock a), .agg (encBlock b)] (fun d os => d = .int .i64 (cmpBlk a b) ∧ os = []) := by
  refine fn_rule Tryz.func70 rfl (by decide +kernel) rfl (fun w0 F0 lent β0 => ?_)
  repeat' (first | refine sC ?_ | ((with_reducible refine isAwp ?_); first | (refine sS ?_; intro Q' hn he hr) | refine sA ?_) | (refine sH ?_; clear hn he hr Q') | refine sO ?_ | ((conv => whnf); first | refine sK ?_ | (refine sB ?_; repeat' (first | refine sb0 ?_ | (refine sb2 ?_ ?_ <;> intro hb <;> try exact cls))) | ((with_reducible refine isCall ?_); first | (refine call_pure (c_strings_Compare _ _) rfl rfl ?_) | (refine call_look (c_cmp_Or [_, _]) rfl ?_)) | ((with_reducible refine isCallQ ?_); first | (refine callQ_pure (c_strings_Compare _ _) rfl rfl ?_) | (refine callQ_look (c_cmp_Or [_, _]) rfl ?_)) | refine sP ?_ | (refine sE ?_; intro x hx) | (refine sF ?_; intro i y hi hy) | (refine sI ?_; intro i hi) | (refine sL ?_; intro hlen) | (refine sQ ?_; intro c hc hcm; try simp only [lnM, lnA, lnC, lnN] at hc) | (refine sX ?_; intro i1 i2 hi1 hi2 hj1 hj2; try simp only [cutL, lnM, lnA, lnC, lnN, lnT, lnD, lnR] at hi1 hi2 hj2) | refine sD ?_ | (refine ret_pick [] rfl rfl rfl ⟨?_, rfl⟩; conv => lhs; whnf) | (refine ret_pick [0] rfl rfl rfl ⟨rfl, ?_⟩) | (refine sH ?_; clear hn he hr Q')))
  rfl
theorem c_spec_l29Before (a b : TBlock) : FnC Tryz.prog 110 G0 0 [] [.rp (encBlock a), .rp (encBlock b)] (fun d os => d = .bool (ltBlk a b) ∧ os = []) := by
  refine fn_rule Tryz.func110 rfl (by decide +kernel) rfl (fun w0 F0 lent β0 => ?_)
  repeat' (first | refine sC ?_ | ((with_reducible refine isAwp ?_); first | (refine sS ?_; intro Q' hn he hr) | refine sA ?_) | (refine sH ?_; clear hn he hr Q') | refine sO ?_ | ((conv => whnf); first | refine sK ?_ | (refine sB ?_; repeat' (first | refine sb0 ?_ | (refine sb2 ?_ ?_ <;> intro hb <;> try exact cls))) | refine sP ?_ | (refine sE ?_; intro x hx) | (refine sF ?_; intro i y hi hy) | (refine sI ?_; intro i hi) | (refine sL ?_; intro hlen) | (refine sQ ?_; intro c hc hcm; try simp only [lnM, lnA, lnC, lnN] at hc) | (refine sX ?_; intro i1 i2 hi1 hi2 hj1 hj2; try simp only [cutL, lnM, lnA, lnC, lnN, lnT, lnD, lnR] at hi1 hi2 hj2) | refine sD ?_ | (refine ret_pick [] rfl rfl rfl ⟨?_, rfl⟩; conv => lhs; whnf) | (refine ret_pick [0] rfl rfl rfl ⟨rfl, ?_⟩) | (refine sH ?_; clear hn he hr Q')))
  all_goals simp_all [ltBlk]
def validBs (a : List TBlock) : Bool := decide (a.length ≤ 32) && listOk validB ltBlk a
theorem validBs_long {a : List TBlock} (h : ¬ a.length ≤ 32) : validBs a = false := by simp [validBs, h]
theorem c_impl_ValidBlocks (a : List TBlock) : FnC Tryz.prog 63 G0 0 [] [.sl 3 (a.map encBlock)] (fun d os => d = .bool (validBs a) ∧ os = []) := by
  refine fn_rule Tryz.func63 rfl (by decide +kernel) rfl (fun w0 F0 lent β0 => ?_)
  repeat' (first | refine sC ?_ | ((with_reducible refine isAwp ?_); first | (refine sS ?_; intro Q' hn he hr) | refine sA ?_) | (refine sH ?_; clear hn he hr Q') | refine sO ?_ | ((conv => whnf); first | refine sK ?_ | (refine sB ?_; repeat' (first | refine sb0 ?_ | (refine sb2 ?_ ?_ <;> intro hb <;> try exact cls))) | refine sP ?_ | (refine sE ?_; intro x hx) | (refine sF ?_; intro i y hi hy) | (refine sI ?_; intro i hi) | (refine sL ?_; intro hlen) | (refine sQ ?_; intro c hc hcm; try simp only [lnM, lnA, lnC, lnN] at hc) | (refine sX ?_; intro i1 i2 hi1 hi2 hj1 hj2; try simp only [cutL, lnM, lnA, lnC, lnN, lnT, lnD, lnR] at hi1 hi2 hj2) | refine sD ?_ | (refine ret_pick [] rfl rfl rfl ⟨?_, rfl⟩; conv => lhs; whnf) | (refine ret_pick [0] rfl rfl rfl ⟨rfl, ?_⟩) | (refine sH ?_; clear hn he hr Q')))
  · rw [validBs_long (by omega)]
  · refine loop_env (fun k : Nat => [(2,.bool false),(8,.sl 3 (a.map encBlock)),(5,.sl 3 (a.map encBlock)),(0,.sl 3 (a.map encBlock)),(9,.int .i64 a.length),(10,.int .i64 k)]) (fun _ => []) (fun k => k ≤ a.length ∧ okTo validB ltBlk a k) (fun k => a.length - k) 0 ⟨by omega, okTo_zero⟩ (by refine weak_to rfl rfl rfl ?_; ((repeat' (first | exact trivial | refine And.intro ?_ ?_)) <;> (first | rfl | (conv => rhs; whnf) <;> (first | rfl | (refine congrArg (D.int _) ?_; omega))))) (fun k hk Q' hn he hr => ?_)
    repeat' (first | refine sC ?_ | ((with_reducible refine isAwp ?_); first | (refine sS ?_; intro Q' hn he hr) | refine sA ?_) | (refine sH ?_; clear hn he hr Q') | refine sO ?_ | ((conv => whnf); first | refine sK ?_ | (refine sB ?_; repeat' (first | refine sb0 ?_ | (refine sb2 ?_ ?_ <;> intro hb <;> try exact cls))) | ((with_reducible refine isCall ?_); first | (refine call_pure (c_impl_ValidBlock _) rfl rfl ?_) | (refine call_pure (c_impl_compareBlocks _ _) rfl rfl ?_)) | ((with_reducible refine isCallQ ?_); first | (refine callQ_pure (c_impl_ValidBlock _) rfl rfl ?_) | (refine callQ_pure (c_impl_compareBlocks _ _) rfl rfl ?_)) | refine sP ?_ | (refine sE ?_; intro x hx) | (refine sF ?_; intro i y hi hy) | (refine sI ?_; intro i hi) | (refine sL ?_; intro hlen) | (refine sQ ?_; intro c hc hcm; try simp only [lnM, lnA, lnC, lnN] at hc) | (refine sX ?_; intro i1 i2 hi1 hi2 hj1 hj2; try simp only [cutL, lnM, lnA, lnC, lnN, lnT, lnD, lnR] at hi1 hi2 hj2) | refine sD ?_ | (refine ret_pick [] rfl rfl rfl ⟨?_, rfl⟩; conv => lhs; whnf) | (refine ret_pick [0] rfl rfl rfl ⟨rfl, ?_⟩) | (refine sH ?_; clear hn he hr Q')))
    all_goals first
      | (have h9 := listOk_bad (p := validB) (lt := ltBlk) hx (by assumption); simp [validBs, h9]; done)
      | ((try rw [cmpBlk_lt] at hb); (try rw [cmpBlk_ge] at hb); have h9 := listOk_unrising (p := validB) (lt := ltBlk) hx (by omega) hy (by assumption); simp [validBs, h9]; done)
      | (refine ⟨k + 1, ⟨by omega, okTo_succ hk.2 hx (by assumption) (fun i' y' hi' hy' => ?_)⟩, by omega, (by refine weak_to rfl rfl rfl ?_; ((repeat' (first | exact trivial | refine And.intro ?_ ?_)) <;> (first | rfl | (conv => rhs; whnf) <;> (first | rfl | (refine congrArg (D.int _) ?_; omega)))))⟩; first | (exfalso; omega) | (obtain rfl : i' = i := (by omega); rw [hy] at hy'; cases hy'; (try rw [cmpBlk_lt] at hb); (try rw [cmpBlk_ge] at hb); assumption))
      | (have h9 := listOk_of hk.2 (by omega); simp [validBs, h9]; done)
      | (have h9 := listOk_of hk.2 (by omega); simp [validBs, h9]; omega)
theorem c_spec_l29Ok (a : List TBlock) : FnC Tryz.prog 73 G0 0 [] [.sl 3 (a.map encBlock)] (fun d os => d = .bool (validBs a) ∧ os = []) := by
  refine fn_rule Tryz.func73 rfl (by decide +kernel) rfl (fun w0 F0 lent β0 => ?_)
  repeat' (first | refine sC ?_ | ((with_reducible refine isAwp ?_); first | (refine sS ?_; intro Q' hn he hr) | refine sA ?_) | (refine sH ?_; clear hn he hr Q') | refine sO ?_ | ((conv => whnf); first | refine sK ?_ | (refine sB ?_; repeat' (first | refine sb0 ?_ | (refine sb2 ?_ ?_ <;> intro hb <;> try exact cls))) | refine sP ?_ | (refine sE ?_; intro x hx) | (refine sF ?_; intro i y hi hy) | (refine sI ?_; intro i hi) | (refine sL ?_; intro hlen) | (refine sQ ?_; intro c hc hcm; try simp only [lnM, lnA, lnC, lnN] at hc) | (refine sX ?_; intro i1 i2 hi1 hi2 hj1 hj2; try simp only [cutL, lnM, lnA, lnC, lnN, lnT, lnD, lnR] at hi1 hi2 hj2) | refine sD ?_ | (refine ret_pick [] rfl rfl rfl ⟨?_, rfl⟩; conv => lhs; whnf) | (refine ret_pick [0] rfl rfl rfl ⟨rfl, ?_⟩) | (refine sH ?_; clear hn he hr Q')))
  refine loop_env (fun k : Nat => [(2,.bool false),(0,.sl 3 (a.map encBlock)),(3,.int .i64 k)]) (fun _ => []) (fun k => k ≤ a.length ∧ okTo validB ltBlk a k) (fun k => a.length - k) 0 ⟨by omega, okTo_zero⟩ (by refine weak_to rfl rfl rfl ?_; ((repeat' (first | exact trivial | refine And.intro ?_ ?_)) <;> (first | rfl | (conv => rhs; whnf) <;> (first | rfl | (refine congrArg (D.int _) ?_; omega))))) (fun k hk Q' hn he hr => ?_)
  repeat' (first | refine sC ?_ | ((with_reducible refine isAwp ?_); first | (refine sS ?_; intro Q' hn he hr) | refine sA ?_) | (refine sH ?_; clear hn he hr Q') | refine sO ?_ | ((conv => whnf); first | refine sK ?_ | (refine sB ?_; repeat' (first | refine sb0 ?_ | (refine sb2 ?_ ?_ <;> intro hb <;> try exact cls))) | ((with_reducible refine isCall ?_); first | (refine call_look (c_spec_l29One _) rfl ?_) | (refine call_look (c_spec_l29Before _ _) rfl ?_)) | ((with_reducible refine isCallQ ?_); first | (refine callQ_look (c_spec_l29One _) rfl ?_) | (refine callQ_look (c_spec_l29Before _ _) rfl ?_)) | refine sP ?_ | (refine sE ?_; intro x hx) | (refine sF ?_; intro i y hi hy) | (refine sI ?_; intro i hi) | (refine sL ?_; intro hlen) | (refine sQ ?_; intro c hc hcm; try simp only [lnM, lnA, lnC, lnN] at hc) | (refine sX ?_; intro i1 i2 hi1 hi2 hj1 hj2; try simp only [cutL, lnM, lnA, lnC, lnN, lnT, lnD, lnR] at hi1 hi2 hj2) | refine sD ?_ | (refine ret_pick [] rfl rfl rfl ⟨?_, rfl⟩; conv => lhs; whnf) | (refine ret_pick [0] rfl rfl rfl ⟨rfl, ?_⟩) | (refine sH ?_; clear hn he hr Q')))
  all_goals first
    | (have h9 := listOk_bad (p := validB) (lt := ltBlk) hx (by assumption); simp [validBs, h9]; done)
    | (have h9 := listOk_unrising (p := validB) (lt := ltBlk) hx (by omega) hy (by assumption); simp [validBs, h9]; done)
    | (refine ⟨k + 1, ⟨by omega, okTo_succ hk.2 hx (by assumption) (fun i' y' hi' hy' => ?_)⟩, by omega, (by refine weak_to rfl rfl rfl ?_; ((repeat' (first | exact trivial | refine And.intro ?_ ?_)) <;> (first | rfl | (conv => rhs; whnf) <;> (first | rfl | (refine congrArg (D.int _) ?_; omega)))))⟩; first | (exfalso; omega) | (obtain rfl : i' = i := (by omega); rw [hy] at hy'; cases hy'; assumption))
    | (have h9 := listOk_of hk.2 (by omega); simp [validBs, h9]; done)
    | (have h9 := listOk_of hk.2 (by omega); simp [validBs, h9]; omega)
end Go.Eng

namespace Go.Eng
open Go Go.RowKit Go.Proofs
set_option maxRecDepth 100000

def isBlk (kd nm : List UInt8) (b : TBlock) : Bool := b.fKind == kd && b.fName == nm
theorem blkSorted {a : List TBlock} (h : chain ltBlk a = true) {i j : Nat} {x y : TBlock} (hi : i < j) (hx : a[i]? = some x) (hy : a[j]? = some y) : ltBlk x y = true := chain_sorted (lt := ltBlk) ltBlk_trans h hi hx hy
theorem cmpBlk_zero {a b : TBlock} : cmpBlk a b = 0 ↔ a.fKind = b.fKind ∧ a.fName = b.fName := by
  rw [cmpBlk_eq]
  by_cases h : ltBlk a b = true
  · rw [if_pos h]
    exact Iff.intro (fun h => absurd h (by decide)) (fun h2 => absurd h2 (ltBlk_irrefl h))
  · rw [if_neg h]; split <;> simp_all
theorem cmpBlk_is (a b : TBlock) : decide (cmpBlk a b = 0) = isBlk b.fKind b.fName a := by
  rw [Bool.eq_iff_iff]; simp [isBlk, cmpBlk_zero]
/-- Where the block stands, or would stand. -/
def blkAt (a : List TBlock) (t : TBlock) : Nat := firstAt (fun b => !ltBlk b t) a
theorem blkAt_le (a : List TBlock) (t : TBlock) : blkAt a t ≤ a.length := firstAt_le _ _
theorem c_slices_BinarySearchBlk (a : List TBlock) (t : TBlock) (hs : chain ltBlk a = true) (hl : a.length ≤ 1048576) : FnC Tryz.prog 145 G0 0 [] [.sl 3 (a.map encBlock), .agg (encBlock t), .clo (.func 70) []]
    (fun d os => d = .tup [.int .i64 (blkAt a t), .bool ((a[blkAt a t]?).any fun b => isBlk t.fKind t.fName b)] ∧ os = []) := by
  refine fn_rule Tryz.func145 rfl (by decide +kernel) rfl (fun w0 F0 lent β0 => ?_)
  repeat' (first | refine sC ?_ | ((with_reducible refine isAwp ?_); first | (refine sS ?_; intro Q' hn he hr) | refine sA ?_) | (refine sH ?_; clear hn he hr Q') | refine sO ?_ | ((conv => whnf); first | refine sK ?_ | (refine sB ?_; repeat' (first | refine sb0 ?_ | (refine sb2 ?_ ?_ <;> intro hb <;> try exact cls))) | refine sP ?_ | (refine sE ?_; intro x hx) | (refine sF ?_; intro i y hi hy) | (refine sI ?_; intro i hi) | (refine sL ?_; intro hlen) | (refine sQ ?_; intro c hc hcm; try simp only [lnM, lnA, lnC, lnN] at hc) | (refine sX ?_; intro i1 i2 hi1 hi2 hj1 hj2; try simp only [cutL, lnM, lnA, lnC, lnN, lnT, lnD, lnR] at hi1 hi2 hj2) | refine sD ?_ | (refine ret_pick [] rfl rfl rfl ⟨?_, rfl⟩; conv => lhs; whnf) | (refine ret_pick [0] rfl rfl rfl ⟨rfl, ?_⟩) | (refine sH ?_; clear hn he hr Q')))
  refine loop_env2 (fun i j : Nat => [(0,.sl 3 (a.map encBlock)),(2,.clo (.func 70) []),(4,.hp 0 0),(8,.int .i64 a.length),(9,.int .i64 i),(10,.int .i64 j)]) (fun _ _ => [.box (encBlock t)]) (fun i j => i ≤ j ∧ j ≤ a.length ∧ (∀ m y, m < i → a[m]? = some y → ltBlk y t = true) ∧ (∀ m y, j ≤ m → a[m]? = some y → ltBlk y t = false)) (fun i j => j - i) 0 a.length ⟨Nat.zero_le _, Nat.le_refl _, fun m y h => absurd h (Nat.not_lt_zero _), fun m y h hy => by have := (List.getElem?_eq_some_iff.1 hy).1; omega⟩ (by refine weak_to rfl rfl rfl ?_; exact ⟨rfl, rfl, rfl, rfl, rfl, rfl, trivial⟩) (fun i j hk Q' hn he hr => ?_)
  repeat' (first | refine sC ?_ | ((with_reducible refine isAwp ?_); first | (refine sS ?_; intro Q' hn he hr) | refine sA ?_) | (refine sH ?_; clear hn he hr Q') | refine sO ?_ | ((conv => whnf); first | refine sK ?_ | (refine sB ?_; repeat' (first | refine sb0 ?_ | (refine sb2 ?_ ?_ <;> intro hb <;> try exact cls))) | (refine AskS.mk ⟨by decide, ?_⟩) | (refine ArithS.inU64 (by omega) ?_) | (refine ArithS.to (((i + j) / 2 : Nat) : Int) (half_eq _ _) (wrap64 (by omega)) ?_) | ((with_reducible refine isCall ?_); first | (refine call_pure (c_impl_compareBlocks _ _) rfl rfl ?_)) | ((with_reducible refine isCallQ ?_); first | (refine callQ_pure (c_impl_compareBlocks _ _) rfl rfl ?_)) | refine sP ?_ | (refine sE ?_; intro x hx) | (refine sF ?_; intro i y hi hy) | (refine sI ?_; intro i hi) | (refine sL ?_; intro hlen) | (refine sQ ?_; intro c hc hcm; try simp only [lnM, lnA, lnC, lnN] at hc) | (refine sX ?_; intro i1 i2 hi1 hi2 hj1 hj2; try simp only [cutL, lnM, lnA, lnC, lnN, lnT, lnD, lnR] at hi1 hi2 hj2) | refine sD ?_ | (refine ret_pick [] rfl rfl rfl ⟨?_, rfl⟩; conv => lhs; whnf) | (refine ret_pick [0] rfl rfl rfl ⟨rfl, ?_⟩) | (refine sH ?_; clear hn he hr Q')))
  · refine ⟨(i + j) / 2 + 1, j, ⟨by omega, by omega, fun m y hm hy => ?_, hk.2.2.2⟩, by omega, (by refine weak_to rfl rfl rfl ?_; ((repeat' (first | exact trivial | refine And.intro ?_ ?_)) <;> (first | rfl | (conv => rhs; whnf) <;> (first | rfl | (refine congrArg (D.int _) ?_; omega)))))⟩
    have hxt := cmpBlk_lt.1 hb
    rcases Nat.lt_or_ge m ((i + j) / 2) with h | h
    · exact ltBlk_trans (blkSorted hs h hy hx) hxt
    · obtain rfl : m = (i + j) / 2 := by omega
      rw [hx] at hy
      cases hy
      exact hxt
  · refine ⟨i, (i + j) / 2, ⟨by omega, by omega, hk.2.2.1, fun m y hm hy => ?_⟩, by omega, (by refine weak_to rfl rfl rfl ?_; ((repeat' (first | exact trivial | refine And.intro ?_ ?_)) <;> (first | rfl | (conv => rhs; whnf) <;> (first | rfl | (refine congrArg (D.int _) ?_; omega)))))⟩
    have hxt := cmpBlk_ge.1 hb
    rcases Nat.lt_or_ge ((i + j) / 2) m with h | h
    · cases hyt : ltBlk y t with
      | false => rfl
      | true =>
        rw [ltBlk_trans (blkSorted hs h hx hy) hyt] at hxt
        cases hxt
    · obtain rfl : m = (i + j) / 2 := by omega
      rw [hx] at hy
      cases hy
      exact hxt
  all_goals
    have hij : i = j := by omega
    subst hij
    have hat : blkAt a t = i := firstAt_eq (by omega) (fun m y hm hy => by simp [hk.2.2.1 m y hm hy]) (fun y hy => by simp [hk.2.2.2 i y (Nat.le_refl _) hy])
    rw [hat]
  · show D.tup [_, D.bool (decide (cmpBlk _ t = 0))] = _
    rw [cmpBlk_is, hx]
    rfl
  · rw [List.getElem?_eq_none (by omega)]
    rfl
theorem c_impl_blockPlace (a : List TBlock) (t : TBlock) (hs : chain ltBlk a = true) (hl : a.length ≤ 1048576) : FnC Tryz.prog 107 G0 0 [] [.sl 3 (a.map encBlock), .agg (encBlock t)]
    (fun d os => d = .tup [.int .i64 (blkAt a t), .bool ((a[blkAt a t]?).any fun b => isBlk t.fKind t.fName b)] ∧ os = []) := by
  refine fn_rule Tryz.func107 rfl (by decide +kernel) rfl (fun w0 F0 lent β0 => ?_)
  repeat' (first | refine sC ?_ | ((with_reducible refine isAwp ?_); first | (refine sS ?_; intro Q' hn he hr) | refine sA ?_) | (refine sH ?_; clear hn he hr Q') | refine sO ?_ | ((conv => whnf); first | refine sK ?_ | (refine sB ?_; repeat' (first | refine sb0 ?_ | (refine sb2 ?_ ?_ <;> intro hb <;> try exact cls))) | ((with_reducible refine isCall ?_); first | (refine call_pure (c_slices_BinarySearchBlk a t hs hl) rfl rfl ?_)) | ((with_reducible refine isCallQ ?_); first | (refine callQ_pure (c_slices_BinarySearchBlk a t hs hl) rfl rfl ?_)) | refine sP ?_ | (refine sE ?_; intro x hx) | (refine sF ?_; intro i y hi hy) | (refine sI ?_; intro i hi) | (refine sL ?_; intro hlen) | (refine sQ ?_; intro c hc hcm; try simp only [lnM, lnA, lnC, lnN] at hc) | (refine sX ?_; intro i1 i2 hi1 hi2 hj1 hj2; try simp only [cutL, lnM, lnA, lnC, lnN, lnT, lnD, lnR] at hi1 hi2 hj2) | refine sD ?_ | (refine ret_pick [] rfl rfl rfl ⟨?_, rfl⟩; conv => lhs; whnf) | (refine ret_pick [0] rfl rfl rfl ⟨rfl, ?_⟩) | (refine sH ?_; clear hn he hr Q')))
  rfl
theorem validBs_chain {a : List TBlock} (h : validBs a = true) : chain ltBlk a = true := by
  simp only [validBs, listOk, Bool.and_eq_true] at h
  exact h.2.2
theorem blkAt_first {a : List TBlock} (hs : chain ltBlk a = true) (t : TBlock) : if (a[blkAt a t]?).any (fun b => isBlk t.fKind t.fName b) = true then firstAt (isBlk t.fKind t.fName) a = blkAt a t else firstAt (isBlk t.fKind t.fName) a = a.length := by
  have hle := blkAt_le a t
  obtain ⟨h1, h2⟩ := firstAt_spec (fun b => !ltBlk b t) a
  have hlow : ∀ j x, j < blkAt a t → a[j]? = some x → isBlk t.fKind t.fName x = false := by
    intro j x hj hx
    have := h1 j x hj hx
    simp only [Bool.not_eq_false'] at this
    cases hi : isBlk t.fKind t.fName x with
    | false => rfl
    | true =>
      simp only [isBlk, Bool.and_eq_true, beq_iff_eq] at hi
      exact absurd hi (ltBlk_irrefl this)
  split
  · rename_i h
    have hlt := any_lt h
    refine firstAt_eq hle hlow (fun x hx => ?_)
    rw [hx] at h
    exact h
  · rename_i h
    refine firstAt_eq (Nat.le_refl _) (fun j x _ hx => ?_) (fun x hx => by simp at hx)
    rcases Nat.lt_trichotomy j (blkAt a t) with hj | hj | hj
    · exact hlow j x hj hx
    · subst hj
      rw [hx] at h
      simpa using h
    · cases hi : isBlk t.fKind t.fName x with
      | false => rfl
      | true =>
        exfalso
        have hjl := (List.getElem?_eq_some_iff.1 hx).1
        have hp : a[blkAt a t]? = some (a[blkAt a t]'(by omega)) := List.getElem?_eq_getElem (by omega)
        have h3 := blkSorted hs hj hp hx
        have h4 : (!ltBlk (a[blkAt a t]'(by omega)) t) = true := h2 _ hp
        simp only [isBlk, Bool.and_eq_true, beq_iff_eq] at hi
        have h5 : ltBlk (a[blkAt a t]'(by omega)) t = true := by
          simp only [ltBlk, hi.1, hi.2] at h3 ⊢
          exact h3
        rw [h5] at h4
        cases h4
/-- The text of a block, and a code. -/
def namedB (a : List TBlock) (kd nm : List UInt8) : List UInt8 × Int :=
  if validBs a = true then (match a[firstAt (isBlk kd nm) a]? with
    | some b => (b.fText, 0)
    | none => ([], 3)) else ([], 1)
end Go.Eng

namespace Go.Eng
open Go Go.RowKit Go.Proofs
set_option maxRecDepth 100000
/-- The names of the blocks of a kind. -/
def kindBs (kd : List UInt8) (a : List TBlock) : List (List UInt8) := (a.filter fun b => b.fKind == kd).map (·.fName)
theorem kindBs_succ {kd : List UInt8} {a : List TBlock} {k : Nat} {x : TBlock} (hx : a[k]? = some x) : kindBs kd (a.take (k + 1)) = kindBs kd (a.take k) ++ (if x.fKind = kd then [x.fName] else []) := by
  rw [List.take_add_one, hx]
  by_cases h : x.fKind = kd <;> simp [kindBs, h]
theorem kindBs_len (kd : List UInt8) (a : List TBlock) : (kindBs kd a).length ≤ a.length := by
  simp only [kindBs, List.length_map]
  exact List.length_filter_le _ _
end Go.Eng

namespace Go.Eng
open Go Go.RowKit Go.Proofs
set_option maxRecDepth 100000
end Go.Eng

namespace Go.Eng
open Go Go.RowKit

section
variable {α : Type} {lt : α → α → Bool} {eqk : α → α → Bool}
theorem insAt_step {a : List α} {t x : α} {k : Nat} (hx : a[k]? = some x) : decide (insAt lt a t < k + 1) = (decide (insAt lt a t < k) || !lt x t) := by
  rcases Nat.lt_trichotomy k (insAt lt a t) with h | h | h
  · rw [insAt_low h hx, decide_eq_false (by omega), decide_eq_false (by omega)]; rfl
  · have h1 := hx
    rw [h] at h1
    rw [insAt_here h1, decide_eq_true (by omega), decide_eq_false (by omega)]; rfl
  · rw [decide_eq_true (show insAt lt a t < k + 1 by omega), decide_eq_true h]
    rfl
theorem insP_step (ht : ∀ {x y z : α}, lt x y = true → lt y z = true → lt x z = true) {a : List α} {t : α} (htot : ∀ x, lt x t = false → eqk t x = false → lt t x = true) (hcon : ∀ x y, eqk t x = true → lt x y = true → lt t y = true)
    (h1 : ∀ x, lt x t = true → eqk t x = false) (h2 : ∀ x, lt t x = true → eqk t x = false) (h : chain lt a = true) {k : Nat} {x : α} (hx : a[k]? = some x) :
    insP lt eqk a t (k + 1) = insP lt eqk a t k ++ ((if insAt lt a t < k ∨ lt x t = true then [] else [t]) ++ (if eqk t x = true then [] else [x])) := by
  rcases Nat.lt_trichotomy k (insAt lt a t) with hk | hk | hk
  · have hl := insAt_low hk hx
    rw [insP_low hk hx, if_pos (.inr hl), if_neg (by rw [h1 x hl]; simp)]
    rfl
  · subst hk
    have hl := insAt_here hx
    rw [insP_at hx]
    simp [hl]
  · have hn := insN_le (lt := lt) (eqk := eqk) a t
    have hl := ins_above (lt := lt) (eqk := eqk) ht htot hcon h (show insN lt eqk a t ≤ k by omega) hx
    rw [insP_high hk hx, if_pos (.inl hk), if_neg (by rw [h2 x hl]; simp)]
    rfl
theorem insP_length (a : List α) (t : α) (k : Nat) : (insP lt eqk a t k).length ≤ k + 1 := by
  unfold insP
  split
  · rw [List.length_take]; omega
  · rw [List.length_append, List.length_cons, List.length_take, List.length_drop, List.length_take]
    have hn := insN_le (lt := lt) (eqk := eqk) a t
    omega
end
/-! ### What slices.Insert does with one element -/
theorem ins_road2 {α : Type} {L l1 l2 l3 : List α} {c z : α} {i : Nat} (hi : i ≤ L.length) (h1 : l1 = L.take i ++ List.replicate (L.length + 1 - i) z) (q1 : l1.length = L.length + 1)
   (h2 : l2 = l1.take i ++ ([c].take (l1.length - i) ++ l1.drop (i + ([c].take (l1.length - i)).length))) (q2 : l2.length = L.length + 1)
   (h3 : l3 = l2.take (i+1) ++ (((L.drop i).take (min L.length (i + (l2.length - (i+1))) - i)).take (l2.length - (i+1)) ++ (l2.drop (i + 1 + (((L.drop i).take (min L.length (i + (l2.length - (i+1))) - i)).take (l2.length - (i+1))).length)))) : l3 = L.take i ++ c :: L.drop i := by
  have e2 : l2 = L.take i ++ c :: l1.drop (i+1) := by
    rw [h2, q1, List.take_of_length_le (l := [c]) (by simp; omega), h1]
    simp [hi]
  have e3 : ((L.drop i).take (min L.length (i + (l2.length - (i+1))) - i)).take (l2.length - (i+1)) = L.drop i := by
    rw [List.take_of_length_le (l := L.drop i) (by simp; omega), List.take_of_length_le (by simp; omega)]
  rw [e3] at h3
  have e4 : l2.drop (i + 1 + (L.drop i).length) = [] := List.drop_eq_nil_of_le (by simp; omega)
  have e5 : l2.take (i + 1) = L.take i ++ [c] := by
    rw [e2, List.take_append, List.take_of_length_le (by simp; omega), List.length_take, show i + 1 - min i L.length = 1 by omega]
    rfl
  rw [h3, e4, e5]
  simp
theorem ins_road3 {α : Type} {L l1 l2 : List α} {c : α} {i : Nat} (hi : i ≤ L.length)
   (h1 : l1 = L.take (i+1) ++ ((((L.drop i).take (min (L.length + 1) (i + (L.length + 1 - (i + 1))) - i)).take (L.length + 1 - (i+1))) ++ L.drop (i + 1 + (((L.drop i).take (min (L.length + 1) (i + (L.length + 1 - (i + 1))) - i)).take (L.length + 1 - (i+1))).length))) (q1 : l1.length = L.length + 1)
   (h2 : l2 = l1.take i ++ ([c].take (L.length + 1 - i) ++ l1.drop (i + ([c].take (L.length + 1 - i)).length))) (q2 : l2.length = L.length + 1) : l2.take (L.length + 1) = L.take i ++ c :: L.drop i := by
  have e3 : ((L.drop i).take (min (L.length + 1) (i + (L.length + 1 - (i+1))) - i)).take (L.length + 1 - (i+1)) = L.drop i := by
    rw [List.take_of_length_le (l := L.drop i) (by simp; omega), List.take_of_length_le (by simp)]
  rw [e3] at h1
  have e4 : L.drop (i + 1 + (L.drop i).length) = [] := List.drop_eq_nil_of_le (by simp; omega)
  rw [e4, List.append_nil] at h1
  rw [List.take_of_length_le (by omega), h2, List.take_of_length_le (l := [c]) (by simp; omega)]
  by_cases h : i = L.length
  · subst h
    simp at h1
    subst h1
    simp at q1
  · have e5 : l1.take i = L.take i := by rw [h1, List.take_append_of_le_length (by simp; omega), List.take_take, Nat.min_eq_left (by omega)]
    have e6 : l1.drop (i + [c].length) = L.drop i := by
      rw [h1, List.drop_append_of_le_length (by simp; omega)]
      rw [List.drop_eq_nil_of_le (by simp; omega)]
      rfl
    rw [e5, e6]
    rfl
end Go.Eng

namespace Go.Eng
open Go Go.RowKit Go.Proofs
set_option maxRecDepth 100000
def eqkB (t b : TBlock) : Bool := isBlk t.fKind t.fName b
def insB (a : List TBlock) (t : TBlock) : List TBlock := insL ltBlk eqkB a t
theorem insB_tot (x t : TBlock) (h1 : ltBlk x t = false) (h2 : eqkB t x = false) : ltBlk t x = true := by
  simp only [ltBlk, eqkB, isBlk, Bool.or_eq_false_iff, Bool.and_eq_false_iff, beq_eq_false_iff_ne, Bool.or_eq_true, Bool.and_eq_true, beq_iff_eq] at *
  by_cases e : x.fKind = t.fKind
  · refine .inr ⟨e.symm, ?_⟩
    have h3 := h1.2.resolve_left (fun h => h e)
    exact less_tri h3 (h2.resolve_left (fun h => h e))
  · exact .inl (less_tri h1.1 e)
theorem insB_con (t x y : TBlock) (h1 : eqkB t x = true) (h2 : ltBlk x y = true) : ltBlk t y = true := by
  simp only [ltBlk, eqkB, isBlk, Bool.or_eq_true, Bool.and_eq_true, beq_iff_eq] at *
  rw [← h1.1, ← h1.2]
  exact h2
theorem insB_chain {a : List TBlock} (h : chain ltBlk a = true) (t : TBlock) : chain ltBlk (insB a t) = true :=
  insL_chain (lt := ltBlk) (eqk := eqkB) ltBlk_trans (fun x => insB_tot x t) (fun x y => insB_con t x y) h
theorem insB_step {a : List TBlock} (t : TBlock) (h : chain ltBlk a = true) {k : Nat} {x : TBlock} (hx : a[k]? = some x) :
    insP ltBlk eqkB a t (k + 1) = insP ltBlk eqkB a t k ++ ((if insAt ltBlk a t < k ∨ ltBlk x t = true then [] else [t]) ++ (if eqkB t x = true then [] else [x])) := by
  refine insP_step (lt := ltBlk) (eqk := eqkB) ltBlk_trans (fun x => insB_tot x t) (fun x y => insB_con t x y) (fun x hl => ?_) (fun x hl => ?_) h hx
  · cases he : eqkB t x with
    | false => rfl
    | true => simp only [eqkB, isBlk, Bool.and_eq_true, beq_iff_eq] at he; exact absurd he (ltBlk_irrefl hl)
  · cases he : eqkB t x with
    | false => rfl
    | true => simp only [eqkB, isBlk, Bool.and_eq_true, beq_iff_eq] at he; exact absurd ⟨he.1.symm, he.2.symm⟩ (ltBlk_irrefl hl)
theorem c_spec_l29Put (a : List TBlock) (t : TBlock) (hs : chain ltBlk a = true) (hl : a.length ≤ 1048576) : FnC Tryz.prog 135 G0 0 [] [.sl 3 (a.map encBlock), .agg (encBlock t)] (fun d os => d = .h 0 ∧ os = [.row 105 3 ((insB a t).map encBlock)]) := by
  refine fn_rule Tryz.func135 rfl (by decide +kernel) rfl (fun w0 F0 lent β0 => ?_)
  repeat' (first | refine sC ?_ | ((with_reducible refine isAwp ?_); first | (refine sS ?_; intro Q' hn he hr) | refine sA ?_) | (refine sH ?_; clear hn he hr Q') | refine sO ?_ | ((conv => whnf); first | refine sK ?_ | (refine sB ?_; repeat' (first | refine sb0 ?_ | (refine sb2 ?_ ?_ <;> intro hb <;> try exact cls))) | refine sP ?_ | (refine sE ?_; intro x hx) | (refine sF ?_; intro i y hi hy) | (refine sI ?_; intro i hi) | (refine sL ?_; intro hlen) | (refine sQ ?_; intro c hc hcm; try simp only [lnM, lnA, lnC, lnN] at hc) | (refine sX ?_; intro i1 i2 hi1 hi2 hj1 hj2; try simp only [cutL, lnM, lnA, lnC, lnN, lnT, lnD, lnR] at hi1 hi2 hj2) | refine sD ?_ | (refine ret_pick [] rfl rfl rfl ⟨?_, rfl⟩; conv => lhs; whnf) | (refine ret_pick [0] rfl rfl rfl ⟨rfl, ?_⟩) | (refine sH ?_; clear hn he hr Q')))
  refine loop_env (fun k : Nat => [(0,.sl 3 (a.map encBlock)),(3,.hp 0 0),(5,.h 1),(6,.bool (decide (insAt ltBlk a t < k))),(7,.int .i64 k)]) (fun k => [.box (encBlock t), .row 105 3 ((insP ltBlk eqkB a t k).map encBlock)]) (fun k => k ≤ a.length) (fun k => a.length - k) 0 (by omega) (by refine weak_to rfl rfl rfl ?_; exact ⟨rfl, rfl, rfl, rfl, rfl, trivial⟩) (fun k hk Q' hn he hr => ?_)
  have h8 := insP_length (lt := ltBlk) (eqk := eqkB) a t k
  repeat' (first | refine sC ?_ | ((with_reducible refine isAwp ?_); first | (refine sS ?_; intro Q' hn he hr) | refine sA ?_) | (refine sH ?_; clear hn he hr Q') | refine sO ?_ | ((conv => whnf); first | refine sK ?_ | (refine sB ?_; repeat' (first | refine sb0 ?_ | (refine sb2 ?_ ?_ <;> intro hb <;> try exact cls))) | ((with_reducible refine isCall ?_); first | (refine call_look (c_spec_l29Before _ _) rfl ?_)) | ((with_reducible refine isCallQ ?_); first | (refine callQ_look (c_spec_l29Before _ _) rfl ?_)) | ((with_reducible refine isRet ?_); first | (refine ret_pick [1] rfl rfl rfl ⟨rfl, ?_⟩)) | refine sP ?_ | (refine sE ?_; intro x hx) | (refine sF ?_; intro i y hi hy) | (refine sI ?_; intro i hi) | (refine sL ?_; intro hlen) | (refine sQ ?_; intro c hc hcm; try simp only [lnM, lnA, lnC, lnN] at hc) | (refine sX ?_; intro i1 i2 hi1 hi2 hj1 hj2; try simp only [cutL, lnM, lnA, lnC, lnN, lnT, lnD, lnR] at hi1 hi2 hj2) | refine sD ?_ | (refine ret_pick [] rfl rfl rfl ⟨?_, rfl⟩; conv => lhs; whnf) | (refine ret_pick [0] rfl rfl rfl ⟨rfl, ?_⟩) | (refine sH ?_; clear hn he hr Q')))
  all_goals first
    | (have hst := insAt_step (lt := ltBlk) (t := t) hx
       rw [decide_eq_true ‹insAt ltBlk a t < k›] at hst ⊢
       refine ⟨k + 1, by omega, by omega, ?_⟩
       rw [hst]
       exact (by refine weak_to rfl rfl (by rw [insB_step t hs hx]; refine congrArg (fun l => [Obj.box (encBlock t), Obj.row 105 3 l]) ?_; simp [eqkB, isBlk, encBlock, *]) ?_; ((repeat' (first | exact trivial | refine And.intro ?_ ?_)) <;> (first | rfl | (conv => rhs; whnf) <;> (first | rfl | (refine congrArg (D.int _) ?_; omega))))))
    | (have hst := insAt_step (lt := ltBlk) (t := t) hx
       rw [decide_eq_false ‹¬ insAt ltBlk a t < k›, ‹ltBlk x t = _›] at hst
       refine ⟨k + 1, by omega, by omega, ?_⟩
       rw [hst]
       try rw [decide_eq_false ‹¬ insAt ltBlk a t < k›]
       exact (by refine weak_to rfl rfl (by rw [insB_step t hs hx]; refine congrArg (fun l => [Obj.box (encBlock t), Obj.row 105 3 l]) ?_; simp [eqkB, isBlk, encBlock, *]) ?_; ((repeat' (first | exact trivial | refine And.intro ?_ ?_)) <;> (first | rfl | (conv => rhs; whnf) <;> (first | rfl | (refine congrArg (D.int _) ?_; omega))))))
    | skip
  all_goals
    obtain rfl : k = a.length := by omega
    have hla := insP_last (lt := ltBlk) (eqk := eqkB) a t
    refine congrArg (fun l => [Obj.row 105 3 l]) ?_
    show _ = (insL ltBlk eqkB a t).map encBlock
  · rw [← hla, if_pos (by omega), List.map_append]
    rfl
  · rw [← hla, if_neg (by omega)]
end Go.Eng

namespace Go.Eng
open Go Go.RowKit Go.Proofs
set_option maxRecDepth 100000
set_option maxHeartbeats 4000000 in
theorem c_slicesInsert_Block (L : List (List D)) (c : List D) (i : Nat) (hi : i ≤ L.length) (hLl : L.length ≤ 1048576) : FnC Tryz.prog 108 G0 0 [.row 105 3 L] [.h 0, .int .i64 i, .sl 3 [c]] (fun d os => d = .h 0 ∧ os = [.row 105 3 (L.take i ++ c :: L.drop i)]) := by
  refine fn_rule Tryz.func108 rfl (by decide +kernel) rfl (fun w0 F0 lent β0 => ?_)
  repeat' (first | refine sC ?_ | ((with_reducible refine isAwp ?_); first | (refine sS ?_; intro Q' hn he hr) | refine sA ?_) | (refine sH ?_; clear hn he hr Q') | refine sO ?_ | ((conv => whnf); first | refine sK ?_ | (refine sB ?_; repeat' (first | refine sb0 ?_ | (refine sb2 ?_ ?_ <;> intro hb <;> try exact cls))) | (refine draw_e (by decide +kernel) (by decide +kernel) ?_) | (refine draw_eb (by decide +kernel) (by decide +kernel) ?_) | (refine SameL.any fun l hl hll => ?_; simp only [List.length_append, List.length_take, List.length_drop, List.length_replicate, List.length_cons, List.length_nil] at hll; have hlq : l.length = L.length + 1 := (by omega); clear hll) | (refine ret_trim ?_) | ((with_reducible refine isCall ?_); first | (refine call_overlaps_ro (tS := 51) (tR := 4) (e := 105) Tryz.func146 (by decide +kernel) rfl (by kernel_rfl) (by kernel_rfl) rfl rfl rfl rfl (by simp) (by omega) rfl ?_)) | ((with_reducible refine isRet ?_); first | (refine ret_pick [1] rfl rfl rfl ⟨rfl, ?_⟩)) | refine sP ?_ | (refine sE ?_; intro x hx) | (refine sF ?_; intro i y hi hy) | (refine sI ?_; intro i hi) | (refine sL ?_; intro hlen) | (refine sQ ?_; intro c hc hcm; try simp only [lnM, lnA, lnC, lnN] at hc) | (refine sX ?_; intro i1 i2 hi1 hi2 hj1 hj2; try simp only [cutL, lnM, lnA, lnC, lnN, lnT, lnD, lnR] at hi1 hi2 hj2) | refine sD ?_ | (refine ret_pick [] rfl rfl rfl ⟨?_, rfl⟩; conv => lhs; whnf) | (refine ret_pick [0] rfl rfl rfl ⟨rfl, ?_⟩) | (refine sH ?_; clear hn he hr Q')))
  · subst hb
    refine congrArg (fun l => [Obj.row 105 3 l]) ?_
    rw [List.take_length, List.drop_length]
  · rename_i l1 h1 q1 l2 h2 q2
    refine congrArg (fun l => [Obj.row 105 3 l]) ?_
    obtain rfl : i1 = i + 1 := by omega
    rw [show ((L.length : Int) + 1 - (i : Int)).toNat = L.length + 1 - i by omega] at h1
    simp only [Nat.zero_add, Nat.sub_zero] at h1 h2 hl
    exact ins_road2 hi h1 q1 h2 q2 hl
  · rename_i l1 h1 q1
    refine congrArg (fun l => [Obj.row 105 3 l]) ?_
    simp only [Nat.zero_add, Nat.sub_zero] at h1 hl ⊢
    exact ins_road3 hi h1 q1 hl hlq
end Go.Eng

namespace Go.Eng
open Go Go.RowKit Go.Proofs
set_option maxRecDepth 100000
theorem c_slicesInsert_Blk (a : List TBlock) (i : Nat) (t : TBlock) (hi : i ≤ a.length) (hl : a.length ≤ 1048576) : FnC Tryz.prog 108 G0 0 [.row 105 3 (a.map encBlock)] [.h 0, .int .i64 i, .sl 3 [encBlock t]] (fun d os => d = .h 0 ∧ os = [.row 105 3 ((a.take i ++ t :: a.drop i).map encBlock)]) := by
  rw [show ((a.take i ++ t :: a.drop i).map encBlock) = (a.map encBlock).take i ++ encBlock t :: (a.map encBlock).drop i by simp]
  exact c_slicesInsert_Block _ _ i (by simpa using hi) (by simpa using hl)
/-- Is there room for the block? -/
def roomB (a : List TBlock) (t : TBlock) : Bool := insF ltBlk eqkB a t || decide (a.length < 32)
def putB (a : List TBlock) (t : TBlock) : List TBlock := if roomB a t = true then insB a t else a
set_option maxHeartbeats 4000000 in
theorem c_impl_putBlock (a : List TBlock) (t : TBlock) (hs : chain ltBlk a = true) (hl : a.length ≤ 32) : FnC Tryz.prog 71 G0 0 [.row 105 3 (a.map encBlock)] [.h 0, .agg (encBlock t)] (fun d os => d = .tup [.h 0, .bool (roomB a t)] ∧ os = [.row 105 3 ((putB a t).map encBlock)]) := by
  have hle := blkAt_le a t
  cases hv2 : ((a[blkAt a t]?).any fun b => isBlk t.fKind t.fName b) with
  | true =>
    have hlt := any_lt hv2
    have hr : roomB a t = true := by
      have : insF ltBlk eqkB a t = true := hv2
      simp [roomB, this]
    have hN : insN ltBlk eqkB a t = blkAt a t + 1 := by unfold insN; rw [if_pos (show insF ltBlk eqkB a t = true from hv2)]; rfl
    have hset : a.set (blkAt a t) t = insB a t := by
      unfold insB insL
      rw [hN, List.set_eq_take_append_cons_drop, if_pos hlt]; rfl
    have hp : putB a t = insB a t := by unfold putB; rw [if_pos hr]
    refine fn_rule Tryz.func71 rfl (by decide +kernel) rfl (fun w0 F0 lent β0 => ?_)
    repeat' (first | refine sC ?_ | ((with_reducible refine isAwp ?_); first | (refine sS ?_; intro Q' hn he hr) | refine sA ?_) | (refine sH ?_; clear hn he hr Q') | refine sO ?_ | ((conv => whnf); first | refine sK ?_ | (refine sB ?_; repeat' (first | refine sb0 ?_ | (refine sb2 ?_ ?_ <;> intro hb <;> try exact cls))) | ((with_reducible refine isCall ?_); first | (refine call_look (c_impl_blockPlace a t hs (by omega)) rfl ?_)) | ((with_reducible refine isCallQ ?_); first | (refine callQ_look (c_impl_blockPlace a t hs (by omega)) rfl ?_)) | ((with_reducible refine isRet ?_); first | (refine ret_pick [0] rfl rfl rfl ⟨?_, ?_⟩)) | refine sP ?_ | (refine sE ?_; intro x hx) | (refine sF ?_; intro i y hi hy) | (refine sI ?_; intro i hi) | (refine sL ?_; intro hlen) | (refine sQ ?_; intro c hc hcm; try simp only [lnM, lnA, lnC, lnN] at hc) | (refine sX ?_; intro i1 i2 hi1 hi2 hj1 hj2; try simp only [cutL, lnM, lnA, lnC, lnN, lnT, lnD, lnR] at hi1 hi2 hj2) | refine sD ?_ | (refine ret_pick [] rfl rfl rfl ⟨?_, rfl⟩; conv => lhs; whnf) | (refine ret_pick [0] rfl rfl rfl ⟨rfl, ?_⟩) | (refine sH ?_; clear hn he hr Q')))
    · rw [hr]; rfl
    · rw [hp, ← hset, List.map_set]; rfl
  | false =>
    have hF : insF ltBlk eqkB a t = false := hv2
    have hN : insN ltBlk eqkB a t = blkAt a t := by unfold insN; rw [if_neg (by rw [hF]; simp)]; rfl
    have hput : a.take (blkAt a t) ++ t :: a.drop (blkAt a t) = insB a t := by
      unfold insB insL
      rw [hN]; rfl
    refine fn_rule Tryz.func71 rfl (by decide +kernel) rfl (fun w0 F0 lent β0 => ?_)
    repeat' (first | refine sC ?_ | ((with_reducible refine isAwp ?_); first | (refine sS ?_; intro Q' hn he hr) | refine sA ?_) | (refine sH ?_; clear hn he hr Q') | refine sO ?_ | ((conv => whnf); first | refine sK ?_ | (refine sB ?_; repeat' (first | refine sb0 ?_ | (refine sb2 ?_ ?_ <;> intro hb <;> try exact cls))) | ((with_reducible refine isCall ?_); first | (refine call_look (c_impl_blockPlace a t hs (by omega)) rfl ?_) | (refine call_mv 0 rfl (c_slicesInsert_Blk a (blkAt a t) t hle (by omega)) rfl (flat_one (FlatO.map fun _ => rfl)) (by first | exact (rfl : _ = 0) | exact (rfl : _ = 1) | exact (rfl : _ = 2) | exact (rfl : _ = 3) | exact (rfl : _ = 4) | exact (rfl : _ = 5) | exact (rfl : _ = 6) | exact (rfl : _ = 7) | exact (rfl : _ = 8) | exact (rfl : _ = 9) | exact (rfl : _ = 10) | exact (rfl : _ = 11) | exact (rfl : _ = 12) | exact (rfl : _ = 13) | exact (rfl : _ = 14) | exact (rfl : _ = 15) | exact (rfl : _ = 16) | exact (rfl : _ = 17) | exact (rfl : _ = 18) | exact (rfl : _ = 19) | exact (rfl : _ = 20) | exact (rfl : _ = 21) | exact (rfl : _ = 22) | exact (rfl : _ = 23) | exact (rfl : _ = 24) | exact (rfl : _ = 25) | exact (rfl : _ = 26) | exact (rfl : _ = 27) | exact (rfl : _ = 28) | exact (rfl : _ = 29) | exact (rfl : _ = 30) | exact (rfl : _ = 31) | exact (rfl : _ = 32) | exact (rfl : _ = 33) | exact (rfl : _ = 34) | exact (rfl : _ = 35) | exact (rfl : _ = 36) | exact (rfl : _ = 37) | exact (rfl : _ = 38) | exact (rfl : _ = 39)) ?_)) | ((with_reducible refine isCallQ ?_); first | (refine callQ_look (c_impl_blockPlace a t hs (by omega)) rfl ?_)) | ((with_reducible refine isRet ?_); first | (refine ret_pick [3] rfl rfl rfl ⟨?_, ?_⟩) | (refine ret_pick [0] rfl rfl rfl ⟨?_, ?_⟩)) | refine sP ?_ | (refine sE ?_; intro x hx) | (refine sF ?_; intro i y hi hy) | (refine sI ?_; intro i hi) | (refine sL ?_; intro hlen) | (refine sQ ?_; intro c hc hcm; try simp only [lnM, lnA, lnC, lnN] at hc) | (refine sX ?_; intro i1 i2 hi1 hi2 hj1 hj2; try simp only [cutL, lnM, lnA, lnC, lnN, lnT, lnD, lnR] at hi1 hi2 hj2) | refine sD ?_ | (refine ret_pick [] rfl rfl rfl ⟨?_, rfl⟩; conv => lhs; whnf) | (refine ret_pick [0] rfl rfl rfl ⟨rfl, ?_⟩) | (refine sH ?_; clear hn he hr Q')))
    · have hr : roomB a t = false := by unfold roomB; rw [hF, decide_eq_false (by omega)]; rfl
      rw [hr]; rfl
    · have hr : roomB a t = false := by unfold roomB; rw [hF, decide_eq_false (by omega)]; rfl
      have hp : putB a t = a := by unfold putB; rw [if_neg (by rw [hr]; simp)]
      rw [hp]; rfl
    · have hr : roomB a t = true := by unfold roomB; rw [hF, decide_eq_true (by omega)]; rfl
      rw [hr]; rfl
    · have hr : roomB a t = true := by unfold roomB; rw [hF, decide_eq_true (by omega)]; rfl
      have hp : putB a t = insB a t := by unfold putB; rw [if_pos hr]
      rw [hp, ← hput]; rfl
end Go.Eng

namespace Go.Eng
open Go Go.RowKit Go.Proofs
set_option maxRecDepth 100000
theorem insB_length (a : List TBlock) (t : TBlock) : (insB a t).length = if insF ltBlk eqkB a t = true then a.length else a.length + 1 := by
  have h1 : insAt ltBlk a t ≤ a.length := blkAt_le a t
  unfold insB insL insN
  cases h : insF ltBlk eqkB a t with
  | true =>
    have h2 : insAt ltBlk a t < a.length := any_lt h
    simp only [if_true, List.length_append, List.length_cons, List.length_take, List.length_drop]; omega
  | false => simp only [Bool.false_eq_true, if_false, List.length_append, List.length_cons, List.length_take, List.length_drop]; omega
theorem roomB_iff {a : List TBlock} (h : a.length ≤ 32) (t : TBlock) : roomB a t = decide ((insB a t).length ≤ 32) := by
  rw [insB_length]
  unfold roomB
  cases insF ltBlk eqkB a t with
  | true => simp [h]
  | false => simp; omega
theorem insB_ge (a : List TBlock) (t : TBlock) : a.length ≤ (insB a t).length := by
  rw [insB_length]; split <;> omega
/-- The second list's blocks put into the first, one after the other. -/
def mrgB (a b : List TBlock) : List TBlock := b.foldl insB a
theorem mrgB_chain {a b : List TBlock} (h : chain ltBlk a = true) : chain ltBlk (mrgB a b) = true := by
  unfold mrgB
  induction b generalizing a with
  | nil => exact h
  | cons x r ih => exact ih (insB_chain h x)
theorem mrgB_ge (a b : List TBlock) : a.length ≤ (mrgB a b).length := by
  unfold mrgB
  induction b generalizing a with
  | nil => exact Nat.le_refl _
  | cons x r ih => exact Nat.le_trans (insB_ge a x) (ih _)
theorem mrgB_le (a b : List TBlock) : (mrgB a b).length ≤ a.length + b.length := by
  unfold mrgB
  induction b generalizing a with
  | nil => exact Nat.le_refl _
  | cons x r ih =>
    have h1 := ih (insB a x)
    have h2 := insB_length a x
    rw [List.foldl_cons, List.length_cons]
    split at h2 <;> omega
theorem mrgB_step {a b : List TBlock} {k : Nat} {x : TBlock} (h : b[k]? = some x) : mrgB a (b.take (k + 1)) = insB (mrgB a (b.take k)) x := by
  unfold mrgB
  rw [List.take_add_one, h, List.foldl_append]; rfl
theorem mrgB_mono {a b : List TBlock} (k : Nat) : (mrgB a (b.take k)).length ≤ (mrgB a b).length := by
  have h := mrgB_ge (mrgB a (b.take k)) (b.drop k)
  unfold mrgB at *
  rwa [← List.foldl_append, List.take_append_drop] at h
theorem validBs_len {a : List TBlock} (h : validBs a = true) : a.length ≤ 32 := by
  simp only [validBs, Bool.and_eq_true, decide_eq_true_eq] at h
  exact h.1
set_option maxHeartbeats 4000000 in
theorem c_spec_PutBlock_bad1 (a : List TBlock) (t : TBlock) (hv : validBs a = false) : FnC Tryz.prog 99 G0 0 [] [.sl 3 (a.map encBlock), .agg (encBlock t)] (fun d os => d = .tup [.sl 3 [], .int .i64 1] ∧ os = []) := by
  refine fn_rule Tryz.func99 rfl (by decide +kernel) rfl (fun w0 F0 lent β0 => ?_)
  repeat' (first | refine sC ?_ | ((with_reducible refine isAwp ?_); first | (refine sS ?_; intro Q' hn he hr) | refine sA ?_) | (refine sH ?_; clear hn he hr Q') | refine sO ?_ | ((conv => whnf); first | refine sK ?_ | (refine sB ?_; repeat' (first | refine sb0 ?_ | (refine sb2 ?_ ?_ <;> intro hb <;> try exact cls))) | ((with_reducible refine isCall ?_); first | (refine call_pure (c_spec_l29Ok _) rfl rfl ?_) | (refine call_look (c_spec_l29One _) rfl ?_)) | ((with_reducible refine isCallQ ?_); first | (refine callQ_pure (c_spec_l29Ok _) rfl rfl ?_) | (refine callQ_look (c_spec_l29One _) rfl ?_)) | ((with_reducible refine isRet ?_); first | (refine ret_nil 3 ?_; refine ret_pick [] rfl rfl rfl ⟨?_, rfl⟩)) | refine sP ?_ | (refine sE ?_; intro x hx) | (refine sF ?_; intro i y hi hy) | (refine sI ?_; intro i hi) | (refine sL ?_; intro hlen) | (refine sQ ?_; intro c hc hcm; try simp only [lnM, lnA, lnC, lnN] at hc) | (refine sX ?_; intro i1 i2 hi1 hi2 hj1 hj2; try simp only [cutL, lnM, lnA, lnC, lnN, lnT, lnD, lnR] at hi1 hi2 hj2) | refine sD ?_ | (refine ret_pick [] rfl rfl rfl ⟨?_, rfl⟩; conv => lhs; whnf) | (refine ret_pick [0] rfl rfl rfl ⟨rfl, ?_⟩) | (refine sH ?_; clear hn he hr Q')))
  rfl
set_option maxHeartbeats 4000000 in
theorem c_spec_PutBlock_bad2 (a : List TBlock) (t : TBlock) (hv : validBs a = true) (hv2 : validB t = false) : FnC Tryz.prog 99 G0 0 [] [.sl 3 (a.map encBlock), .agg (encBlock t)] (fun d os => d = .tup [.sl 3 [], .int .i64 1] ∧ os = []) := by
  refine fn_rule Tryz.func99 rfl (by decide +kernel) rfl (fun w0 F0 lent β0 => ?_)
  repeat' (first | refine sC ?_ | ((with_reducible refine isAwp ?_); first | (refine sS ?_; intro Q' hn he hr) | refine sA ?_) | (refine sH ?_; clear hn he hr Q') | refine sO ?_ | ((conv => whnf); first | refine sK ?_ | (refine sB ?_; repeat' (first | refine sb0 ?_ | (refine sb2 ?_ ?_ <;> intro hb <;> try exact cls))) | ((with_reducible refine isCall ?_); first | (refine call_pure (c_spec_l29Ok _) rfl rfl ?_) | (refine call_look (c_spec_l29One _) rfl ?_)) | ((with_reducible refine isCallQ ?_); first | (refine callQ_pure (c_spec_l29Ok _) rfl rfl ?_) | (refine callQ_look (c_spec_l29One _) rfl ?_)) | ((with_reducible refine isRet ?_); first | (refine ret_nil 3 ?_; refine ret_pick [] rfl rfl rfl ⟨?_, rfl⟩)) | refine sP ?_ | (refine sE ?_; intro x hx) | (refine sF ?_; intro i y hi hy) | (refine sI ?_; intro i hi) | (refine sL ?_; intro hlen) | (refine sQ ?_; intro c hc hcm; try simp only [lnM, lnA, lnC, lnN] at hc) | (refine sX ?_; intro i1 i2 hi1 hi2 hj1 hj2; try simp only [cutL, lnM, lnA, lnC, lnN, lnT, lnD, lnR] at hi1 hi2 hj2) | refine sD ?_ | (refine ret_pick [] rfl rfl rfl ⟨?_, rfl⟩; conv => lhs; whnf) | (refine ret_pick [0] rfl rfl rfl ⟨rfl, ?_⟩) | (refine sH ?_; clear hn he hr Q')))
  rfl
set_option maxHeartbeats 4000000 in
theorem c_spec_PutBlock_full (a : List TBlock) (t : TBlock) (hv : validBs a = true) (hv2 : validB t = true) (h : ¬ (insB a t).length ≤ 32) : FnC Tryz.prog 99 G0 0 [] [.sl 3 (a.map encBlock), .agg (encBlock t)] (fun d os => d = .tup [.sl 3 [], .int .i64 5] ∧ os = []) := by
  have hle := validBs_len hv
  refine fn_rule Tryz.func99 rfl (by decide +kernel) rfl (fun w0 F0 lent β0 => ?_)
  repeat' (first | refine sC ?_ | ((with_reducible refine isAwp ?_); first | (refine sS ?_; intro Q' hn he hr) | refine sA ?_) | (refine sH ?_; clear hn he hr Q') | refine sO ?_ | ((conv => whnf); first | refine sK ?_ | (refine sB ?_; repeat' (first | refine sb0 ?_ | (refine sb2 ?_ ?_ <;> intro hb <;> try exact cls))) | ((with_reducible refine isCall ?_); first | (refine call_pure (c_spec_l29Ok _) rfl rfl ?_) | (refine call_look (c_spec_l29One _) rfl ?_) | (refine call_mk_look (c_spec_l29Put a t (validBs_chain hv) (by omega)) rfl (flat_one (FlatO.map fun _ => rfl)) (by first | exact (rfl : _ = 0) | exact (rfl : _ = 1) | exact (rfl : _ = 2) | exact (rfl : _ = 3) | exact (rfl : _ = 4) | exact (rfl : _ = 5) | exact (rfl : _ = 6) | exact (rfl : _ = 7) | exact (rfl : _ = 8) | exact (rfl : _ = 9) | exact (rfl : _ = 10) | exact (rfl : _ = 11) | exact (rfl : _ = 12) | exact (rfl : _ = 13) | exact (rfl : _ = 14) | exact (rfl : _ = 15) | exact (rfl : _ = 16) | exact (rfl : _ = 17) | exact (rfl : _ = 18) | exact (rfl : _ = 19) | exact (rfl : _ = 20) | exact (rfl : _ = 21) | exact (rfl : _ = 22) | exact (rfl : _ = 23) | exact (rfl : _ = 24) | exact (rfl : _ = 25) | exact (rfl : _ = 26) | exact (rfl : _ = 27) | exact (rfl : _ = 28) | exact (rfl : _ = 29) | exact (rfl : _ = 30) | exact (rfl : _ = 31) | exact (rfl : _ = 32) | exact (rfl : _ = 33) | exact (rfl : _ = 34) | exact (rfl : _ = 35) | exact (rfl : _ = 36) | exact (rfl : _ = 37) | exact (rfl : _ = 38) | exact (rfl : _ = 39)) ?_)) | ((with_reducible refine isCallQ ?_); first | (refine callQ_pure (c_spec_l29Ok _) rfl rfl ?_) | (refine callQ_look (c_spec_l29One _) rfl ?_)) | ((with_reducible refine isRet ?_); first | (refine ret_nil 3 ?_; refine ret_pick [] rfl rfl rfl ⟨?_, rfl⟩)) | refine sP ?_ | (refine sE ?_; intro x hx) | (refine sF ?_; intro i y hi hy) | (refine sI ?_; intro i hi) | (refine sL ?_; intro hlen) | (refine sQ ?_; intro c hc hcm; try simp only [lnM, lnA, lnC, lnN] at hc) | (refine sX ?_; intro i1 i2 hi1 hi2 hj1 hj2; try simp only [cutL, lnM, lnA, lnC, lnN, lnT, lnD, lnR] at hi1 hi2 hj2) | refine sD ?_ | (refine ret_pick [] rfl rfl rfl ⟨?_, rfl⟩; conv => lhs; whnf) | (refine ret_pick [0] rfl rfl rfl ⟨rfl, ?_⟩) | (refine sH ?_; clear hn he hr Q')))
  all_goals first | rfl | (exfalso; omega)
set_option maxHeartbeats 4000000 in
theorem c_spec_PutBlock_ok (a : List TBlock) (t : TBlock) (hv : validBs a = true) (hv2 : validB t = true) (h : (insB a t).length ≤ 32) : FnC Tryz.prog 99 G0 0 [] [.sl 3 (a.map encBlock), .agg (encBlock t)] (fun d os => d = .tup [.h 0, .int .i64 0] ∧ os = [.row 105 3 ((insB a t).map encBlock)]) := by
  have hle := validBs_len hv
  refine fn_rule Tryz.func99 rfl (by decide +kernel) rfl (fun w0 F0 lent β0 => ?_)
  repeat' (first | refine sC ?_ | ((with_reducible refine isAwp ?_); first | (refine sS ?_; intro Q' hn he hr) | refine sA ?_) | (refine sH ?_; clear hn he hr Q') | refine sO ?_ | ((conv => whnf); first | refine sK ?_ | (refine sB ?_; repeat' (first | refine sb0 ?_ | (refine sb2 ?_ ?_ <;> intro hb <;> try exact cls))) | ((with_reducible refine isCall ?_); first | (refine call_pure (c_spec_l29Ok _) rfl rfl ?_) | (refine call_look (c_spec_l29One _) rfl ?_) | (refine call_mk_look (c_spec_l29Put a t (validBs_chain hv) (by omega)) rfl (flat_one (FlatO.map fun _ => rfl)) (by first | exact (rfl : _ = 0) | exact (rfl : _ = 1) | exact (rfl : _ = 2) | exact (rfl : _ = 3) | exact (rfl : _ = 4) | exact (rfl : _ = 5) | exact (rfl : _ = 6) | exact (rfl : _ = 7) | exact (rfl : _ = 8) | exact (rfl : _ = 9) | exact (rfl : _ = 10) | exact (rfl : _ = 11) | exact (rfl : _ = 12) | exact (rfl : _ = 13) | exact (rfl : _ = 14) | exact (rfl : _ = 15) | exact (rfl : _ = 16) | exact (rfl : _ = 17) | exact (rfl : _ = 18) | exact (rfl : _ = 19) | exact (rfl : _ = 20) | exact (rfl : _ = 21) | exact (rfl : _ = 22) | exact (rfl : _ = 23) | exact (rfl : _ = 24) | exact (rfl : _ = 25) | exact (rfl : _ = 26) | exact (rfl : _ = 27) | exact (rfl : _ = 28) | exact (rfl : _ = 29) | exact (rfl : _ = 30) | exact (rfl : _ = 31) | exact (rfl : _ = 32) | exact (rfl : _ = 33) | exact (rfl : _ = 34) | exact (rfl : _ = 35) | exact (rfl : _ = 36) | exact (rfl : _ = 37) | exact (rfl : _ = 38) | exact (rfl : _ = 39)) ?_)) | ((with_reducible refine isCallQ ?_); first | (refine callQ_pure (c_spec_l29Ok _) rfl rfl ?_) | (refine callQ_look (c_spec_l29One _) rfl ?_)) | ((with_reducible refine isRet ?_); first | (refine ret_pick [1] rfl rfl rfl ⟨rfl, ?_⟩)) | refine sP ?_ | (refine sE ?_; intro x hx) | (refine sF ?_; intro i y hi hy) | (refine sI ?_; intro i hi) | (refine sL ?_; intro hlen) | (refine sQ ?_; intro c hc hcm; try simp only [lnM, lnA, lnC, lnN] at hc) | (refine sX ?_; intro i1 i2 hi1 hi2 hj1 hj2; try simp only [cutL, lnM, lnA, lnC, lnN, lnT, lnD, lnR] at hi1 hi2 hj2) | refine sD ?_ | (refine ret_pick [] rfl rfl rfl ⟨?_, rfl⟩; conv => lhs; whnf) | (refine ret_pick [0] rfl rfl rfl ⟨rfl, ?_⟩) | (refine sH ?_; clear hn he hr Q')))
  all_goals first | rfl | (exfalso; omega) | (rw [← hp]; rfl) | skip
end Go.Eng
