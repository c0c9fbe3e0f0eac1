/-
  Scripts that are valid: the contracts of the program's functions and of the reference's.
  No conditions.
-/
import Derived.Test.YtlkjechbejfnhaaGreatDoorED
import Derived.Test.YtlkjechbejfnhaaGreatDoorVH1
set_option linter.unusedVariables false
set_option linter.unusedSimpArgs false
set_option maxHeartbeats 4000000
namespace Go.Eng
open Go Go.RowKit Go.Proofs
set_option maxRecDepth 100000
def scrB (x : TLine) : Bool := if x.fKind = 1 ∨ x.fKind = 3 then nameB x.fName && decide (x.fValue = 0) else if x.fKind = 2 then decide (x.fName = []) && inB x.fValue 1 7200000 else if x.fKind = 4 then nameB x.fName && inB x.fValue 1 100 else if x.fKind = 5 then decide (x.fName = []) && decide (x.fValue = 0) else false
def isLab (n : List UInt8) (x : TLine) : Bool := decide (x.fKind = 1) && x.fName == n
def scrP (a : List TLine) (k : Nat) (x : TLine) : Bool := scrB x && ((!decide (x.fKind = 1) || noneB (isLab x.fName) a k) && (!decide (x.fKind = 4) || decide (0 ≤ idxQ (isLab x.fName) a)))
def scrsB (a : List TLine) : Bool := decide (a.length ≤ 40) && allI (scrP a) a
theorem scrsB_long {a : List TLine} (h : ¬ a.length ≤ 40) : scrsB a = false := by simp [scrsB, h]
theorem scrsB_bad {a : List TLine} {k : Nat} {x : TLine} (hx : a[k]? = some x) (h : scrP a k x = false) : scrsB a = false := by
  unfold scrsB
  rw [allI_bad hx h, Bool.and_false]
theorem lab_find {a : List TLine} {k : Nat} {x : TLine} (hx : a[k]? = some x) (h1 : x.fKind = 1) : (idxQ (isLab x.fName) a = k ↔ noneB (isLab x.fName) a k = true) := by
  have hk := (List.getElem?_eq_some_iff.1 hx).1
  have h2 := idxQ_lt (q := isLab x.fName) hx (by simp [isLab, h1])
  rw [noneB_first (by omega), decide_eq_true_eq]
  omega
theorem none_of_neg {α : Type} {q : α → Bool} {a : List α} {k : Nat} (hk : k ≤ a.length) (h : idxQ q (a.take k) < 0) : noneB q a k = true := by
  cases h8 : noneB q a k with
  | true => rfl
  | false => exact absurd ((idxQ_take hk).2 h8) (by omega)
theorem band {a b : Bool} (h : a = true) (k : b = true) : (a && b) = true := by rw [h, k]; rfl
theorem scr_k1 {x : TLine} (h : x.fKind = 1) : scrB x = (nameB x.fName && decide (x.fValue = 0)) := by simp [scrB, h]
theorem scr_k3 {x : TLine} (h : x.fKind = 3) : scrB x = (nameB x.fName && decide (x.fValue = 0)) := by simp [scrB, h]
theorem scr_k2 {x : TLine} (h : x.fKind = 2) : scrB x = (decide (x.fName = []) && inB x.fValue 1 7200000) := by simp [scrB, h]
theorem scr_k4 {x : TLine} (h : x.fKind = 4) : scrB x = (nameB x.fName && inB x.fValue 1 100) := by simp [scrB, h]
theorem scr_k5 {x : TLine} (h : x.fKind = 5) : scrB x = (decide (x.fName = []) && decide (x.fValue = 0)) := by simp [scrB, h]
theorem scr_k0 {x : TLine} (h1 : ¬ x.fKind = 1) (h2 : ¬ x.fKind = 2) (h3 : ¬ x.fKind = 3) (h4 : ¬ x.fKind = 4) (h5 : ¬ x.fKind = 5) : scrB x = false := by simp [scrB, h1, h2, h3, h4, h5]
theorem scrP_one {a : List TLine} {k : Nat} {x : TLine} (h : scrB x = false) : scrP a k x = false := by simp [scrP, h]
theorem scrP_lab {a : List TLine} {k : Nat} {x : TLine} (h1 : x.fKind = 1) (h : noneB (isLab x.fName) a k = false) : scrP a k x = false := by simp [scrP, h1, h]
theorem scrP_jmp {a : List TLine} {k : Nat} {x : TLine} (h1 : x.fKind = 4) (h : idxQ (isLab x.fName) a < 0) : scrP a k x = false := by
  have h2 : ¬ 0 ≤ idxQ (isLab x.fName) a := by omega
  simp [scrP, h1, h2]
theorem scrP_yes {a : List TLine} {k : Nat} {x : TLine} (h : scrB x = true) (h1 : x.fKind = 1 → noneB (isLab x.fName) a k = true) (h2 : x.fKind = 4 → 0 ≤ idxQ (isLab x.fName) a) : scrP a k x = true := by
  unfold scrP
  rw [h, Bool.true_and]
  by_cases e1 : x.fKind = 1
  · simp [e1, h1 e1]
  · by_cases e4 : x.fKind = 4
    · simp [e4, h2 e4]
    · simp [e1, e4]
theorem lab_no {a : List TLine} {k : Nat} {x : TLine} (hx : a[k]? = some x) (h1 : x.fKind = 1) (h : ¬ idxQ (isLab x.fName) a = k) : noneB (isLab x.fName) a k = false := by
  cases h8 : noneB (isLab x.fName) a k with
  | false => rfl
  | true => exact absurd ((lab_find hx h1).2 h8) h
theorem c_impl_labelIndex1 (x : TLine) (n : List UInt8) : FnC Tryz.prog 265 G0 0 [] [.agg (encLine x), .rp [.str n]] (fun d os => d = .bool (isLab n x) ∧ os = []) := by
  refine fn_rule Tryz.func265 rfl (by decide +kernel) rfl (fun w0 F0 lent β0 => ?_)
  repeat' (first | refine sC ?_ | ((with_reducible refine isAwp ?_); first | (refine sS ?_; intro Q' hn he hr) | refine sA ?_) | (refine sH ?_; clear hn he hr Q') | refine sO ?_ | ((conv => whnf); first | refine sK ?_ | (refine sB ?_; repeat' (first | refine sb0 ?_ | (refine sb2 ?_ ?_ <;> intro hb <;> try exact cls))) | refine sP ?_ | (refine sE ?_; intro x hx) | (refine sF ?_; intro i y hi hy) | (refine sI ?_; intro i hi) | (refine sL ?_; intro hlen) | (refine sQ ?_; intro c hc hcm; try simp only [lnM, lnA, lnC, lnN] at hc) | (refine sX ?_; intro i1 i2 hi1 hi2 hj1 hj2; try simp only [cutL, lnM, lnA, lnC, lnN, lnT, lnD, lnR] at hi1 hi2 hj2) | refine sD ?_ | (refine ret_pick [] rfl rfl rfl ⟨?_, rfl⟩; conv => lhs; whnf) | (refine ret_pick [0] rfl rfl rfl ⟨rfl, ?_⟩) | (refine sH ?_; clear hn he hr Q')))
  all_goals (simp_all [isLab]; done)
theorem c_slices_IndexLine (a : List TLine) (n : List UInt8) : FnC Tryz.prog 264 G0 0 [] [.sl 3 (a.map encLine), .clo (.func 265) [.rp [.str n]]] (fun d os => d = .int .i64 (idxQ (isLab n) a) ∧ os = []) := by
  refine fn_rule Tryz.func264 rfl (by decide +kernel) rfl (fun w0 F0 lent β0 => ?_)
  repeat' (first | refine sC ?_ | ((with_reducible refine isAwp ?_); first | (refine sS ?_; intro Q' hn he hr) | refine sA ?_) | (refine sH ?_; clear hn he hr Q') | refine sO ?_ | ((conv => whnf); first | refine sK ?_ | (refine sB ?_; repeat' (first | refine sb0 ?_ | (refine sb2 ?_ ?_ <;> intro hb <;> try exact cls))) | refine sP ?_ | (refine sE ?_; intro x hx) | (refine sF ?_; intro i y hi hy) | (refine sI ?_; intro i hi) | (refine sL ?_; intro hlen) | (refine sQ ?_; intro c hc hcm; try simp only [lnM, lnA, lnC, lnN] at hc) | (refine sX ?_; intro i1 i2 hi1 hi2 hj1 hj2; try simp only [cutL, lnM, lnA, lnC, lnN, lnT, lnD, lnR] at hi1 hi2 hj2) | refine sD ?_ | (refine ret_pick [] rfl rfl rfl ⟨?_, rfl⟩; conv => lhs; whnf) | (refine ret_pick [0] rfl rfl rfl ⟨rfl, ?_⟩) | (refine sH ?_; clear hn he hr Q')))
  refine loop_env (fun k : Nat => [(0,.sl 3 (a.map encLine)),(1,.clo (.func 265) [.rp [.str n]]),(6,.sl 3 (a.map encLine)),(7,.int .i64 a.length),(8,.int .i64 k)]) (fun _ => []) (fun k => k ≤ a.length ∧ noneTo (isLab n) a k) (fun k => a.length - k) 0 ⟨by omega, noneTo_zero⟩ (by refine weak_to rfl rfl rfl ?_; ((repeat' (first | exact trivial | refine And.intro ?_ ?_)) <;> (first | rfl | (conv => rhs; whnf) <;> (first | rfl | (refine congrArg (D.int _) ?_; omega))))) (fun k hk Q' hn he hr => ?_)
  repeat' (first | refine sC ?_ | ((with_reducible refine isAwp ?_); first | (refine sS ?_; intro Q' hn he hr) | refine sA ?_) | (refine sH ?_; clear hn he hr Q') | refine sO ?_ | ((conv => whnf); first | refine sK ?_ | (refine sB ?_; repeat' (first | refine sb0 ?_ | (refine sb2 ?_ ?_ <;> intro hb <;> try exact cls))) | ((with_reducible refine isCall ?_); first | (refine call_look (c_impl_labelIndex1 x n) rfl ?_)) | ((with_reducible refine isCallQ ?_); first | (refine callQ_look (c_impl_labelIndex1 x n) rfl ?_)) | refine sP ?_ | (refine sE ?_; intro x hx) | (refine sF ?_; intro i y hi hy) | (refine sI ?_; intro i hi) | (refine sL ?_; intro hlen) | (refine sQ ?_; intro c hc hcm; try simp only [lnM, lnA, lnC, lnN] at hc) | (refine sX ?_; intro i1 i2 hi1 hi2 hj1 hj2; try simp only [cutL, lnM, lnA, lnC, lnN, lnT, lnD, lnR] at hi1 hi2 hj2) | refine sD ?_ | (refine ret_pick [] rfl rfl rfl ⟨?_, rfl⟩; conv => lhs; whnf) | (refine ret_pick [0] rfl rfl rfl ⟨rfl, ?_⟩) | (refine sH ?_; clear hn he hr Q')))
  · rw [idxQ_here hk.2 hx hb]
  · exact ⟨k + 1, ⟨by omega, noneTo_succ hk.2 hx hb⟩, by omega, (by refine weak_to rfl rfl rfl ?_; ((repeat' (first | exact trivial | refine And.intro ?_ ?_)) <;> (first | rfl | (conv => rhs; whnf) <;> (first | rfl | (refine congrArg (D.int _) ?_; omega)))))⟩
  · rw [idxQ_none hk.2 (by omega)]
theorem c_impl_labelIndex (a : List TLine) (n : List UInt8) : FnC Tryz.prog 209 G0 0 [] [.sl 3 (a.map encLine), .str n] (fun d os => d = .int .i64 (idxQ (isLab n) a) ∧ os = []) := by
  refine fn_rule Tryz.func209 rfl (by decide +kernel) rfl (fun w0 F0 lent β0 => ?_)
  repeat' (first | refine sC ?_ | ((with_reducible refine isAwp ?_); first | (refine sS ?_; intro Q' hn he hr) | refine sA ?_) | (refine sH ?_; clear hn he hr Q') | refine sO ?_ | ((conv => whnf); first | refine sK ?_ | (refine sB ?_; repeat' (first | refine sb0 ?_ | (refine sb2 ?_ ?_ <;> intro hb <;> try exact cls))) | ((with_reducible refine isCall ?_); first | (refine call_look (c_slices_IndexLine a n) rfl ?_)) | ((with_reducible refine isCallQ ?_); first | (refine callQ_look (c_slices_IndexLine a n) rfl ?_)) | refine sP ?_ | (refine sE ?_; intro x hx) | (refine sF ?_; intro i y hi hy) | (refine sI ?_; intro i hi) | (refine sL ?_; intro hlen) | (refine sQ ?_; intro c hc hcm; try simp only [lnM, lnA, lnC, lnN] at hc) | (refine sX ?_; intro i1 i2 hi1 hi2 hj1 hj2; try simp only [cutL, lnM, lnA, lnC, lnN, lnT, lnD, lnR] at hi1 hi2 hj2) | refine sD ?_ | (refine ret_pick [] rfl rfl rfl ⟨?_, rfl⟩; conv => lhs; whnf) | (refine ret_pick [0] rfl rfl rfl ⟨rfl, ?_⟩) | (refine sH ?_; clear hn he hr Q')))
theorem c_impl_labelIndex_cut (a : List TLine) (k : Nat) (n : List UInt8) : FnC Tryz.prog 209 G0 0 [] [.sl 3 (cutL (a.map encLine) none (some k)), .str n] (fun d os => d = .int .i64 (idxQ (isLab n) (a.take k)) ∧ os = []) := by
  have h := c_impl_labelIndex (a.take k) n
  rwa [cutT_sl] at h
theorem c_spec_l15Label (a : List TLine) (n : List UInt8) : FnC Tryz.prog 243 G0 0 [] [.sl 3 (a.map encLine), .str n] (fun d os => d = .int .i64 (idxQ (isLab n) a) ∧ os = []) := by
  refine fn_rule Tryz.func243 rfl (by decide +kernel) rfl (fun w0 F0 lent β0 => ?_)
  repeat' (first | refine sC ?_ | ((with_reducible refine isAwp ?_); first | (refine sS ?_; intro Q' hn he hr) | refine sA ?_) | (refine sH ?_; clear hn he hr Q') | refine sO ?_ | ((conv => whnf); first | refine sK ?_ | (refine sB ?_; repeat' (first | refine sb0 ?_ | (refine sb2 ?_ ?_ <;> intro hb <;> try exact cls))) | refine sP ?_ | (refine sE ?_; intro x hx) | (refine sF ?_; intro i y hi hy) | (refine sI ?_; intro i hi) | (refine sL ?_; intro hlen) | (refine sQ ?_; intro c hc hcm; try simp only [lnM, lnA, lnC, lnN] at hc) | (refine sX ?_; intro i1 i2 hi1 hi2 hj1 hj2; try simp only [cutL, lnM, lnA, lnC, lnN, lnT, lnD, lnR] at hi1 hi2 hj2) | refine sD ?_ | (refine ret_pick [] rfl rfl rfl ⟨?_, rfl⟩; conv => lhs; whnf) | (refine ret_pick [0] rfl rfl rfl ⟨rfl, ?_⟩) | (refine sH ?_; clear hn he hr Q')))
  refine loop_env (fun k : Nat => [(0,.sl 3 (a.map encLine)),(1,.str n),(5,.int .i64 k)]) (fun _ => []) (fun k => k ≤ a.length ∧ noneTo (isLab n) a k) (fun k => a.length - k) 0 ⟨by omega, noneTo_zero⟩ (by refine weak_to rfl rfl rfl ?_; ((repeat' (first | exact trivial | refine And.intro ?_ ?_)) <;> (first | rfl | (conv => rhs; whnf) <;> (first | rfl | (refine congrArg (D.int _) ?_; omega))))) (fun k hk Q' hn he hr => ?_)
  by_cases hkl : k < a.length
  · obtain ⟨x, hx0⟩ : ∃ x, a[k]? = some x := ⟨_, List.getElem?_eq_getElem hkl⟩
    repeat' (first | refine sC ?_ | ((with_reducible refine isAwp ?_); first | (refine sS ?_; intro Q' hn he hr) | refine sA ?_) | (refine sH ?_; clear hn he hr Q') | refine sO ?_ | ((conv => whnf); first | refine sK ?_ | (refine sB ?_; repeat' (first | refine sb0 ?_ | (refine sb2 ?_ ?_ <;> intro hb <;> try exact cls))) | (refine ElemS.the hx0 ?_) | refine sP ?_ | (refine sE ?_; intro x hx) | (refine sF ?_; intro i y hi hy) | (refine sI ?_; intro i hi) | (refine sL ?_; intro hlen) | (refine sQ ?_; intro c hc hcm; try simp only [lnM, lnA, lnC, lnN] at hc) | (refine sX ?_; intro i1 i2 hi1 hi2 hj1 hj2; try simp only [cutL, lnM, lnA, lnC, lnN, lnT, lnD, lnR] at hi1 hi2 hj2) | refine sD ?_ | (refine ret_pick [] rfl rfl rfl ⟨?_, rfl⟩; conv => lhs; whnf) | (refine ret_pick [0] rfl rfl rfl ⟨rfl, ?_⟩) | (refine sH ?_; clear hn he hr Q')))
    all_goals first
      | (rw [idxQ_here hk.2 hx0 (by simp [isLab, *])]; done)
      | exact ⟨k + 1, ⟨by omega, noneTo_succ hk.2 hx0 (by simp [isLab, *])⟩, by omega, (by refine weak_to rfl rfl rfl ?_; ((repeat' (first | exact trivial | refine And.intro ?_ ?_)) <;> (first | rfl | (conv => rhs; whnf) <;> (first | rfl | (refine congrArg (D.int _) ?_; omega)))))⟩
  · repeat' (first | refine sC ?_ | ((with_reducible refine isAwp ?_); first | (refine sS ?_; intro Q' hn he hr) | refine sA ?_) | (refine sH ?_; clear hn he hr Q') | refine sO ?_ | ((conv => whnf); first | refine sK ?_ | (refine sB ?_; repeat' (first | refine sb0 ?_ | (refine sb2 ?_ ?_ <;> intro hb <;> try exact cls))) | refine sP ?_ | (refine sE ?_; intro x hx) | (refine sF ?_; intro i y hi hy) | (refine sI ?_; intro i hi) | (refine sL ?_; intro hlen) | (refine sQ ?_; intro c hc hcm; try simp only [lnM, lnA, lnC, lnN] at hc) | (refine sX ?_; intro i1 i2 hi1 hi2 hj1 hj2; try simp only [cutL, lnM, lnA, lnC, lnN, lnT, lnD, lnR] at hi1 hi2 hj2) | refine sD ?_ | (refine ret_pick [] rfl rfl rfl ⟨?_, rfl⟩; conv => lhs; whnf) | (refine ret_pick [0] rfl rfl rfl ⟨rfl, ?_⟩) | (refine sH ?_; clear hn he hr Q')))
    rw [idxQ_none hk.2 (by omega)]
theorem c_spec_l15One (x : TLine) : FnC Tryz.prog 242 G0 0 [] [.rp (encLine x)] (fun d os => d = .bool (scrB x) ∧ os = []) := by
  refine fn_rule Tryz.func242 rfl (by decide +kernel) rfl (fun w0 F0 lent β0 => ?_)
  repeat' (first | refine sC ?_ | ((with_reducible refine isAwp ?_); first | (refine sS ?_; intro Q' hn he hr) | refine sA ?_) | (refine sH ?_; clear hn he hr Q') | refine sO ?_ | ((conv => whnf); first | refine sK ?_ | (refine sB ?_; repeat' (first | refine sb0 ?_ | (refine sb2 ?_ ?_ <;> intro hb <;> try exact cls))) | ((with_reducible refine isCall ?_); first | (refine call_pure (c_spec_l01Name _) rfl rfl ?_) | (refine call_pure (c_l00In _ _ _) rfl rfl ?_)) | ((with_reducible refine isCallQ ?_); first | (refine callQ_pure (c_spec_l01Name _) rfl rfl ?_) | (refine callQ_pure (c_l00In _ _ _) rfl rfl ?_)) | refine sP ?_ | (refine sE ?_; intro x hx) | (refine sF ?_; intro i y hi hy) | (refine sI ?_; intro i hi) | (refine sL ?_; intro hlen) | (refine sQ ?_; intro c hc hcm; try simp only [lnM, lnA, lnC, lnN] at hc) | (refine sX ?_; intro i1 i2 hi1 hi2 hj1 hj2; try simp only [cutL, lnM, lnA, lnC, lnN, lnT, lnD, lnR] at hi1 hi2 hj2) | refine sD ?_ | (refine ret_pick [] rfl rfl rfl ⟨?_, rfl⟩; conv => lhs; whnf) | (refine ret_pick [0] rfl rfl rfl ⟨rfl, ?_⟩) | (refine sH ?_; clear hn he hr Q')))
  all_goals (simp_all [scrB]; done)
theorem c_spec_l15Ok (a : List TLine) : FnC Tryz.prog 183 G0 0 [] [.sl 3 (a.map encLine)] (fun d os => d = .bool (scrsB a) ∧ os = []) := by
  refine fn_rule Tryz.func183 rfl (by decide +kernel) rfl (fun w0 F0 lent β0 => ?_)
  repeat' (first | refine sC ?_ | ((with_reducible refine isAwp ?_); first | (refine sS ?_; intro Q' hn he hr) | refine sA ?_) | (refine sH ?_; clear hn he hr Q') | refine sO ?_ | ((conv => whnf); first | refine sK ?_ | (refine sB ?_; repeat' (first | refine sb0 ?_ | (refine sb2 ?_ ?_ <;> intro hb <;> try exact cls))) | refine sP ?_ | (refine sE ?_; intro x hx) | (refine sF ?_; intro i y hi hy) | (refine sI ?_; intro i hi) | (refine sL ?_; intro hlen) | (refine sQ ?_; intro c hc hcm; try simp only [lnM, lnA, lnC, lnN] at hc) | (refine sX ?_; intro i1 i2 hi1 hi2 hj1 hj2; try simp only [cutL, lnM, lnA, lnC, lnN, lnT, lnD, lnR] at hi1 hi2 hj2) | refine sD ?_ | (refine ret_pick [] rfl rfl rfl ⟨?_, rfl⟩; conv => lhs; whnf) | (refine ret_pick [0] rfl rfl rfl ⟨rfl, ?_⟩) | (refine sH ?_; clear hn he hr Q')))
  refine loop_env (fun k : Nat => [(0,.sl 3 (a.map encLine)),(3,.int .i64 k)]) (fun _ => []) (fun k => k ≤ a.length ∧ allIto (scrP a) a k) (fun k => a.length - k) 0 ⟨by omega, allIto_zero⟩ (by refine weak_to rfl rfl rfl ?_; ((repeat' (first | exact trivial | refine And.intro ?_ ?_)) <;> (first | rfl | (conv => rhs; whnf) <;> (first | rfl | (refine congrArg (D.int _) ?_; omega))))) (fun k hk Q' hn he hr => ?_)
  repeat' (first | refine sC ?_ | ((with_reducible refine isAwp ?_); first | (refine sS ?_; intro Q' hn he hr) | refine sA ?_) | (refine sH ?_; clear hn he hr Q') | refine sO ?_ | ((conv => whnf); first | refine sK ?_ | (refine sB ?_; repeat' (first | refine sb0 ?_ | (refine sb2 ?_ ?_ <;> intro hb <;> try exact cls))) | ((with_reducible refine isCall ?_); first | (refine call_look (c_spec_l15One x) rfl ?_) | (refine call_look (c_spec_l15Label a x.fName) rfl ?_)) | ((with_reducible refine isCallQ ?_); first | (refine callQ_look (c_spec_l15One x) rfl ?_) | (refine callQ_look (c_spec_l15Label a x.fName) rfl ?_)) | refine sP ?_ | (refine sE ?_; intro x hx) | (refine sF ?_; intro i y hi hy) | (refine sI ?_; intro i hi) | (refine sL ?_; intro hlen) | (refine sQ ?_; intro c hc hcm; try simp only [lnM, lnA, lnC, lnN] at hc) | (refine sX ?_; intro i1 i2 hi1 hi2 hj1 hj2; try simp only [cutL, lnM, lnA, lnC, lnN, lnT, lnD, lnR] at hi1 hi2 hj2) | refine sD ?_ | (refine ret_pick [] rfl rfl rfl ⟨?_, rfl⟩; conv => lhs; whnf) | (refine ret_pick [0] rfl rfl rfl ⟨rfl, ?_⟩) | (refine sH ?_; clear hn he hr Q')))
  all_goals first
    | (rw [scrsB_bad hx (scrP_one hb)]; done)
    | (rw [scrsB_bad hx (scrP_lab (by assumption) (lab_no hx (by assumption) hb))]; done)
    | (rw [scrsB_bad hx (scrP_jmp (by assumption) hb)]; done)
    | (refine ⟨k + 1, ⟨by omega, allIto_succ hk.2 hx (scrP_yes (by assumption) (fun h1 => ?_) (fun h4 => ?_))⟩, by omega, (by refine weak_to rfl rfl rfl ?_; ((repeat' (first | exact trivial | refine And.intro ?_ ?_)) <;> (first | rfl | (conv => rhs; whnf) <;> (first | rfl | (refine congrArg (D.int _) ?_; omega)))))⟩
       · first
           | (exfalso; omega)
           | exact (lab_find hx h1).1 (by assumption)
       · first
           | (exfalso; omega)
           | assumption)
    | (have h9 := allI_of hk.2 (by omega); simp [scrsB, h9]; try omega)
theorem c_impl_ValidScript (a : List TLine) : FnC Tryz.prog 140 G0 0 [] [.sl 3 (a.map encLine)] (fun d os => d = .bool (scrsB a) ∧ os = []) := by
  refine fn_rule Tryz.func140 rfl (by decide +kernel) rfl (fun w0 F0 lent β0 => ?_)
  repeat' (first | refine sC ?_ | ((with_reducible refine isAwp ?_); first | (refine sS ?_; intro Q' hn he hr) | refine sA ?_) | (refine sH ?_; clear hn he hr Q') | refine sO ?_ | ((conv => whnf); first | refine sK ?_ | (refine sB ?_; repeat' (first | refine sb0 ?_ | (refine sb2 ?_ ?_ <;> intro hb <;> try exact cls))) | refine sP ?_ | (refine sE ?_; intro x hx) | (refine sF ?_; intro i y hi hy) | (refine sI ?_; intro i hi) | (refine sL ?_; intro hlen) | (refine sQ ?_; intro c hc hcm; try simp only [lnM, lnA, lnC, lnN] at hc) | (refine sX ?_; intro i1 i2 hi1 hi2 hj1 hj2; try simp only [cutL, lnM, lnA, lnC, lnN, lnT, lnD, lnR] at hi1 hi2 hj2) | refine sD ?_ | (refine ret_pick [] rfl rfl rfl ⟨?_, rfl⟩; conv => lhs; whnf) | (refine ret_pick [0] rfl rfl rfl ⟨rfl, ?_⟩) | (refine sH ?_; clear hn he hr Q')))
  · rw [scrsB_long (by omega)]
  · refine loop_env (fun k : Nat => [(0,.sl 3 (a.map encLine)),(10,.sl 3 (a.map encLine)),(11,.int .i64 a.length),(12,.int .i64 k)]) (fun _ => []) (fun k => k ≤ a.length ∧ allIto (scrP a) a k) (fun k => a.length - k) 0 ⟨by omega, allIto_zero⟩ (by refine weak_to rfl rfl rfl ?_; ((repeat' (first | exact trivial | refine And.intro ?_ ?_)) <;> (first | rfl | (conv => rhs; whnf) <;> (first | rfl | (refine congrArg (D.int _) ?_; omega))))) (fun k hk Q' hn he hr => ?_)
    repeat' (first | refine sC ?_ | ((with_reducible refine isAwp ?_); first | (refine sS ?_; intro Q' hn he hr) | refine sA ?_) | (refine sH ?_; clear hn he hr Q') | refine sO ?_ | ((conv => whnf); first | refine sK ?_ | (refine sB ?_; repeat' (first | refine sb0 ?_ | (refine sb2 ?_ ?_ <;> intro hb <;> try exact cls))) | ((with_reducible refine isCall ?_); first | (refine call_pure (c_impl_IsName _) rfl rfl ?_) | (refine call_pure (c_within _ _ _) rfl rfl ?_) | (refine call_pure (c_impl_labelIndex_cut a k x.fName) rfl rfl ?_) | (refine call_look (c_impl_labelIndex a x.fName) rfl ?_)) | ((with_reducible refine isCallQ ?_); first | (refine callQ_pure (c_impl_IsName _) rfl rfl ?_) | (refine callQ_pure (c_within _ _ _) rfl rfl ?_) | (refine callQ_pure (c_impl_labelIndex_cut a k x.fName) rfl rfl ?_) | (refine callQ_look (c_impl_labelIndex a x.fName) rfl ?_)) | refine sP ?_ | (refine sE ?_; intro x hx) | (refine sF ?_; intro i y hi hy) | (refine sI ?_; intro i hi) | (refine sL ?_; intro hlen) | (refine sQ ?_; intro c hc hcm; try simp only [lnM, lnA, lnC, lnN] at hc) | (refine sX ?_; intro i1 i2 hi1 hi2 hj1 hj2; try simp only [cutL, lnM, lnA, lnC, lnN, lnT, lnD, lnR] at hi1 hi2 hj2) | refine sD ?_ | (refine ret_pick [] rfl rfl rfl ⟨?_, rfl⟩; conv => lhs; whnf) | (refine ret_pick [0] rfl rfl rfl ⟨rfl, ?_⟩) | (refine sH ?_; clear hn he hr Q')))
    all_goals first
      | (have h9 := allI_of hk.2 (by omega); have h8 : a.length ≤ 40 := (by omega); simp [scrsB, h9, h8]; done)
      | (refine ⟨k + 1, ⟨by omega, allIto_succ hk.2 hx (scrP_yes ?_ (fun h1 => ?_) (fun h4 => ?_))⟩, by omega, (by refine weak_to rfl rfl rfl ?_; ((repeat' (first | exact trivial | refine And.intro ?_ ?_)) <;> (first | rfl | (conv => rhs; whnf) <;> (first | rfl | (refine congrArg (D.int _) ?_; omega)))))⟩
         · first
             | (rw [scr_k1 (by assumption)]; exact band (by assumption) (decide_eq_true (by assumption)))
             | (rw [scr_k3 (by assumption)]; exact band (by assumption) (decide_eq_true (by assumption)))
             | (rw [scr_k2 (by assumption)]; exact band (decide_eq_true (by assumption)) (by assumption))
             | (rw [scr_k4 (by assumption)]; exact band (by assumption) (by assumption))
             | (rw [scr_k5 (by assumption)]; exact band (decide_eq_true (by assumption)) (decide_eq_true (by assumption)))
         · first
             | (exfalso; omega)
             | exact none_of_neg (by omega) (by assumption)
         · first
             | (exfalso; omega)
             | assumption)
      | (rw [scrsB_bad hx (scrP_one (scr_k0 (by assumption) (by assumption) (by assumption) (by assumption) (by assumption)))]; done)
      | (rw [scrsB_bad hx (scrP_one (by first | rw [scr_k1 (by assumption)] | rw [scr_k3 (by assumption)] | rw [scr_k2 (by assumption)] | rw [scr_k4 (by assumption)] | rw [scr_k5 (by assumption)]
                                        first
                                          | (rw [hb]; rfl)
                                          | (rw [hb, Bool.and_false])
                                          | (rw [decide_eq_false hb, Bool.and_false])
                                          | (rw [decide_eq_false (show ¬ x.fName = [] from hb)]; rfl)))]; done)
      | (rw [scrsB_bad hx (scrP_jmp (by assumption) hb)]; done)
      | (rw [scrsB_bad hx (scrP_lab (by assumption) ((idxQ_take (by omega)).1 hb))]; done)
      | skip
end Go.Eng
