/-
  Lists of marks: their validity, the mean error, the worst mark; by the program and by the reference.
  No conditions.
-/
import Derived.Test.YtaijhjhhpdkhcaaGreatDoorED
import Derived.Test.YtaijhjhhpdkhcaaGreatDoorA9
set_option linter.unusedVariables false
set_option linter.unusedSimpArgs false
set_option maxHeartbeats 4000000
namespace Go.Eng
open Go Go.RowKit Go.Proofs
set_option maxRecDepth 100000
theorem arcA_bound (y x : Int) : 0 ≤ arcA y x ∧ arcA y x ≤ 360000 := by
  have h1 : arcLow y x ≤ 45000 := bsr_le (by omega)
  have h2 : 0 ≤ arcB y x ∧ arcB y x ≤ 90000 := by unfold arcB; split <;> omega
  unfold arcA
  (repeat' split) <;> omega
theorem errMk_bound (m : TMark) : 0 ≤ errMk m ∧ errMk m ≤ 360000 := by
  unfold errMk awayV
  split
  · omega
  · exact arcA_bound _ _
def badMk (m : TMark) : Bool := !validMk m
def askMk (a : List TMark) : Int := if firstAt badMk a < a.length then 1 else if 1 ≤ a.length ∧ a.length ≤ 24 then 0 else 2
theorem askMk_ok {a : List TMark} (h : askMk a = 0) : (∀ (k : Nat) (m : TMark), a[k]? = some m → validMk m = true) ∧ 1 ≤ a.length ∧ a.length ≤ 24 := by
  unfold askMk at h
  split at h
  · cases h
  · rename_i h1
    split at h
    · rename_i h2
      refine ⟨fun k m hm => ?_, h2.1, h2.2⟩
      have hk := (List.getElem?_eq_some_iff.1 hm).1
      have := (firstAt_spec badMk a).1 k m (by omega) hm
      simpa [badMk] using this
    · cases h
theorem c_impl_checkMarks1 (m : TMark) : FnC Tryz.prog 128 G0 0 [] [.agg (encMark m)] (fun d os => d = .bool (badMk m) ∧ os = []) := by
  refine fn_rule Tryz.func128 rfl (by decide +kernel) rfl (fun w0 F0 lent β0 => ?_)
  repeat' (first | refine sC ?_ | ((with_reducible refine isAwp ?_); first | (refine sS ?_; intro Q' hn he hr) | refine sA ?_) | (refine sH ?_; clear hn he hr Q') | refine sO ?_ | ((conv => whnf); first | refine sK ?_ | (refine sB ?_; repeat' (first | refine sb0 ?_ | (refine sb2 ?_ ?_ <;> intro hb <;> try exact cls))) | ((with_reducible refine isCall ?_); first | (refine call_pure (c_impl_ValidMark m) rfl rfl ?_)) | ((with_reducible refine isCallQ ?_); first | (refine callQ_pure (c_impl_ValidMark m) rfl rfl ?_)) | refine sP ?_ | (refine sE ?_; intro x hx) | (refine sF ?_; intro i y hi hy) | (refine sI ?_; intro i hi) | (refine sL ?_; intro hlen) | (refine sQ ?_; intro c hc hcm; try simp only [lnM, lnA, lnC, lnN] at hc) | (refine sX ?_; intro i1 i2 hi1 hi2 hj1 hj2; try simp only [cutL, lnM, lnA, lnC, lnN, lnT, lnD, lnR] at hi1 hi2 hj2) | refine sD ?_ | (refine ret_pick [] rfl rfl rfl ⟨?_, rfl⟩; conv => lhs; whnf) | (refine ret_pick [0] rfl rfl rfl ⟨rfl, ?_⟩) | (refine sH ?_; clear hn he hr Q')))
  all_goals rfl
set_option maxHeartbeats 4000000 in
theorem c_slices_IndexMark (a : List TMark) : FnC Tryz.prog 175 G0 0 [] [.sl 4 (a.map encMark), .clo (.func 128) []] (fun d os => d = .int .i64 (if firstAt badMk a < a.length then (firstAt badMk a : Int) else -1) ∧ os = []) := by
  refine fn_rule Tryz.func175 rfl (by decide +kernel) rfl (fun w0 F0 lent β0 => ?_)
  repeat' (first | refine sC ?_ | ((with_reducible refine isAwp ?_); first | (refine sS ?_; intro Q' hn he hr) | refine sA ?_) | (refine sH ?_; clear hn he hr Q') | refine sO ?_ | ((conv => whnf); first | refine sK ?_ | (refine sB ?_; repeat' (first | refine sb0 ?_ | (refine sb2 ?_ ?_ <;> intro hb <;> try exact cls))) | refine sP ?_ | (refine sE ?_; intro x hx) | (refine sF ?_; intro i y hi hy) | (refine sI ?_; intro i hi) | (refine sL ?_; intro hlen) | (refine sQ ?_; intro c hc hcm; try simp only [lnM, lnA, lnC, lnN] at hc) | (refine sX ?_; intro i1 i2 hi1 hi2 hj1 hj2; try simp only [cutL, lnM, lnA, lnC, lnN, lnT, lnD, lnR] at hi1 hi2 hj2) | refine sD ?_ | (refine ret_pick [] rfl rfl rfl ⟨?_, rfl⟩; conv => lhs; whnf) | (refine ret_pick [0] rfl rfl rfl ⟨rfl, ?_⟩) | (refine sH ?_; clear hn he hr Q')))
  refine loop_env (fun k : Nat => [(0,.sl 4 (a.map encMark)),(1,.clo (.func 128) []),(7,.int .i64 a.length),(8,.int .i64 k)]) (fun _ => []) (fun k => k ≤ a.length ∧ noneTo badMk a k) (fun k => a.length - k) 0 ⟨by omega, noneTo_zero⟩ (by refine weak_to rfl rfl rfl ?_; ((repeat' (first | exact trivial | refine And.intro ?_ ?_)) <;> (first | rfl | (conv => rhs; whnf) <;> (first | rfl | (refine congrArg (D.int _) ?_; omega))))) (fun k hk Q' hn he hr => ?_)
  repeat' (first | refine sC ?_ | ((with_reducible refine isAwp ?_); first | (refine sS ?_; intro Q' hn he hr) | refine sA ?_) | (refine sH ?_; clear hn he hr Q') | refine sO ?_ | ((conv => whnf); first | refine sK ?_ | (refine sB ?_; repeat' (first | refine sb0 ?_ | (refine sb2 ?_ ?_ <;> intro hb <;> try exact cls))) | ((with_reducible refine isCall ?_); first | (refine call_pure (c_impl_checkMarks1 _) rfl rfl ?_)) | ((with_reducible refine isCallQ ?_); first | (refine callQ_pure (c_impl_checkMarks1 _) rfl rfl ?_)) | refine sP ?_ | (refine sE ?_; intro x hx) | (refine sF ?_; intro i y hi hy) | (refine sI ?_; intro i hi) | (refine sL ?_; intro hlen) | (refine sQ ?_; intro c hc hcm; try simp only [lnM, lnA, lnC, lnN] at hc) | (refine sX ?_; intro i1 i2 hi1 hi2 hj1 hj2; try simp only [cutL, lnM, lnA, lnC, lnN, lnT, lnD, lnR] at hi1 hi2 hj2) | refine sD ?_ | (refine ret_pick [] rfl rfl rfl ⟨?_, rfl⟩; conv => lhs; whnf) | (refine ret_pick [0] rfl rfl rfl ⟨rfl, ?_⟩) | (refine sH ?_; clear hn he hr Q')))
  · rw [firstAt_here hk.2 hx (by assumption), if_pos (by omega)]
  · exact ⟨k + 1, ⟨by omega, noneTo_succ hk.2 hx (by assumption)⟩, by omega, (by refine weak_to rfl rfl rfl ?_; ((repeat' (first | exact trivial | refine And.intro ?_ ?_)) <;> (first | rfl | (conv => rhs; whnf) <;> (first | rfl | (refine congrArg (D.int _) ?_; omega)))))⟩
  · rw [firstAt_none hk.2 (by omega), if_neg (by omega)]
theorem c_slices_ContainsMark (a : List TMark) : FnC Tryz.prog 127 G0 0 [] [.sl 4 (a.map encMark), .clo (.func 128) []] (fun d os => d = .bool (decide (firstAt badMk a < a.length)) ∧ os = []) := by
  refine fn_rule Tryz.func127 rfl (by decide +kernel) rfl (fun w0 F0 lent β0 => ?_)
  repeat' (first | refine sC ?_ | ((with_reducible refine isAwp ?_); first | (refine sS ?_; intro Q' hn he hr) | refine sA ?_) | (refine sH ?_; clear hn he hr Q') | refine sO ?_ | ((conv => whnf); first | refine sK ?_ | (refine sB ?_; repeat' (first | refine sb0 ?_ | (refine sb2 ?_ ?_ <;> intro hb <;> try exact cls))) | ((with_reducible refine isCall ?_); first | (refine call_pure (c_slices_IndexMark a) rfl rfl ?_)) | ((with_reducible refine isCallQ ?_); first | (refine callQ_pure (c_slices_IndexMark a) rfl rfl ?_)) | refine sP ?_ | (refine sE ?_; intro x hx) | (refine sF ?_; intro i y hi hy) | (refine sI ?_; intro i hi) | (refine sL ?_; intro hlen) | (refine sQ ?_; intro c hc hcm; try simp only [lnM, lnA, lnC, lnN] at hc) | (refine sX ?_; intro i1 i2 hi1 hi2 hj1 hj2; try simp only [cutL, lnM, lnA, lnC, lnN, lnT, lnD, lnR] at hi1 hi2 hj2) | refine sD ?_ | (refine ret_pick [] rfl rfl rfl ⟨?_, rfl⟩; conv => lhs; whnf) | (refine ret_pick [0] rfl rfl rfl ⟨rfl, ?_⟩) | (refine sH ?_; clear hn he hr Q')))
  all_goals (refine congrArg D.bool ?_; by_cases h : firstAt badMk a < a.length <;> simp [h] <;> omega)
theorem c_impl_checkMarks (a : List TMark) : FnC Tryz.prog 76 G0 0 [] [.sl 4 (a.map encMark)] (fun d os => d = .int .i64 (askMk a) ∧ os = []) := by
  refine fn_rule Tryz.func76 rfl (by decide +kernel) rfl (fun w0 F0 lent β0 => ?_)
  repeat' (first | refine sC ?_ | ((with_reducible refine isAwp ?_); first | (refine sS ?_; intro Q' hn he hr) | refine sA ?_) | (refine sH ?_; clear hn he hr Q') | refine sO ?_ | ((conv => whnf); first | refine sK ?_ | (refine sB ?_; repeat' (first | refine sb0 ?_ | (refine sb2 ?_ ?_ <;> intro hb <;> try exact cls))) | ((with_reducible refine isCall ?_); first | (refine call_pure (c_slices_ContainsMark a) rfl rfl ?_) | (refine call_pure (c_within _ _ _) rfl rfl ?_)) | ((with_reducible refine isCallQ ?_); first | (refine callQ_pure (c_slices_ContainsMark a) rfl rfl ?_) | (refine callQ_pure (c_within _ _ _) rfl rfl ?_)) | refine sP ?_ | (refine sE ?_; intro x hx) | (refine sF ?_; intro i y hi hy) | (refine sI ?_; intro i hi) | (refine sL ?_; intro hlen) | (refine sQ ?_; intro c hc hcm; try simp only [lnM, lnA, lnC, lnN] at hc) | (refine sX ?_; intro i1 i2 hi1 hi2 hj1 hj2; try simp only [cutL, lnM, lnA, lnC, lnN, lnT, lnD, lnR] at hi1 hi2 hj2) | refine sD ?_ | (refine ret_pick [] rfl rfl rfl ⟨?_, rfl⟩; conv => lhs; whnf) | (refine ret_pick [0] rfl rfl rfl ⟨rfl, ?_⟩) | (refine sH ?_; clear hn he hr Q')))
  all_goals (refine congrArg (D.int _) ?_; (try simp only [inB, decide_eq_true_eq, decide_eq_false_iff_not] at *); unfold askMk; (repeat' split) <;> omega)
/-- The sum of errors. -/
noncomputable def sumMk (a : List TMark) : Int := match a with
  | [] => 0
  | m :: r => errMk m + sumMk r
theorem sumMk_take {a : List TMark} {k : Nat} {m : TMark} (h : a[k]? = some m) : sumMk (a.take (k + 1)) = sumMk (a.take k) + errMk m := by
  have happ : ∀ l r, sumMk (l ++ r) = sumMk l + sumMk r := by
    intro l r
    induction l with
    | nil => simp [sumMk]
    | cons x l ih => rw [List.cons_append, sumMk, sumMk, ih]; omega
  rw [List.take_add_one, h, happ]
  simp [sumMk]
theorem sumMk_bound (a : List TMark) : 0 ≤ sumMk a ∧ sumMk a ≤ 360000 * a.length := by
  induction a with
  | nil => simp [sumMk]
  | cons m r ih =>
    have := errMk_bound m
    rw [sumMk, List.length_cons]; omega
/-- The worst of the first k marks, and its error. -/
noncomputable def worstTo (a : List TMark) : Nat → Nat × Int
  | 0 => (0, -1)
  | k + 1 => match a[k]? with
    | some m => if (worstTo a k).2 < errMk m then (k, errMk m) else worstTo a k
    | none => worstTo a k
end Go.Eng
