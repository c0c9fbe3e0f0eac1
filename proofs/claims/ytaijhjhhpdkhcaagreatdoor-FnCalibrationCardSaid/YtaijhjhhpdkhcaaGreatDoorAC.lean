/-
  Contracts of functions of the program and of the reference, and plain laws: a bundle of texts.
  No conditions.
-/
import Derived.Test.YtaijhjhhpdkhcaaGreatDoorED
import Derived.Test.YtaijhjhhpdkhcaaGreatDoorA10
set_option linter.unusedVariables false
set_option linter.unusedSimpArgs false
set_option maxHeartbeats 4000000
namespace Go.Eng
open Go Go.RowKit Go.Proofs
set_option maxRecDepth 100000
noncomputable def meanMk (a : List TMark) : Int := (sumMk a).tdiv a.length
theorem meanMk_bound {a : List TMark} (hl : 1 ≤ a.length ∧ a.length ≤ 24) : -9000000 ≤ (sumMk a).tdiv a.length ∧ (sumMk a).tdiv a.length ≤ 9000000 := by
  have h1 := sumMk_bound a
  have h2 := tdiv_bound (a := sumMk a) (b := a.length) (by omega)
  have h3 := absI_bound (a := sumMk a) (m := 8640000) (by omega)
  omega
set_option maxHeartbeats 4000000 in
theorem c_impl_meanError (a : List TMark) (hok : ∀ (k : Nat) m, a[k]? = some m → validMk m = true) (hl : 1 ≤ a.length ∧ a.length ≤ 24) : FnC Tryz.prog 78 GS 0 [] [.sl 4 (a.map encMark)] (fun d os => d = .int .i64 (meanMk a) ∧ os = []) := by
  have hmb := meanMk_bound hl
  refine fn_rule Tryz.func78 rfl (by decide +kernel) rfl (fun w0 F0 lent β0 => ?_)
  repeat' (first | refine sC ?_ | ((with_reducible refine isAwp ?_); first | (refine sS ?_; intro Q' hn he hr) | refine sA ?_) | (refine sH ?_; clear hn he hr Q') | refine sO ?_ | ((conv => whnf); first | refine sK ?_ | (refine sB ?_; repeat' (first | refine sb0 ?_ | (refine sb2 ?_ ?_ <;> intro hb <;> try exact cls))) | refine sP ?_ | (refine sE ?_; intro x hx) | (refine sF ?_; intro i y hi hy) | (refine sI ?_; intro i hi) | (refine sL ?_; intro hlen) | (refine sQ ?_; intro c hc hcm; try simp only [lnM, lnA, lnC, lnN] at hc) | (refine sX ?_; intro i1 i2 hi1 hi2 hj1 hj2; try simp only [cutL, lnM, lnA, lnC, lnN, lnT, lnD, lnR] at hi1 hi2 hj2) | refine sD ?_ | (refine ret_pick [] rfl rfl rfl ⟨?_, rfl⟩; conv => lhs; whnf) | (refine ret_pick [0] rfl rfl rfl ⟨rfl, ?_⟩) | (refine sH ?_; clear hn he hr Q')))
  refine loop_env (fun k : Nat => [(0,.sl 4 (a.map encMark)),(3,.int .i64 (sumMk (a.take k))),(6,.sl 4 (a.map encMark)),(7,.int .i64 a.length),(8,.int .i64 k)]) (fun _ => []) (fun k => k ≤ a.length) (fun k => a.length - k) 0 (by omega) (by refine weak_to rfl rfl rfl ?_; ((repeat' (first | exact trivial | refine And.intro ?_ ?_)) <;> (first | rfl | (conv => rhs; whnf) <;> (first | rfl | (refine congrArg (D.int _) ?_; omega))))) (fun k hk Q' hn he hr => ?_)
  have hsb := sumMk_bound (a.take k)
  have hsl : (a.take k).length ≤ 24 := by simp; omega
  by_cases hkl : k < a.length
  · skip
    repeat' (first | refine sC ?_ | ((with_reducible refine isAwp ?_); first | (refine sS ?_; intro Q' hn he hr) | refine sA ?_) | (refine sH ?_; clear hn he hr Q') | refine sO ?_ | ((conv => whnf); first | refine sK ?_ | (refine sB ?_; repeat' (first | refine sb0 ?_ | (refine sb2 ?_ ?_ <;> intro hb <;> try exact cls))) | (refine ArithS.in64 (by have h9 := errMk_bound x; omega) ?_) | ((with_reducible refine isCall ?_); first | (refine call_pure (c_impl_markError _ (hok _ _ hx)) rfl rfl ?_)) | ((with_reducible refine isCallQ ?_); first | (refine callQ_pure (c_impl_markError _ (hok _ _ hx)) rfl rfl ?_)) | refine sP ?_ | (refine sE ?_; intro x hx) | (refine sF ?_; intro i y hi hy) | (refine sI ?_; intro i hi) | (refine sL ?_; intro hlen) | (refine sQ ?_; intro c hc hcm; try simp only [lnM, lnA, lnC, lnN] at hc) | (refine sX ?_; intro i1 i2 hi1 hi2 hj1 hj2; try simp only [cutL, lnM, lnA, lnC, lnN, lnT, lnD, lnR] at hi1 hi2 hj2) | refine sD ?_ | (refine ret_pick [] rfl rfl rfl ⟨?_, rfl⟩; conv => lhs; whnf) | (refine ret_pick [0] rfl rfl rfl ⟨rfl, ?_⟩) | (refine sH ?_; clear hn he hr Q')))
    refine ⟨k + 1, by omega, by omega, ?_⟩
    rw [sumMk_take hx]
    exact (by refine weak_to rfl rfl rfl ?_; ((repeat' (first | exact trivial | refine And.intro ?_ ?_)) <;> (first | rfl | (conv => rhs; whnf) <;> (first | rfl | (refine congrArg (D.int _) ?_; omega)))))
  · obtain rfl : k = a.length := by omega
    rw [List.take_length]
    repeat' (first | refine sC ?_ | ((with_reducible refine isAwp ?_); first | (refine sS ?_; intro Q' hn he hr) | refine sA ?_) | (refine sH ?_; clear hn he hr Q') | refine sO ?_ | ((conv => whnf); first | refine sK ?_ | (refine sB ?_; repeat' (first | refine sb0 ?_ | (refine sb2 ?_ ?_ <;> intro hb <;> try exact cls))) | (refine AskS.mk ⟨by omega, ?_⟩) | (refine ArithS.in64 hmb ?_) | refine sP ?_ | (refine sE ?_; intro x hx) | (refine sF ?_; intro i y hi hy) | (refine sI ?_; intro i hi) | (refine sL ?_; intro hlen) | (refine sQ ?_; intro c hc hcm; try simp only [lnM, lnA, lnC, lnN] at hc) | (refine sX ?_; intro i1 i2 hi1 hi2 hj1 hj2; try simp only [cutL, lnM, lnA, lnC, lnN, lnT, lnD, lnR] at hi1 hi2 hj2) | refine sD ?_ | (refine ret_pick [] rfl rfl rfl ⟨?_, rfl⟩; conv => lhs; whnf) | (refine ret_pick [0] rfl rfl rfl ⟨rfl, ?_⟩) | (refine sH ?_; clear hn he hr Q')))
    all_goals rfl
end Go.Eng

namespace Go.Eng
open Go Go.RowKit Go.Proofs
set_option maxRecDepth 100000
theorem c_impl_MeanError_bad (a : List TMark) (h : askMk a ≠ 0) : FnC Tryz.prog 24 GS 0 [] [.sl 4 (a.map encMark)] (fun d os => d = .tup [.int .i64 0, .int .i64 (askMk a)] ∧ os = []) := by
  refine fn_rule Tryz.func24 rfl (by decide +kernel) rfl (fun w0 F0 lent β0 => ?_)
  repeat' (first | refine sC ?_ | ((with_reducible refine isAwp ?_); first | (refine sS ?_; intro Q' hn he hr) | refine sA ?_) | (refine sH ?_; clear hn he hr Q') | refine sO ?_ | ((conv => whnf); first | refine sK ?_ | (refine sB ?_; repeat' (first | refine sb0 ?_ | (refine sb2 ?_ ?_ <;> intro hb <;> try exact cls))) | ((with_reducible refine isCall ?_); first | (refine call_pure (FnC.anyG (c_impl_checkMarks a)) rfl rfl ?_)) | ((with_reducible refine isCallQ ?_); first | (refine callQ_pure (FnC.anyG (c_impl_checkMarks a)) rfl rfl ?_)) | refine sP ?_ | (refine sE ?_; intro x hx) | (refine sF ?_; intro i y hi hy) | (refine sI ?_; intro i hi) | (refine sL ?_; intro hlen) | (refine sQ ?_; intro c hc hcm; try simp only [lnM, lnA, lnC, lnN] at hc) | (refine sX ?_; intro i1 i2 hi1 hi2 hj1 hj2; try simp only [cutL, lnM, lnA, lnC, lnN, lnT, lnD, lnR] at hi1 hi2 hj2) | refine sD ?_ | (refine ret_pick [] rfl rfl rfl ⟨?_, rfl⟩; conv => lhs; whnf) | (refine ret_pick [0] rfl rfl rfl ⟨rfl, ?_⟩) | (refine sH ?_; clear hn he hr Q')))
  all_goals rfl
theorem c_impl_MeanError_ok (a : List TMark) (h : askMk a = 0) : FnC Tryz.prog 24 GS 0 [] [.sl 4 (a.map encMark)] (fun d os => d = .tup [.int .i64 (meanMk a), .int .i64 0] ∧ os = []) := by
  obtain ⟨hok, hl⟩ := askMk_ok h
  refine fn_rule Tryz.func24 rfl (by decide +kernel) rfl (fun w0 F0 lent β0 => ?_)
  repeat' (first | refine sC ?_ | ((with_reducible refine isAwp ?_); first | (refine sS ?_; intro Q' hn he hr) | refine sA ?_) | (refine sH ?_; clear hn he hr Q') | refine sO ?_ | ((conv => whnf); first | refine sK ?_ | (refine sB ?_; repeat' (first | refine sb0 ?_ | (refine sb2 ?_ ?_ <;> intro hb <;> try exact cls))) | ((with_reducible refine isCall ?_); first | (refine call_pure (FnC.anyG (c_impl_checkMarks a)) rfl rfl ?_) | (refine call_pure (c_impl_meanError a hok hl) rfl rfl ?_)) | ((with_reducible refine isCallQ ?_); first | (refine callQ_pure (FnC.anyG (c_impl_checkMarks a)) rfl rfl ?_) | (refine callQ_pure (c_impl_meanError a hok hl) rfl rfl ?_)) | refine sP ?_ | (refine sE ?_; intro x hx) | (refine sF ?_; intro i y hi hy) | (refine sI ?_; intro i hi) | (refine sL ?_; intro hlen) | (refine sQ ?_; intro c hc hcm; try simp only [lnM, lnA, lnC, lnN] at hc) | (refine sX ?_; intro i1 i2 hi1 hi2 hj1 hj2; try simp only [cutL, lnM, lnA, lnC, lnN, lnT, lnD, lnR] at hi1 hi2 hj2) | refine sD ?_ | (refine ret_pick [] rfl rfl rfl ⟨?_, rfl⟩; conv => lhs; whnf) | (refine ret_pick [0] rfl rfl rfl ⟨rfl, ?_⟩) | (refine sH ?_; clear hn he hr Q')))
  all_goals rfl
end Go.Eng

namespace Go.Eng
open Go Go.RowKit Go.Proofs
set_option maxRecDepth 100000
theorem worstTo_yes {a : List TMark} {k : Nat} {m : TMark} (h : a[k]? = some m) (hl : (worstTo a k).2 < errMk m) : worstTo a (k + 1) = (k, errMk m) := by
  rw [worstTo, h]; simp only; rw [if_pos hl]
theorem worstTo_no {a : List TMark} {k : Nat} {m : TMark} (h : a[k]? = some m) (hl : ¬ (worstTo a k).2 < errMk m) : worstTo a (k + 1) = worstTo a k := by
  rw [worstTo, h]; simp only; rw [if_neg hl]
theorem c_impl_WorstMark_bad (a : List TMark) (h : askMk a ≠ 0) : FnC Tryz.prog 25 GS 0 [] [.sl 4 (a.map encMark)] (fun d os => d = .tup [.int .i64 0, .int .i64 0, .int .i64 (askMk a)] ∧ os = []) := by
  refine fn_rule Tryz.func25 rfl (by decide +kernel) rfl (fun w0 F0 lent β0 => ?_)
  repeat' (first | refine sC ?_ | ((with_reducible refine isAwp ?_); first | (refine sS ?_; intro Q' hn he hr) | refine sA ?_) | (refine sH ?_; clear hn he hr Q') | refine sO ?_ | ((conv => whnf); first | refine sK ?_ | (refine sB ?_; repeat' (first | refine sb0 ?_ | (refine sb2 ?_ ?_ <;> intro hb <;> try exact cls))) | ((with_reducible refine isCall ?_); first | (refine call_pure (FnC.anyG (c_impl_checkMarks a)) rfl rfl ?_)) | ((with_reducible refine isCallQ ?_); first | (refine callQ_pure (FnC.anyG (c_impl_checkMarks a)) rfl rfl ?_)) | refine sP ?_ | (refine sE ?_; intro x hx) | (refine sF ?_; intro i y hi hy) | (refine sI ?_; intro i hi) | (refine sL ?_; intro hlen) | (refine sQ ?_; intro c hc hcm; try simp only [lnM, lnA, lnC, lnN] at hc) | (refine sX ?_; intro i1 i2 hi1 hi2 hj1 hj2; try simp only [cutL, lnM, lnA, lnC, lnN, lnT, lnD, lnR] at hi1 hi2 hj2) | refine sD ?_ | (refine ret_pick [] rfl rfl rfl ⟨?_, rfl⟩; conv => lhs; whnf) | (refine ret_pick [0] rfl rfl rfl ⟨rfl, ?_⟩) | (refine sH ?_; clear hn he hr Q')))
  all_goals rfl
set_option maxHeartbeats 4000000 in
theorem c_impl_WorstMark_ok (a : List TMark) (h : askMk a = 0) : FnC Tryz.prog 25 GS 0 [] [.sl 4 (a.map encMark)] (fun d os => d = .tup [.int .i64 (worstTo a a.length).1, .int .i64 (worstTo a a.length).2, .int .i64 0] ∧ os = []) := by
  obtain ⟨hok, hl⟩ := askMk_ok h
  refine fn_rule Tryz.func25 rfl (by decide +kernel) rfl (fun w0 F0 lent β0 => ?_)
  repeat' (first | refine sC ?_ | ((with_reducible refine isAwp ?_); first | (refine sS ?_; intro Q' hn he hr) | refine sA ?_) | (refine sH ?_; clear hn he hr Q') | refine sO ?_ | ((conv => whnf); first | refine sK ?_ | (refine sB ?_; repeat' (first | refine sb0 ?_ | (refine sb2 ?_ ?_ <;> intro hb <;> try exact cls))) | ((with_reducible refine isCall ?_); first | (refine call_pure (FnC.anyG (c_impl_checkMarks a)) rfl rfl ?_)) | ((with_reducible refine isCallQ ?_); first | (refine callQ_pure (FnC.anyG (c_impl_checkMarks a)) rfl rfl ?_)) | refine sP ?_ | (refine sE ?_; intro x hx) | (refine sF ?_; intro i y hi hy) | (refine sI ?_; intro i hi) | (refine sL ?_; intro hlen) | (refine sQ ?_; intro c hc hcm; try simp only [lnM, lnA, lnC, lnN] at hc) | (refine sX ?_; intro i1 i2 hi1 hi2 hj1 hj2; try simp only [cutL, lnM, lnA, lnC, lnN, lnT, lnD, lnR] at hi1 hi2 hj2) | refine sD ?_ | (refine ret_pick [] rfl rfl rfl ⟨?_, rfl⟩; conv => lhs; whnf) | (refine ret_pick [0] rfl rfl rfl ⟨rfl, ?_⟩) | (refine sH ?_; clear hn he hr Q')))
  refine loop_env (fun k : Nat => [(6,.int .i64 (worstTo a k).1),(7,.int .i64 (worstTo a k).2),(16,.sl 4 (a.map encMark)),(17,.int .i64 a.length),(18,.int .i64 k)]) (fun _ => []) (fun k => k ≤ a.length) (fun k => a.length - k) 0 (by omega) (by refine weak_to rfl rfl rfl ?_; ((repeat' (first | exact trivial | refine And.intro ?_ ?_)) <;> (first | rfl | (conv => rhs; whnf) <;> (first | rfl | (refine congrArg (D.int _) ?_; omega))))) (fun k hk Q' hn he hr => ?_)
  repeat' (first | refine sC ?_ | ((with_reducible refine isAwp ?_); first | (refine sS ?_; intro Q' hn he hr) | refine sA ?_) | (refine sH ?_; clear hn he hr Q') | refine sO ?_ | ((conv => whnf); first | refine sK ?_ | (refine sB ?_; repeat' (first | refine sb0 ?_ | (refine sb2 ?_ ?_ <;> intro hb <;> try exact cls))) | ((with_reducible refine isCall ?_); first | (refine call_pure (c_impl_markError _ (hok _ _ hx)) rfl rfl ?_)) | ((with_reducible refine isCallQ ?_); first | (refine callQ_pure (c_impl_markError _ (hok _ _ hx)) rfl rfl ?_)) | refine sP ?_ | (refine sE ?_; intro x hx) | (refine sF ?_; intro i y hi hy) | (refine sI ?_; intro i hi) | (refine sL ?_; intro hlen) | (refine sQ ?_; intro c hc hcm; try simp only [lnM, lnA, lnC, lnN] at hc) | (refine sX ?_; intro i1 i2 hi1 hi2 hj1 hj2; try simp only [cutL, lnM, lnA, lnC, lnN, lnT, lnD, lnR] at hi1 hi2 hj2) | refine sD ?_ | (refine ret_pick [] rfl rfl rfl ⟨?_, rfl⟩; conv => lhs; whnf) | (refine ret_pick [0] rfl rfl rfl ⟨rfl, ?_⟩) | (refine sH ?_; clear hn he hr Q')))
  · refine ⟨k + 1, by omega, by omega, ?_⟩
    rw [worstTo_yes hx hb]
    exact (by refine weak_to rfl rfl rfl ?_; ((repeat' (first | exact trivial | refine And.intro ?_ ?_)) <;> (first | rfl | (conv => rhs; whnf) <;> (first | rfl | (refine congrArg (D.int _) ?_; omega)))))
  · refine ⟨k + 1, by omega, by omega, ?_⟩
    rw [worstTo_no hx (by omega)]
    exact (by refine weak_to rfl rfl rfl ?_; ((repeat' (first | exact trivial | refine And.intro ?_ ?_)) <;> (first | rfl | (conv => rhs; whnf) <;> (first | rfl | (refine congrArg (D.int _) ?_; omega)))))
  · obtain rfl : k = a.length := by omega
    rfl
end Go.Eng

namespace Go.Eng
open Go Go.RowKit Go.Proofs
set_option maxRecDepth 100000
/-- The angle from one angle to another one, with its sign. -/
def sgnA (a b : Int) : Int := if 180000 < (b % 360000 - a % 360000) % 360000 then (b % 360000 - a % 360000) % 360000 - 360000 else (b % 360000 - a % 360000) % 360000
theorem sgnA_bound {a b : Int} (h : betA b a ≤ 5000) : -5000 ≤ sgnA a b ∧ sgnA a b ≤ 5000 := by
  unfold betA at h
  unfold sgnA
  split <;> omega
theorem c_impl_SignedBetween (a b : Int) (ha : i64B a) (hb : i64B b) : FnC Tryz.prog 84 G0 0 [] [.int .i64 a, .int .i64 b] (fun d os => d = .int .i64 (sgnA a b) ∧ os = []) := by
  refine fn_rule Tryz.func84 rfl (by decide +kernel) rfl (fun w0 F0 lent β0 => ?_)
  repeat' (first | refine sC ?_ | ((with_reducible refine isAwp ?_); first | (refine sS ?_; intro Q' hn he hr) | refine sA ?_) | (refine sH ?_; clear hn he hr Q') | refine sO ?_ | ((conv => whnf); first | refine sK ?_ | (refine sB ?_; repeat' (first | refine sb0 ?_ | (refine sb2 ?_ ?_ <;> intro hb <;> try exact cls))) | ((with_reducible refine isCall ?_); first | (refine call_pure (c_impl_NormalAngle _ ha) rfl rfl ?_) | (refine call_pure (c_impl_NormalAngle _ hb) rfl rfl ?_) | (refine call_pure (c_impl_NormalAngle _ (by unfold i64B; omega)) rfl rfl ?_)) | ((with_reducible refine isCallQ ?_); first | (refine callQ_pure (c_impl_NormalAngle _ ha) rfl rfl ?_) | (refine callQ_pure (c_impl_NormalAngle _ hb) rfl rfl ?_) | (refine callQ_pure (c_impl_NormalAngle _ (by unfold i64B; omega)) rfl rfl ?_)) | refine sP ?_ | (refine sE ?_; intro x hx) | (refine sF ?_; intro i y hi hy) | (refine sI ?_; intro i hi) | (refine sL ?_; intro hlen) | (refine sQ ?_; intro c hc hcm; try simp only [lnM, lnA, lnC, lnN] at hc) | (refine sX ?_; intro i1 i2 hi1 hi2 hj1 hj2; try simp only [cutL, lnM, lnA, lnC, lnN, lnT, lnD, lnR] at hi1 hi2 hj2) | refine sD ?_ | (refine ret_pick [] rfl rfl rfl ⟨?_, rfl⟩; conv => lhs; whnf) | (refine ret_pick [0] rfl rfl rfl ⟨rfl, ?_⟩) | (refine sH ?_; clear hn he hr Q')))
  all_goals (refine congrArg (D.int _) ?_; unfold sgnA; split <;> omega)
theorem c_impl_DivRound (a b : Int) (ha : -1000000 ≤ a ∧ a ≤ 1000000) (hb0 : 0 < b ∧ b ≤ 1000000) : FnC Tryz.prog 129 G0 0 [] [.int .i64 a, .int .i64 b] (fun d os => d = .int .i64 (rnd a b) ∧ os = []) := by
  have hv : inB a (-1000000000000000) 1000000000000000 = true := by simp [inB]; omega
  have hv2 : inB b (-1000000000000000) 1000000000000000 = true := by simp [inB]; omega
  refine fn_rule Tryz.func129 rfl (by decide +kernel) rfl (fun w0 F0 lent β0 => ?_)
  repeat' (first | refine sC ?_ | ((with_reducible refine isAwp ?_); first | (refine sS ?_; intro Q' hn he hr) | refine sA ?_) | (refine sH ?_; clear hn he hr Q') | refine sO ?_ | ((conv => whnf); first | refine sK ?_ | (refine sB ?_; repeat' (first | refine sb0 ?_ | (refine sb2 ?_ ?_ <;> intro hb <;> try exact cls))) | ((with_reducible refine isCall ?_); first | (refine call_pure (c_within _ _ _) rfl rfl ?_) | (refine call_pure (c_impl_nearest _ _ (by omega) (by omega)) rfl rfl ?_)) | ((with_reducible refine isCallQ ?_); first | (refine callQ_pure (c_within _ _ _) rfl rfl ?_) | (refine callQ_pure (c_impl_nearest _ _ (by omega) (by omega)) rfl rfl ?_)) | refine sP ?_ | (refine sE ?_; intro x hx) | (refine sF ?_; intro i y hi hy) | (refine sI ?_; intro i hi) | (refine sL ?_; intro hlen) | (refine sQ ?_; intro c hc hcm; try simp only [lnM, lnA, lnC, lnN] at hc) | (refine sX ?_; intro i1 i2 hi1 hi2 hj1 hj2; try simp only [cutL, lnM, lnA, lnC, lnN, lnT, lnD, lnR] at hi1 hi2 hj2) | refine sD ?_ | (refine ret_pick [] rfl rfl rfl ⟨?_, rfl⟩; conv => lhs; whnf) | (refine ret_pick [0] rfl rfl rfl ⟨rfl, ?_⟩) | (refine sH ?_; clear hn he hr Q')))
  all_goals first | rfl | (simp_all [inB] <;> omega)
/-- The turn and the lift that marks ask for, in sum. -/
def turnS (a : List TMark) : Int := match a with
  | [] => 0
  | m :: r => sgnA m.fFound m.fAzimuth + turnS r
def liftS (a : List TMark) : Int := match a with
  | [] => 0
  | m :: r => (m.fAltitude - m.fHeight) + liftS r
theorem turnS_take {a : List TMark} {k : Nat} {m : TMark} (h : a[k]? = some m) : turnS (a.take (k + 1)) = turnS (a.take k) + sgnA m.fFound m.fAzimuth := by
  have happ : ∀ l r, turnS (l ++ r) = turnS l + turnS r := by
    intro l r
    induction l with
    | nil => simp [turnS]
    | cons x l ih => rw [List.cons_append, turnS, turnS, ih]; omega
  rw [List.take_add_one, h, happ]
  simp [turnS]
theorem liftS_take {a : List TMark} {k : Nat} {m : TMark} (h : a[k]? = some m) : liftS (a.take (k + 1)) = liftS (a.take k) + (m.fAltitude - m.fHeight) := by
  have happ : ∀ l r, liftS (l ++ r) = liftS l + liftS r := by
    intro l r
    induction l with
    | nil => simp [liftS]
    | cons x l ih => rw [List.cons_append, liftS, liftS, ih]; omega
  rw [List.take_add_one, h, happ]
  simp [liftS]
theorem validMk_fit {m : TMark} (h : validMk m = true) : (-5000 ≤ sgnA m.fFound m.fAzimuth ∧ sgnA m.fFound m.fAzimuth ≤ 5000) ∧ (-5000 ≤ m.fAltitude - m.fHeight ∧ m.fAltitude - m.fHeight ≤ 5000) := by
  simp only [validMk, Bool.and_eq_true, decide_eq_true_eq] at h
  refine ⟨sgnA_bound h.2.2.1, ?_⟩
  have h1 := h.2.2.2
  unfold absI at h1
  split at h1 <;> omega
theorem fit_bound {a : List TMark} (hok : ∀ (k : Nat) m, a[k]? = some m → validMk m = true) : (-(5000 * a.length) ≤ turnS a ∧ turnS a ≤ 5000 * a.length) ∧ (-(5000 * a.length) ≤ liftS a ∧ liftS a ≤ 5000 * a.length) := by
  induction a with
  | nil => simp [turnS, liftS]
  | cons m r ih =>
    have h1 := validMk_fit (hok 0 m rfl)
    have h2 := ih fun k x hx => hok (k + 1) x (by simpa using hx)
    rw [turnS, liftS, List.length_cons]
    omega
theorem fit_take {a : List TMark} (hok : ∀ (k : Nat) m, a[k]? = some m → validMk m = true) (k : Nat) : (-(5000 * a.length) ≤ turnS (a.take k) ∧ turnS (a.take k) ≤ 5000 * a.length) ∧ (-(5000 * a.length) ≤ liftS (a.take k) ∧ liftS (a.take k) ≤ 5000 * a.length) := by
  have h := fit_bound (a := a.take k) fun j m hm => by
    rw [List.getElem?_take] at hm
    split at hm
    · exact hok j m hm
    · cases hm
  have h2 : (a.take k).length ≤ a.length := by simp; omega
  omega
def turnM (a : List TMark) : Int := rnd (turnS a) a.length
def liftM (a : List TMark) : Int := rnd (liftS a) a.length
theorem fitM_bound {a : List TMark} (hok : ∀ (k : Nat) m, a[k]? = some m → validMk m = true) (hl : 1 ≤ a.length) : (-5000 ≤ turnM a ∧ turnM a ≤ 5000) ∧ (-5000 ≤ liftM a ∧ liftM a ≤ 5000) := by
  have h := fit_bound hok
  exact ⟨rnd_bound (by omega) (by omega) (by omega), rnd_bound (by omega) (by omega) (by omega)⟩
/-- A mark that is corrected. -/
def corrMk (t l : Int) (m : TMark) : TMark := { m with fFound := (m.fFound + t) % 360000, fHeight := max 0 (min 90000 (m.fHeight + l)) }
def badC (t l : Int) (m : TMark) : Bool := !validMk (corrMk t l m)
def corrOk (t l : Int) (a : List TMark) : Prop := ¬ firstAt (badC t l) a < a.length
theorem corrOk_all {t l : Int} {a : List TMark} (h : corrOk t l a) : ∀ (k : Nat) m, (a.map (corrMk t l))[k]? = some m → validMk m = true := by
  intro k m hm
  rw [List.getElem?_map] at hm
  cases hx : a[k]? with
  | none => rw [hx] at hm; cases hm
  | some x =>
    rw [hx] at hm
    have hk := (List.getElem?_eq_some_iff.1 hx).1
    have := (firstAt_spec (badC t l) a).1 k x (by unfold corrOk at h; omega) hx
    cases hm
    simpa [badC] using this
set_option maxHeartbeats 4000000 in
theorem c_impl_fitMarks (a : List TMark) (hok : ∀ (k : Nat) m, a[k]? = some m → validMk m = true) (hl : 1 ≤ a.length ∧ a.length ≤ 24) : FnC Tryz.prog 77 G0 0 [] [.sl 4 (a.map encMark)] (fun d os => d = .tup [.int .i64 (turnM a), .int .i64 (liftM a)] ∧ os = []) := by
  have hfb := fit_bound hok
  refine fn_rule Tryz.func77 rfl (by decide +kernel) rfl (fun w0 F0 lent β0 => ?_)
  repeat' (first | refine sC ?_ | ((with_reducible refine isAwp ?_); first | (refine sS ?_; intro Q' hn he hr) | refine sA ?_) | (refine sH ?_; clear hn he hr Q') | refine sO ?_ | ((conv => whnf); first | refine sK ?_ | (refine sB ?_; repeat' (first | refine sb0 ?_ | (refine sb2 ?_ ?_ <;> intro hb <;> try exact cls))) | refine sP ?_ | (refine sE ?_; intro x hx) | (refine sF ?_; intro i y hi hy) | (refine sI ?_; intro i hi) | (refine sL ?_; intro hlen) | (refine sQ ?_; intro c hc hcm; try simp only [lnM, lnA, lnC, lnN] at hc) | (refine sX ?_; intro i1 i2 hi1 hi2 hj1 hj2; try simp only [cutL, lnM, lnA, lnC, lnN, lnT, lnD, lnR] at hi1 hi2 hj2) | refine sD ?_ | (refine ret_pick [] rfl rfl rfl ⟨?_, rfl⟩; conv => lhs; whnf) | (refine ret_pick [0] rfl rfl rfl ⟨rfl, ?_⟩) | (refine sH ?_; clear hn he hr Q')))
  refine loop_env (fun k : Nat => [(0,.sl 4 (a.map encMark)),(4,.int .i64 (turnS (a.take k))),(5,.int .i64 (liftS (a.take k))),(9,.sl 4 (a.map encMark)),(10,.int .i64 a.length),(11,.int .i64 k)]) (fun _ => []) (fun k => k ≤ a.length) (fun k => a.length - k) 0 (by omega) (by refine weak_to rfl rfl rfl ?_; ((repeat' (first | exact trivial | refine And.intro ?_ ?_)) <;> (first | rfl | (conv => rhs; whnf) <;> (first | rfl | (refine congrArg (D.int _) ?_; omega))))) (fun k hk Q' hn he hr => ?_)
  have hsb := fit_take hok k
  by_cases hkl : k < a.length
  · skip
    repeat' (first | refine sC ?_ | ((with_reducible refine isAwp ?_); first | (refine sS ?_; intro Q' hn he hr) | refine sA ?_) | (refine sH ?_; clear hn he hr Q') | refine sO ?_ | ((conv => whnf); first | refine sK ?_ | (refine sB ?_; repeat' (first | refine sb0 ?_ | (refine sb2 ?_ ?_ <;> intro hb <;> try exact cls))) | (refine ArithS.in64 (by have h9 := validMk_fit (hok _ _ hx); omega) ?_) | ((with_reducible refine isCall ?_); first | (refine call_pure (c_impl_SignedBetween _ _ (validMk_bounds (hok _ _ hx)).2.1 (validMk_bounds (hok _ _ hx)).1.1) rfl rfl ?_)) | ((with_reducible refine isCallQ ?_); first | (refine callQ_pure (c_impl_SignedBetween _ _ (validMk_bounds (hok _ _ hx)).2.1 (validMk_bounds (hok _ _ hx)).1.1) rfl rfl ?_)) | refine sP ?_ | (refine sE ?_; intro x hx) | (refine sF ?_; intro i y hi hy) | (refine sI ?_; intro i hi) | (refine sL ?_; intro hlen) | (refine sQ ?_; intro c hc hcm; try simp only [lnM, lnA, lnC, lnN] at hc) | (refine sX ?_; intro i1 i2 hi1 hi2 hj1 hj2; try simp only [cutL, lnM, lnA, lnC, lnN, lnT, lnD, lnR] at hi1 hi2 hj2) | refine sD ?_ | (refine ret_pick [] rfl rfl rfl ⟨?_, rfl⟩; conv => lhs; whnf) | (refine ret_pick [0] rfl rfl rfl ⟨rfl, ?_⟩) | (refine sH ?_; clear hn he hr Q')))
    refine ⟨k + 1, by omega, by omega, ?_⟩
    rw [turnS_take hx, liftS_take hx]
    exact (by refine weak_to rfl rfl rfl ?_; ((repeat' (first | exact trivial | refine And.intro ?_ ?_)) <;> (first | rfl | (conv => rhs; whnf) <;> (first | rfl | (refine congrArg (D.int _) ?_; omega)))))
  · obtain rfl : k = a.length := by omega
    rw [List.take_length]
    repeat' (first | refine sC ?_ | ((with_reducible refine isAwp ?_); first | (refine sS ?_; intro Q' hn he hr) | refine sA ?_) | (refine sH ?_; clear hn he hr Q') | refine sO ?_ | ((conv => whnf); first | refine sK ?_ | (refine sB ?_; repeat' (first | refine sb0 ?_ | (refine sb2 ?_ ?_ <;> intro hb <;> try exact cls))) | ((with_reducible refine isCall ?_); first | (refine call_pure (c_impl_DivRound _ _ (by omega) (by omega)) rfl rfl ?_)) | ((with_reducible refine isCallQ ?_); first | (refine callQ_pure (c_impl_DivRound _ _ (by omega) (by omega)) rfl rfl ?_)) | refine sP ?_ | (refine sE ?_; intro x hx) | (refine sF ?_; intro i y hi hy) | (refine sI ?_; intro i hi) | (refine sL ?_; intro hlen) | (refine sQ ?_; intro c hc hcm; try simp only [lnM, lnA, lnC, lnN] at hc) | (refine sX ?_; intro i1 i2 hi1 hi2 hj1 hj2; try simp only [cutL, lnM, lnA, lnC, lnN, lnT, lnD, lnR] at hi1 hi2 hj2) | refine sD ?_ | (refine ret_pick [] rfl rfl rfl ⟨?_, rfl⟩; conv => lhs; whnf) | (refine ret_pick [0] rfl rfl rfl ⟨rfl, ?_⟩) | (refine sH ?_; clear hn he hr Q')))
    all_goals rfl
end Go.Eng

namespace Go.Eng
open Go Go.RowKit Go.Proofs
set_option maxRecDepth 100000
/-- The first k marks corrected. -/
def corrTo (t l : Int) (a : List TMark) (k : Nat) : List TMark := (a.take k).map (corrMk t l) ++ a.drop k
theorem corrTo_zero (t l : Int) (a : List TMark) : corrTo t l a 0 = a := by simp [corrTo]
theorem corrTo_all (t l : Int) (a : List TMark) : corrTo t l a a.length = a.map (corrMk t l) := by simp [corrTo]
theorem corrTo_len (t l : Int) (a : List TMark) (k : Nat) : (corrTo t l a k).length = a.length := by
  simp [corrTo]; omega
theorem corrTo_tl {t l : Int} {a : List TMark} {k : Nat} (hk : k < a.length) : ((a.take k).map (corrMk t l)).length = k := by
  rw [List.length_map, List.length_take]; omega
theorem corrTo_at {t l : Int} {a : List TMark} {k : Nat} (hk : k < a.length) : (corrTo t l a k)[k]? = a[k]? := by
  unfold corrTo
  rw [List.getElem?_append_right (by rw [corrTo_tl hk]; omega), List.getElem?_drop, corrTo_tl hk]
  congr 1
  omega
theorem corrTo_set {t l : Int} {a : List TMark} {k : Nat} {m : TMark} (h : a[k]? = some m) : (corrTo t l a k).set k (corrMk t l m) = corrTo t l a (k + 1) := by
  have hk := List.getElem?_eq_some_iff.1 h
  unfold corrTo
  rw [List.set_append_right _ _ (by rw [corrTo_tl hk.1]; omega), corrTo_tl hk.1, Nat.sub_self, List.drop_eq_getElem_cons hk.1, List.set_cons_zero, List.take_add_one, h, List.map_append]
  simp
theorem validMk_dom {m : TMark} (h : validMk m = true) : (0 ≤ m.fFound ∧ m.fFound ≤ 359999) ∧ (0 ≤ m.fHeight ∧ m.fHeight ≤ 90000) := by
  simp only [validMk, Bool.and_eq_true] at h
  exact domeB_bounds h.2.1
theorem corrOk_at {t l : Int} {a : List TMark} (h : corrOk t l a) {k : Nat} {m : TMark} (hm : a[k]? = some m) : validMk (corrMk t l m) = true :=
  corrOk_all h k _ (by rw [List.getElem?_map, hm]; rfl)
theorem set_mk {R : List TMark} {k : Nat} {a b c T : Int} (T' : Int) (hT : T = T') : (R.map encMark).set k [D.int .i64 a, D.int .i64 b, D.int .i64 c, D.int .i64 T] = (R.set k ⟨a, b, c, T'⟩).map encMark := by
  subst hT
  rw [List.map_set]
  rfl
theorem c_slices_CloneMk (a : List TMark) (hl : a.length ≤ 1048576) : FnC Tryz.prog 81 G0 0 [] [.sl 4 (a.map encMark)] (fun d os => d = .h 0 ∧ os = [.row 58 4 (a.map encMark)]) := by
  refine fn_rule Tryz.func81 rfl (by decide +kernel) rfl (fun w0 F0 lent β0 => ?_)
  repeat' (first | refine sC ?_ | ((with_reducible refine isAwp ?_); first | (refine sS ?_; intro Q' hn he hr) | refine sA ?_) | (refine sH ?_; clear hn he hr Q') | refine sO ?_ | ((conv => whnf); first | refine sK ?_ | (refine sB ?_; repeat' (first | refine sb0 ?_ | (refine sb2 ?_ ?_ <;> intro hb <;> try exact cls))) | (refine NilS.mk (fun hnil => ?_) ?_) | ((with_reducible refine isRet ?_); first | (refine ret_adopt 58 4 ?_; refine ret_pick [0] rfl rfl rfl ⟨rfl, ?_⟩)) | refine sP ?_ | (refine sE ?_; intro x hx) | (refine sF ?_; intro i y hi hy) | (refine sI ?_; intro i hi) | (refine sL ?_; intro hlen) | (refine sQ ?_; intro c hc hcm; try simp only [lnM, lnA, lnC, lnN] at hc) | (refine sX ?_; intro i1 i2 hi1 hi2 hj1 hj2; try simp only [cutL, lnM, lnA, lnC, lnN, lnT, lnD, lnR] at hi1 hi2 hj2) | refine sD ?_ | (refine ret_pick [] rfl rfl rfl ⟨?_, rfl⟩; conv => lhs; whnf) | (refine ret_pick [0] rfl rfl rfl ⟨rfl, ?_⟩) | (refine sH ?_; clear hn he hr Q')))
  · rw [hnil]; rfl
  · rfl
set_option maxHeartbeats 4000000 in
theorem c_impl_CorrectMarks_ok (a : List TMark) (t l : Int) (h : askMk a = 0) (ht : -5000 ≤ t ∧ t ≤ 5000) (hl : -5000 ≤ l ∧ l ≤ 5000) (hc : corrOk t l a) : FnC Tryz.prog 27 G0 0 [] [.sl 4 (a.map encMark), .int .i64 t, .int .i64 l] (fun d os => d = .tup [.h 0, .int .i64 0] ∧ os = [.row 58 4 ((a.map (corrMk t l)).map encMark)]) := by
  obtain ⟨hok, hlen⟩ := askMk_ok h
  have hv : inB t (-5000) 5000 = true := by simp [inB]; omega
  have hv2 : inB l (-5000) 5000 = true := by simp [inB]; omega
  refine fn_rule Tryz.func27 rfl (by decide +kernel) rfl (fun w0 F0 lent β0 => ?_)
  repeat' (first | refine sC ?_ | ((with_reducible refine isAwp ?_); first | (refine sS ?_; intro Q' hn he hr) | refine sA ?_) | (refine sH ?_; clear hn he hr Q') | refine sO ?_ | ((conv => whnf); first | refine sK ?_ | (refine sB ?_; repeat' (first | refine sb0 ?_ | (refine sb2 ?_ ?_ <;> intro hb <;> try exact cls))) | ((with_reducible refine isCall ?_); first | (refine call_pure (c_impl_checkMarks a) rfl rfl ?_) | (refine call_pure (c_within _ _ _) rfl rfl ?_) | (refine call_mk_look (c_slices_CloneMk a (by omega)) rfl (flat_one (FlatO.map fun _ => rfl)) (by first | exact (rfl : _ = 0) | exact (rfl : _ = 1) | exact (rfl : _ = 2) | exact (rfl : _ = 3) | exact (rfl : _ = 4) | exact (rfl : _ = 5) | exact (rfl : _ = 6) | exact (rfl : _ = 7) | exact (rfl : _ = 8) | exact (rfl : _ = 9) | exact (rfl : _ = 10) | exact (rfl : _ = 11) | exact (rfl : _ = 12) | exact (rfl : _ = 13) | exact (rfl : _ = 14) | exact (rfl : _ = 15) | exact (rfl : _ = 16) | exact (rfl : _ = 17) | exact (rfl : _ = 18) | exact (rfl : _ = 19) | exact (rfl : _ = 20) | exact (rfl : _ = 21) | exact (rfl : _ = 22) | exact (rfl : _ = 23) | exact (rfl : _ = 24) | exact (rfl : _ = 25) | exact (rfl : _ = 26) | exact (rfl : _ = 27) | exact (rfl : _ = 28) | exact (rfl : _ = 29) | exact (rfl : _ = 30) | exact (rfl : _ = 31) | exact (rfl : _ = 32) | exact (rfl : _ = 33) | exact (rfl : _ = 34) | exact (rfl : _ = 35) | exact (rfl : _ = 36) | exact (rfl : _ = 37) | exact (rfl : _ = 38) | exact (rfl : _ = 39)) ?_)) | ((with_reducible refine isCallQ ?_); first | (refine callQ_pure (c_impl_checkMarks a) rfl rfl ?_) | (refine callQ_pure (c_within _ _ _) rfl rfl ?_)) | refine sP ?_ | (refine sE ?_; intro x hx) | (refine sF ?_; intro i y hi hy) | (refine sI ?_; intro i hi) | (refine sL ?_; intro hlen) | (refine sQ ?_; intro c hc hcm; try simp only [lnM, lnA, lnC, lnN] at hc) | (refine sX ?_; intro i1 i2 hi1 hi2 hj1 hj2; try simp only [cutL, lnM, lnA, lnC, lnN, lnT, lnD, lnR] at hi1 hi2 hj2) | refine sD ?_ | (refine ret_pick [] rfl rfl rfl ⟨?_, rfl⟩; conv => lhs; whnf) | (refine ret_pick [0] rfl rfl rfl ⟨rfl, ?_⟩) | (refine sH ?_; clear hn he hr Q')))
  refine loop_env (fun k : Nat => [(1,.int .i64 t),(2,.int .i64 l),(9,.h 0),(27,.int .i64 a.length),(28,.int .i64 k)]) (fun k => [.row 58 4 ((corrTo t l a k).map encMark)]) (fun k => k ≤ a.length) (fun k => a.length - k) 0 (by omega) (by refine weak_to rfl rfl (by rw [corrTo_zero]; rfl) ?_; ((repeat' (first | exact trivial | refine And.intro ?_ ?_)) <;> (first | rfl | (conv => rhs; whnf) <;> (first | rfl | (refine congrArg (D.int _) ?_; omega))))) (fun k hk Q' hn he hr => ?_)
  have hcl := corrTo_len t l a k
  by_cases hkl : k < a.length
  · obtain ⟨m, hm⟩ : ∃ m, a[k]? = some m := ⟨_, List.getElem?_eq_getElem hkl⟩
    have hx1 : (corrTo t l a k)[k]? = some m := by rw [corrTo_at hkl, hm]
    have hdm := validMk_dom (hok k m hm)
    have hx2 : ((corrTo t l a k).set k { m with fFound := (m.fFound + t) % 360000 })[k]? = some { m with fFound := (m.fFound + t) % 360000 } := List.getElem?_set_self (by omega)
    repeat' (first | refine sC ?_ | ((with_reducible refine isAwp ?_); first | (refine sS ?_; intro Q' hn he hr) | refine sA ?_) | (refine sH ?_; clear hn he hr Q') | refine sO ?_ | ((conv => whnf); first | refine sK ?_ | (refine sB ?_; repeat' (first | refine sb0 ?_ | (refine sb2 ?_ ?_ <;> intro hb <;> try exact cls))) | (refine InS.nat (by simp only [List.length_map, hcl]; omega) ?_) | ((with_reducible refine isCall ?_); first | (refine call_pure (c_impl_NormalAngle _ (by unfold i64B; omega)) rfl rfl ?_)) | ((with_reducible refine isCallQ ?_); first | (refine callQ_pure (c_impl_NormalAngle _ (by unfold i64B; omega)) rfl rfl ?_)) | refine sP ?_ | (refine sE ?_; intro x hx) | (refine sF ?_; intro i y hi hy) | (refine sI ?_; intro i hi) | (refine sL ?_; intro hlen) | (refine sQ ?_; intro c hc hcm; try simp only [lnM, lnA, lnC, lnN] at hc) | (refine sX ?_; intro i1 i2 hi1 hi2 hj1 hj2; try simp only [cutL, lnM, lnA, lnC, lnN, lnT, lnD, lnR] at hi1 hi2 hj2) | refine sD ?_ | (refine ret_pick [] rfl rfl rfl ⟨?_, rfl⟩; conv => lhs; whnf) | (refine ret_pick [0] rfl rfl rfl ⟨rfl, ?_⟩) | (refine sH ?_; clear hn he hr Q')))
    rw [set_mk m.fHeight rfl]
    repeat' (first | refine sC ?_ | ((with_reducible refine isAwp ?_); first | (refine sS ?_; intro Q' hn he hr) | refine sA ?_) | (refine sH ?_; clear hn he hr Q') | refine sO ?_ | ((conv => whnf); first | refine sK ?_ | (refine sB ?_; repeat' (first | refine sb0 ?_ | (refine sb2 ?_ ?_ <;> intro hb <;> try exact cls))) | (refine InS.nat (by simp only [List.length_map, List.length_set, hcl]; omega) ?_) | (refine ArithS.in64 (by simp only []; omega) ?_) | refine sP ?_ | (refine sE ?_; intro x hx) | (refine sF ?_; intro i y hi hy) | (refine sI ?_; intro i hi) | (refine sL ?_; intro hlen) | (refine sQ ?_; intro c hc hcm; try simp only [lnM, lnA, lnC, lnN] at hc) | (refine sX ?_; intro i1 i2 hi1 hi2 hj1 hj2; try simp only [cutL, lnM, lnA, lnC, lnN, lnT, lnD, lnR] at hi1 hi2 hj2) | refine sD ?_ | (refine ret_pick [] rfl rfl rfl ⟨?_, rfl⟩; conv => lhs; whnf) | (refine ret_pick [0] rfl rfl rfl ⟨rfl, ?_⟩) | (refine sH ?_; clear hn he hr Q')))
    rw [set_mk (max 0 (min 90000 (m.fHeight + l))) (by simp only [cond_true, cond_false]; (repeat' split) <;> omega), List.set_set]
    rw [show (⟨m.fAzimuth, m.fAltitude, (m.fFound + t) % 360000, max 0 (min 90000 (m.fHeight + l))⟩ : TMark) = corrMk t l m from rfl, corrTo_set hm]
    have hx3 : (corrTo t l a (k + 1))[k]? = some (corrMk t l m) := by
      rw [← corrTo_set hm]
      exact List.getElem?_set_self (by omega)
    have hv3 : validMk (corrMk t l m) = true := corrOk_at hc hm
    repeat' (first | refine sC ?_ | ((with_reducible refine isAwp ?_); first | (refine sS ?_; intro Q' hn he hr) | refine sA ?_) | (refine sH ?_; clear hn he hr Q') | refine sO ?_ | ((conv => whnf); first | refine sK ?_ | (refine sB ?_; repeat' (first | refine sb0 ?_ | (refine sb2 ?_ ?_ <;> intro hb <;> try exact cls))) | ((with_reducible refine isCall ?_); first | (refine call_pure (c_impl_ValidMark _) rfl rfl ?_)) | ((with_reducible refine isCallQ ?_); first | (refine callQ_pure (c_impl_ValidMark _) rfl rfl ?_)) | refine sP ?_ | (refine sE ?_; intro x hx) | (refine sF ?_; intro i y hi hy) | (refine sI ?_; intro i hi) | (refine sL ?_; intro hlen) | (refine sQ ?_; intro c hc hcm; try simp only [lnM, lnA, lnC, lnN] at hc) | (refine sX ?_; intro i1 i2 hi1 hi2 hj1 hj2; try simp only [cutL, lnM, lnA, lnC, lnN, lnT, lnD, lnR] at hi1 hi2 hj2) | refine sD ?_ | (refine ret_pick [] rfl rfl rfl ⟨?_, rfl⟩; conv => lhs; whnf) | (refine ret_pick [0] rfl rfl rfl ⟨rfl, ?_⟩) | (refine sH ?_; clear hn he hr Q')))
    exact ⟨k + 1, by omega, by omega, (by refine weak_to rfl rfl rfl ?_; ((repeat' (first | exact trivial | refine And.intro ?_ ?_)) <;> (first | rfl | (conv => rhs; whnf) <;> (first | rfl | (refine congrArg (D.int _) ?_; omega)))))⟩
  · obtain rfl : k = a.length := by omega
    rw [corrTo_all]
    repeat' (first | refine sC ?_ | ((with_reducible refine isAwp ?_); first | (refine sS ?_; intro Q' hn he hr) | refine sA ?_) | (refine sH ?_; clear hn he hr Q') | refine sO ?_ | ((conv => whnf); first | refine sK ?_ | (refine sB ?_; repeat' (first | refine sb0 ?_ | (refine sb2 ?_ ?_ <;> intro hb <;> try exact cls))) | refine sP ?_ | (refine sE ?_; intro x hx) | (refine sF ?_; intro i y hi hy) | (refine sI ?_; intro i hi) | (refine sL ?_; intro hlen) | (refine sQ ?_; intro c hc hcm; try simp only [lnM, lnA, lnC, lnN] at hc) | (refine sX ?_; intro i1 i2 hi1 hi2 hj1 hj2; try simp only [cutL, lnM, lnA, lnC, lnN, lnT, lnD, lnR] at hi1 hi2 hj2) | refine sD ?_ | (refine ret_pick [] rfl rfl rfl ⟨?_, rfl⟩; conv => lhs; whnf) | (refine ret_pick [0] rfl rfl rfl ⟨rfl, ?_⟩) | (refine sH ?_; clear hn he hr Q')))
    rfl
set_option maxHeartbeats 4000000 in
theorem c_impl_CorrectMarks_bad (a : List TMark) (t l : Int) (h : askMk a = 0) (ht : -5000 ≤ t ∧ t ≤ 5000) (hl : -5000 ≤ l ∧ l ≤ 5000) (hc : ¬ corrOk t l a) : FnC Tryz.prog 27 G0 0 [] [.sl 4 (a.map encMark), .int .i64 t, .int .i64 l] (fun d os => d = .tup [.sl 4 [], .int .i64 6] ∧ os = []) := by
  obtain ⟨hok, hlen⟩ := askMk_ok h
  have hv : inB t (-5000) 5000 = true := by simp [inB]; omega
  have hv2 : inB l (-5000) 5000 = true := by simp [inB]; omega
  refine fn_rule Tryz.func27 rfl (by decide +kernel) rfl (fun w0 F0 lent β0 => ?_)
  repeat' (first | refine sC ?_ | ((with_reducible refine isAwp ?_); first | (refine sS ?_; intro Q' hn he hr) | refine sA ?_) | (refine sH ?_; clear hn he hr Q') | refine sO ?_ | ((conv => whnf); first | refine sK ?_ | (refine sB ?_; repeat' (first | refine sb0 ?_ | (refine sb2 ?_ ?_ <;> intro hb <;> try exact cls))) | ((with_reducible refine isCall ?_); first | (refine call_pure (c_impl_checkMarks a) rfl rfl ?_) | (refine call_pure (c_within _ _ _) rfl rfl ?_) | (refine call_mk_look (c_slices_CloneMk a (by omega)) rfl (flat_one (FlatO.map fun _ => rfl)) (by first | exact (rfl : _ = 0) | exact (rfl : _ = 1) | exact (rfl : _ = 2) | exact (rfl : _ = 3) | exact (rfl : _ = 4) | exact (rfl : _ = 5) | exact (rfl : _ = 6) | exact (rfl : _ = 7) | exact (rfl : _ = 8) | exact (rfl : _ = 9) | exact (rfl : _ = 10) | exact (rfl : _ = 11) | exact (rfl : _ = 12) | exact (rfl : _ = 13) | exact (rfl : _ = 14) | exact (rfl : _ = 15) | exact (rfl : _ = 16) | exact (rfl : _ = 17) | exact (rfl : _ = 18) | exact (rfl : _ = 19) | exact (rfl : _ = 20) | exact (rfl : _ = 21) | exact (rfl : _ = 22) | exact (rfl : _ = 23) | exact (rfl : _ = 24) | exact (rfl : _ = 25) | exact (rfl : _ = 26) | exact (rfl : _ = 27) | exact (rfl : _ = 28) | exact (rfl : _ = 29) | exact (rfl : _ = 30) | exact (rfl : _ = 31) | exact (rfl : _ = 32) | exact (rfl : _ = 33) | exact (rfl : _ = 34) | exact (rfl : _ = 35) | exact (rfl : _ = 36) | exact (rfl : _ = 37) | exact (rfl : _ = 38) | exact (rfl : _ = 39)) ?_)) | ((with_reducible refine isCallQ ?_); first | (refine callQ_pure (c_impl_checkMarks a) rfl rfl ?_) | (refine callQ_pure (c_within _ _ _) rfl rfl ?_)) | refine sP ?_ | (refine sE ?_; intro x hx) | (refine sF ?_; intro i y hi hy) | (refine sI ?_; intro i hi) | (refine sL ?_; intro hlen) | (refine sQ ?_; intro c hc hcm; try simp only [lnM, lnA, lnC, lnN] at hc) | (refine sX ?_; intro i1 i2 hi1 hi2 hj1 hj2; try simp only [cutL, lnM, lnA, lnC, lnN, lnT, lnD, lnR] at hi1 hi2 hj2) | refine sD ?_ | (refine ret_pick [] rfl rfl rfl ⟨?_, rfl⟩; conv => lhs; whnf) | (refine ret_pick [0] rfl rfl rfl ⟨rfl, ?_⟩) | (refine sH ?_; clear hn he hr Q')))
  refine loop_env (fun k : Nat => [(1,.int .i64 t),(2,.int .i64 l),(9,.h 0),(27,.int .i64 a.length),(28,.int .i64 k)]) (fun k => [.row 58 4 ((corrTo t l a k).map encMark)]) (fun k => k ≤ a.length ∧ noneTo (badC t l) a k) (fun k => a.length - k) 0 ⟨by omega, noneTo_zero⟩ (by refine weak_to rfl rfl (by rw [corrTo_zero]; rfl) ?_; ((repeat' (first | exact trivial | refine And.intro ?_ ?_)) <;> (first | rfl | (conv => rhs; whnf) <;> (first | rfl | (refine congrArg (D.int _) ?_; omega))))) (fun k hk0 Q' hn he hr => ?_)
  obtain ⟨hk, hno⟩ := hk0
  have hcl := corrTo_len t l a k
  by_cases hkl : k < a.length
  · obtain ⟨m, hm⟩ : ∃ m, a[k]? = some m := ⟨_, List.getElem?_eq_getElem hkl⟩
    have hx1 : (corrTo t l a k)[k]? = some m := by rw [corrTo_at hkl, hm]
    have hdm := validMk_dom (hok k m hm)
    have hx2 : ((corrTo t l a k).set k { m with fFound := (m.fFound + t) % 360000 })[k]? = some { m with fFound := (m.fFound + t) % 360000 } := List.getElem?_set_self (by omega)
    repeat' (first | refine sC ?_ | ((with_reducible refine isAwp ?_); first | (refine sS ?_; intro Q' hn he hr) | refine sA ?_) | (refine sH ?_; clear hn he hr Q') | refine sO ?_ | ((conv => whnf); first | refine sK ?_ | (refine sB ?_; repeat' (first | refine sb0 ?_ | (refine sb2 ?_ ?_ <;> intro hb <;> try exact cls))) | (refine InS.nat (by simp only [List.length_map, hcl]; omega) ?_) | ((with_reducible refine isCall ?_); first | (refine call_pure (c_impl_NormalAngle _ (by unfold i64B; omega)) rfl rfl ?_)) | ((with_reducible refine isCallQ ?_); first | (refine callQ_pure (c_impl_NormalAngle _ (by unfold i64B; omega)) rfl rfl ?_)) | refine sP ?_ | (refine sE ?_; intro x hx) | (refine sF ?_; intro i y hi hy) | (refine sI ?_; intro i hi) | (refine sL ?_; intro hlen) | (refine sQ ?_; intro c hc hcm; try simp only [lnM, lnA, lnC, lnN] at hc) | (refine sX ?_; intro i1 i2 hi1 hi2 hj1 hj2; try simp only [cutL, lnM, lnA, lnC, lnN, lnT, lnD, lnR] at hi1 hi2 hj2) | refine sD ?_ | (refine ret_pick [] rfl rfl rfl ⟨?_, rfl⟩; conv => lhs; whnf) | (refine ret_pick [0] rfl rfl rfl ⟨rfl, ?_⟩) | (refine sH ?_; clear hn he hr Q')))
    rw [set_mk m.fHeight rfl]
    repeat' (first | refine sC ?_ | ((with_reducible refine isAwp ?_); first | (refine sS ?_; intro Q' hn he hr) | refine sA ?_) | (refine sH ?_; clear hn he hr Q') | refine sO ?_ | ((conv => whnf); first | refine sK ?_ | (refine sB ?_; repeat' (first | refine sb0 ?_ | (refine sb2 ?_ ?_ <;> intro hb <;> try exact cls))) | (refine InS.nat (by simp only [List.length_map, List.length_set, hcl]; omega) ?_) | (refine ArithS.in64 (by simp only []; omega) ?_) | refine sP ?_ | (refine sE ?_; intro x hx) | (refine sF ?_; intro i y hi hy) | (refine sI ?_; intro i hi) | (refine sL ?_; intro hlen) | (refine sQ ?_; intro c hc hcm; try simp only [lnM, lnA, lnC, lnN] at hc) | (refine sX ?_; intro i1 i2 hi1 hi2 hj1 hj2; try simp only [cutL, lnM, lnA, lnC, lnN, lnT, lnD, lnR] at hi1 hi2 hj2) | refine sD ?_ | (refine ret_pick [] rfl rfl rfl ⟨?_, rfl⟩; conv => lhs; whnf) | (refine ret_pick [0] rfl rfl rfl ⟨rfl, ?_⟩) | (refine sH ?_; clear hn he hr Q')))
    rw [set_mk (max 0 (min 90000 (m.fHeight + l))) (by simp only [cond_true, cond_false]; (repeat' split) <;> omega), List.set_set]
    rw [show (⟨m.fAzimuth, m.fAltitude, (m.fFound + t) % 360000, max 0 (min 90000 (m.fHeight + l))⟩ : TMark) = corrMk t l m from rfl, corrTo_set hm]
    have hx3 : (corrTo t l a (k + 1))[k]? = some (corrMk t l m) := by
      rw [← corrTo_set hm]
      exact List.getElem?_set_self (by omega)
    repeat' (first | refine sC ?_ | ((with_reducible refine isAwp ?_); first | (refine sS ?_; intro Q' hn he hr) | refine sA ?_) | (refine sH ?_; clear hn he hr Q') | refine sO ?_ | ((conv => whnf); first | refine sK ?_ | (refine sB ?_; repeat' (first | refine sb0 ?_ | (refine sb2 ?_ ?_ <;> intro hb <;> try exact cls))) | ((with_reducible refine isCall ?_); first | (refine call_pure (c_impl_ValidMark _) rfl rfl ?_)) | ((with_reducible refine isCallQ ?_); first | (refine callQ_pure (c_impl_ValidMark _) rfl rfl ?_)) | ((with_reducible refine isRet ?_); first | (refine ret_nil 4 ?_; refine ret_pick [] rfl rfl rfl ⟨?_, rfl⟩)) | refine sP ?_ | (refine sE ?_; intro x hx) | (refine sF ?_; intro i y hi hy) | (refine sI ?_; intro i hi) | (refine sL ?_; intro hlen) | (refine sQ ?_; intro c hc hcm; try simp only [lnM, lnA, lnC, lnN] at hc) | (refine sX ?_; intro i1 i2 hi1 hi2 hj1 hj2; try simp only [cutL, lnM, lnA, lnC, lnN, lnT, lnD, lnR] at hi1 hi2 hj2) | refine sD ?_ | (refine ret_pick [] rfl rfl rfl ⟨?_, rfl⟩; conv => lhs; whnf) | (refine ret_pick [0] rfl rfl rfl ⟨rfl, ?_⟩) | (refine sH ?_; clear hn he hr Q')))
    · rfl
    · exact ⟨k + 1, ⟨by omega, noneTo_succ hno hm (by unfold badC; simp [hb])⟩, by omega, (by refine weak_to rfl rfl rfl ?_; ((repeat' (first | exact trivial | refine And.intro ?_ ?_)) <;> (first | rfl | (conv => rhs; whnf) <;> (first | rfl | (refine congrArg (D.int _) ?_; omega)))))⟩
  · exfalso
    apply hc
    unfold corrOk
    rw [firstAt_none hno (by omega)]
    omega
theorem corr_append {t l : Int} {a : List TMark} {k : Nat} {m : TMark} (hm : a[k]? = some m) : ((a.take (k + 1)).map (corrMk t l)).map encMark = ((a.take k).map (corrMk t l)).map encMark ++ [encMark (corrMk t l m)] := by
  rw [List.take_add_one, hm]
  simp
end Go.Eng

namespace Go.Eng
open Go Go.RowKit Go.Proofs
set_option maxRecDepth 100000
/-- A session and a code. -/
def sesD (d t l e c : Int) : D := .tup [.agg [.int .i64 d, .int .i64 t, .int .i64 l, .int .i64 e], .int .i64 c]
/-- The marks corrected as they ask for. -/
def fixedM (a : List TMark) : List TMark := a.map (corrMk (turnM a) (liftM a))
theorem fixedM_len (a : List TMark) : (fixedM a).length = a.length := by unfold fixedM; rw [List.length_map]
theorem c_impl_SessionOf_bad (a : List TMark) (day : Int) (h : askMk a ≠ 0) : FnC Tryz.prog 31 GS 0 [] [.sl 4 (a.map encMark), .int .i64 day] (fun d os => d = sesD 0 0 0 0 (askMk a) ∧ os = []) := by
  refine fn_rule Tryz.func31 rfl (by decide +kernel) rfl (fun w0 F0 lent β0 => ?_)
  repeat' (first | refine sC ?_ | ((with_reducible refine isAwp ?_); first | (refine sS ?_; intro Q' hn he hr) | refine sA ?_) | (refine sH ?_; clear hn he hr Q') | refine sO ?_ | ((conv => whnf); first | refine sK ?_ | (refine sB ?_; repeat' (first | refine sb0 ?_ | (refine sb2 ?_ ?_ <;> intro hb <;> try exact cls))) | ((with_reducible refine isCall ?_); first | (refine call_pure (FnC.anyG (c_impl_checkMarks a)) rfl rfl ?_)) | ((with_reducible refine isCallQ ?_); first | (refine callQ_pure (FnC.anyG (c_impl_checkMarks a)) rfl rfl ?_)) | refine sP ?_ | (refine sE ?_; intro x hx) | (refine sF ?_; intro i y hi hy) | (refine sI ?_; intro i hi) | (refine sL ?_; intro hlen) | (refine sQ ?_; intro c hc hcm; try simp only [lnM, lnA, lnC, lnN] at hc) | (refine sX ?_; intro i1 i2 hi1 hi2 hj1 hj2; try simp only [cutL, lnM, lnA, lnC, lnN, lnT, lnD, lnR] at hi1 hi2 hj2) | refine sD ?_ | (refine ret_pick [] rfl rfl rfl ⟨?_, rfl⟩; conv => lhs; whnf) | (refine ret_pick [0] rfl rfl rfl ⟨rfl, ?_⟩) | (refine sH ?_; clear hn he hr Q')))
  all_goals rfl
theorem c_impl_SessionOf_day (a : List TMark) (day : Int) (h : askMk a = 0) (hv : inB day 0 100000 = false) : FnC Tryz.prog 31 GS 0 [] [.sl 4 (a.map encMark), .int .i64 day] (fun d os => d = sesD 0 0 0 0 2 ∧ os = []) := by
  refine fn_rule Tryz.func31 rfl (by decide +kernel) rfl (fun w0 F0 lent β0 => ?_)
  repeat' (first | refine sC ?_ | ((with_reducible refine isAwp ?_); first | (refine sS ?_; intro Q' hn he hr) | refine sA ?_) | (refine sH ?_; clear hn he hr Q') | refine sO ?_ | ((conv => whnf); first | refine sK ?_ | (refine sB ?_; repeat' (first | refine sb0 ?_ | (refine sb2 ?_ ?_ <;> intro hb <;> try exact cls))) | ((with_reducible refine isCall ?_); first | (refine call_pure (FnC.anyG (c_impl_checkMarks a)) rfl rfl ?_) | (refine call_pure (FnC.anyG (c_within _ _ _)) rfl rfl ?_)) | ((with_reducible refine isCallQ ?_); first | (refine callQ_pure (FnC.anyG (c_impl_checkMarks a)) rfl rfl ?_) | (refine callQ_pure (FnC.anyG (c_within _ _ _)) rfl rfl ?_)) | refine sP ?_ | (refine sE ?_; intro x hx) | (refine sF ?_; intro i y hi hy) | (refine sI ?_; intro i hi) | (refine sL ?_; intro hlen) | (refine sQ ?_; intro c hc hcm; try simp only [lnM, lnA, lnC, lnN] at hc) | (refine sX ?_; intro i1 i2 hi1 hi2 hj1 hj2; try simp only [cutL, lnM, lnA, lnC, lnN, lnT, lnD, lnR] at hi1 hi2 hj2) | refine sD ?_ | (refine ret_pick [] rfl rfl rfl ⟨?_, rfl⟩; conv => lhs; whnf) | (refine ret_pick [0] rfl rfl rfl ⟨rfl, ?_⟩) | (refine sH ?_; clear hn he hr Q')))
  all_goals rfl
theorem c_impl_SessionOf_state (a : List TMark) (day : Int) (h : askMk a = 0) (hv : inB day 0 100000 = true) (hc : ¬ corrOk (turnM a) (liftM a) a) : FnC Tryz.prog 31 GS 0 [] [.sl 4 (a.map encMark), .int .i64 day] (fun d os => d = sesD 0 0 0 0 6 ∧ os = []) := by
  obtain ⟨hok, hlen⟩ := askMk_ok h
  obtain ⟨ht, hl⟩ := fitM_bound hok hlen.1
  refine fn_rule Tryz.func31 rfl (by decide +kernel) rfl (fun w0 F0 lent β0 => ?_)
  repeat' (first | refine sC ?_ | ((with_reducible refine isAwp ?_); first | (refine sS ?_; intro Q' hn he hr) | refine sA ?_) | (refine sH ?_; clear hn he hr Q') | refine sO ?_ | ((conv => whnf); first | refine sK ?_ | (refine sB ?_; repeat' (first | refine sb0 ?_ | (refine sb2 ?_ ?_ <;> intro hb <;> try exact cls))) | ((with_reducible refine isCall ?_); first | (refine call_pure (FnC.anyG (c_impl_checkMarks a)) rfl rfl ?_) | (refine call_pure (FnC.anyG (c_within _ _ _)) rfl rfl ?_) | (refine call_pure (FnC.anyG (c_impl_fitMarks a hok hlen)) rfl rfl ?_) | (refine call_pure (FnC.anyG (c_impl_CorrectMarks_bad a _ _ h ht hl hc)) rfl rfl ?_)) | ((with_reducible refine isCallQ ?_); first | (refine callQ_pure (FnC.anyG (c_impl_checkMarks a)) rfl rfl ?_) | (refine callQ_pure (FnC.anyG (c_within _ _ _)) rfl rfl ?_) | (refine callQ_pure (FnC.anyG (c_impl_fitMarks a hok hlen)) rfl rfl ?_) | (refine callQ_pure (FnC.anyG (c_impl_CorrectMarks_bad a _ _ h ht hl hc)) rfl rfl ?_)) | refine sP ?_ | (refine sE ?_; intro x hx) | (refine sF ?_; intro i y hi hy) | (refine sI ?_; intro i hi) | (refine sL ?_; intro hlen) | (refine sQ ?_; intro c hc hcm; try simp only [lnM, lnA, lnC, lnN] at hc) | (refine sX ?_; intro i1 i2 hi1 hi2 hj1 hj2; try simp only [cutL, lnM, lnA, lnC, lnN, lnT, lnD, lnR] at hi1 hi2 hj2) | refine sD ?_ | (refine ret_pick [] rfl rfl rfl ⟨?_, rfl⟩; conv => lhs; whnf) | (refine ret_pick [0] rfl rfl rfl ⟨rfl, ?_⟩) | (refine sH ?_; clear hn he hr Q')))
  all_goals rfl
theorem c_impl_SessionOf_ok (a : List TMark) (day : Int) (h : askMk a = 0) (hv : inB day 0 100000 = true) (hc : corrOk (turnM a) (liftM a) a) : FnC Tryz.prog 31 GS 0 [] [.sl 4 (a.map encMark), .int .i64 day] (fun d os => d = sesD day (turnM a) (liftM a) (meanMk (fixedM a)) 0 ∧ os = []) := by
  obtain ⟨hok, hlen⟩ := askMk_ok h
  obtain ⟨ht, hl⟩ := fitM_bound hok hlen.1
  refine fn_rule Tryz.func31 rfl (by decide +kernel) rfl (fun w0 F0 lent β0 => ?_)
  repeat' (first | refine sC ?_ | ((with_reducible refine isAwp ?_); first | (refine sS ?_; intro Q' hn he hr) | refine sA ?_) | (refine sH ?_; clear hn he hr Q') | refine sO ?_ | ((conv => whnf); first | refine sK ?_ | (refine sB ?_; repeat' (first | refine sb0 ?_ | (refine sb2 ?_ ?_ <;> intro hb <;> try exact cls))) | ((with_reducible refine isCall ?_); first | (refine call_pure (FnC.anyG (c_impl_checkMarks a)) rfl rfl ?_) | (refine call_pure (FnC.anyG (c_within _ _ _)) rfl rfl ?_) | (refine call_pure (FnC.anyG (c_impl_fitMarks a hok hlen)) rfl rfl ?_) | (refine call_mk_look (c_impl_CorrectMarks_ok a _ _ h ht hl hc).anyG rfl (flat_one (FlatO.map fun _ => rfl)) (by first | exact (rfl : _ = 0) | exact (rfl : _ = 1) | exact (rfl : _ = 2) | exact (rfl : _ = 3) | exact (rfl : _ = 4) | exact (rfl : _ = 5) | exact (rfl : _ = 6) | exact (rfl : _ = 7) | exact (rfl : _ = 8) | exact (rfl : _ = 9) | exact (rfl : _ = 10) | exact (rfl : _ = 11) | exact (rfl : _ = 12) | exact (rfl : _ = 13) | exact (rfl : _ = 14) | exact (rfl : _ = 15) | exact (rfl : _ = 16) | exact (rfl : _ = 17) | exact (rfl : _ = 18) | exact (rfl : _ = 19) | exact (rfl : _ = 20) | exact (rfl : _ = 21) | exact (rfl : _ = 22) | exact (rfl : _ = 23) | exact (rfl : _ = 24) | exact (rfl : _ = 25) | exact (rfl : _ = 26) | exact (rfl : _ = 27) | exact (rfl : _ = 28) | exact (rfl : _ = 29) | exact (rfl : _ = 30) | exact (rfl : _ = 31) | exact (rfl : _ = 32) | exact (rfl : _ = 33) | exact (rfl : _ = 34) | exact (rfl : _ = 35) | exact (rfl : _ = 36) | exact (rfl : _ = 37) | exact (rfl : _ = 38) | exact (rfl : _ = 39)) ?_) | (refine call_look (c_impl_meanError (fixedM a) (corrOk_all hc) (by rw [fixedM_len]; exact hlen)) rfl ?_)) | ((with_reducible refine isCallQ ?_); first | (refine callQ_pure (FnC.anyG (c_impl_checkMarks a)) rfl rfl ?_) | (refine callQ_pure (FnC.anyG (c_within _ _ _)) rfl rfl ?_) | (refine callQ_pure (FnC.anyG (c_impl_fitMarks a hok hlen)) rfl rfl ?_) | (refine callQ_look (c_impl_meanError (fixedM a) (corrOk_all hc) (by rw [fixedM_len]; exact hlen)) rfl ?_)) | refine sP ?_ | (refine sE ?_; intro x hx) | (refine sF ?_; intro i y hi hy) | (refine sI ?_; intro i hi) | (refine sL ?_; intro hlen) | (refine sQ ?_; intro c hc hcm; try simp only [lnM, lnA, lnC, lnN] at hc) | (refine sX ?_; intro i1 i2 hi1 hi2 hj1 hj2; try simp only [cutL, lnM, lnA, lnC, lnN, lnT, lnD, lnR] at hi1 hi2 hj2) | refine sD ?_ | (refine ret_pick [] rfl rfl rfl ⟨?_, rfl⟩; conv => lhs; whnf) | (refine ret_pick [0] rfl rfl rfl ⟨rfl, ?_⟩) | (refine sH ?_; clear hn he hr Q')))
  all_goals rfl
end Go.Eng
