/-
  The angle of a direction: the contracts of the program's function and of the reference's.
  No conditions.
-/
import Derived.Test.YtaijhjhhpdkhcaaGreatDoorED
import Derived.Test.YtaijhjhhpdkhcaaGreatDoorA5
set_option linter.unusedVariables false
set_option linter.unusedSimpArgs false
set_option maxHeartbeats 4000000
namespace Go.Eng
open Go Go.RowKit Go.Proofs
set_option maxRecDepth 100000
theorem ArithS.quo {a b m : Int} {K : Int → Prop} (h : a.tdiv b = m) (hm : -9223372036854775808 ≤ m ∧ m ≤ 9223372036854775807) (hK : K m) : ArithS .i64 (a.tdiv b) K := ArithS.to m h (wrap64 hm) hK
set_option maxHeartbeats 4000000 in
theorem c_impl_ArcTangent (y x : Int) (hy : -1000000000000 ≤ y ∧ y ≤ 1000000000000) (hx1 : -1000000000000 ≤ x ∧ x ≤ 1000000000000) (h0 : ¬ (x = 0 ∧ y = 0)) : FnC Tryz.prog 178 GS 0 [] [.int .i64 y, .int .i64 x] (fun d os => d = .tup [.int .i64 (arcA y x), .int .i64 0] ∧ os = []) := by
  have hax := absI_bound hx1
  have hay := absI_bound hy
  have hv : inB y (-1000000000000) 1000000000000 = true := by simp [inB]; omega
  have hv2 : inB x (-1000000000000) 1000000000000 = true := by simp [inB]; omega
  by_cases hx0 : x = 0
  · have hy0 : y ≠ 0 := fun h => h0 ⟨hx0, h⟩
    refine fn_rule Tryz.func178 rfl (by decide +kernel) rfl (fun w0 F0 lent β0 => ?_)
    repeat' (first | refine sC ?_ | ((with_reducible refine isAwp ?_); first | (refine sS ?_; intro Q' hn he hr) | refine sA ?_) | (refine sH ?_; clear hn he hr Q') | refine sO ?_ | ((conv => whnf); first | refine sK ?_ | (refine sB ?_; repeat' (first | refine sb0 ?_ | (refine sb2 ?_ ?_ <;> intro hb <;> try exact cls))) | ((with_reducible refine isCall ?_); first | (refine call_pure (FnC.anyG (c_within _ _ _)) rfl rfl ?_) | (refine call_pure (FnC.anyG (c_absOf _ (by omega))) rfl rfl ?_)) | ((with_reducible refine isCallQ ?_); first | (refine callQ_pure (FnC.anyG (c_within _ _ _)) rfl rfl ?_) | (refine callQ_pure (FnC.anyG (c_absOf _ (by omega))) rfl rfl ?_)) | refine sP ?_ | (refine sE ?_; intro x hx) | (refine sF ?_; intro i y hi hy) | (refine sI ?_; intro i hi) | (refine sL ?_; intro hlen) | (refine sQ ?_; intro c hc hcm; try simp only [lnM, lnA, lnC, lnN] at hc) | (refine sX ?_; intro i1 i2 hi1 hi2 hj1 hj2; try simp only [cutL, lnM, lnA, lnC, lnN, lnT, lnD, lnR] at hi1 hi2 hj2) | refine sD ?_ | (refine ret_pick [] rfl rfl rfl ⟨?_, rfl⟩; conv => lhs; whnf) | (refine ret_pick [0] rfl rfl rfl ⟨rfl, ?_⟩) | (refine sH ?_; clear hn he hr Q')))
    refine loop_env (fun p : Nat × Nat => [(0,.int .i64 y),(1,.int .i64 x),(6,.int .i64 (absI x)),(7,.int .i64 (absI y)),(8,.int .i64 (min (absI x) (absI y))),(9,.int .i64 (max (absI x) (absI y))),(10,.int .i64 p.1),(11,.int .i64 p.2)]) (fun _ => []) (fun p => p.1 ≤ p.2 ∧ p.2 ≤ 45000 ∧ bsr (arcT (min (absI x) (absI y)) (max (absI x) (absI y))) p.1 p.2 = arcLow y x) (fun p => p.2 - p.1) (0, 45000) ⟨by simp, by simp, by simp only [arcLow]⟩ (by refine weak_to rfl rfl rfl ?_; refine ⟨rfl, rfl, rfl, rfl, ?_, ?_, rfl, rfl, trivial⟩ <;> ((conv => rhs; whnf); refine congrArg (D.int _) ?_; simp only [cond_false, cond_true]; split <;> omega)) (fun p hk Q' hn he hr => ?_)
    obtain ⟨low, high⟩ := p
    obtain ⟨h1, h2, h3⟩ := hk
    simp only at h1 h2 h3 ⊢
    generalize hu : min (absI x) (absI y) = u at h3 ⊢
    generalize hvv : max (absI x) (absI y) = v at h3 ⊢
    obtain ⟨mid, hmid⟩ : ∃ mid : Nat, mid = (low + high) / 2 := ⟨_, rfl⟩
    have hq : ((low : Int) + high).tdiv 2 = (mid : Int) := by rw [Int.tdiv_eq_ediv_of_nonneg (by omega)]; omega
    have hm1 := mul_bound (x := sinA mid) (y := v) (m := 1000000) (n := 1000000000000) (sinA_bound _) (by omega) (by omega)
    have hm2 := mul_bound (x := cosA mid) (y := u) (m := 1000000) (n := 1000000000000) (cosA_bound _) (by omega) (by omega)
    repeat' (first | refine sC ?_ | ((with_reducible refine isAwp ?_); first | (refine sS ?_; intro Q' hn he hr) | refine sA ?_) | (refine sH ?_; clear hn he hr Q') | refine sO ?_ | ((conv => whnf); first | refine sK ?_ | (refine sB ?_; repeat' (first | refine sb0 ?_ | (refine sb2 ?_ ?_ <;> intro hb <;> try exact cls))) | (refine AskS.mk ⟨by omega, ?_⟩) | (with_reducible refine ArithS.quo hq (by omega) ?_) | ((with_reducible refine isCall ?_); first | (refine call_pure (c_impl_SineOf _ (by unfold i64B; omega)) rfl rfl ?_) | (refine call_pure (c_impl_CosineOf _ (by unfold i64B; omega)) rfl rfl ?_) | (refine call_pure (FnC.anyG (c_impl_NormalAngle _ (by unfold i64B; omega))) rfl rfl ?_)) | ((with_reducible refine isCallQ ?_); first | (refine callQ_pure (FnC.anyG (c_impl_NormalAngle _ (by unfold i64B; omega))) rfl rfl ?_)) | refine sP ?_ | (refine sE ?_; intro x hx) | (refine sF ?_; intro i y hi hy) | (refine sI ?_; intro i hi) | (refine sL ?_; intro hlen) | (refine sQ ?_; intro c hc hcm; try simp only [lnM, lnA, lnC, lnN] at hc) | (refine sX ?_; intro i1 i2 hi1 hi2 hj1 hj2; try simp only [cutL, lnM, lnA, lnC, lnN, lnT, lnD, lnR] at hi1 hi2 hj2) | refine sD ?_ | (refine ret_pick [] rfl rfl rfl ⟨?_, rfl⟩; conv => lhs; whnf) | (refine ret_pick [0] rfl rfl rfl ⟨rfl, ?_⟩) | (refine sH ?_; clear hn he hr Q')))
    · have hT : arcT u v mid = true := decide_eq_true hb
      rw [bsr_yes (by omega) (by rw [← hmid]; exact hT), ← hmid] at h3
      subst hu hvv
      exact ⟨(low, mid), ⟨by simp; omega, by simp; omega, h3⟩, by simp; omega, (by refine weak_to rfl rfl rfl ?_; ((repeat' (first | exact trivial | refine And.intro ?_ ?_)) <;> (first | rfl | (conv => rhs; whnf) <;> (first | rfl | (refine congrArg (D.int _) ?_; omega)))))⟩
    · have hT : ¬ arcT u v mid = true := by unfold arcT; simp; omega
      rw [bsr_no (by omega) (by rw [← hmid]; exact hT), ← hmid] at h3
      subst hu hvv
      exact ⟨(mid + 1, high), ⟨by simp; omega, by simp; omega, h3⟩, by simp; omega, (by refine weak_to rfl rfl rfl ?_; ((repeat' (first | exact trivial | refine And.intro ?_ ?_)) <;> (first | rfl | (conv => rhs; whnf) <;> (first | rfl | (refine congrArg (D.int _) ?_; omega)))))⟩
    all_goals
      rw [bsr_end (by omega)] at h3
      refine congrArg (fun n => D.tup [D.int .i64 n, D.int .i64 0]) ?_
      unfold arcA arcB
      rw [← h3]
      (repeat' split) <;> omega
  · skip
    refine fn_rule Tryz.func178 rfl (by decide +kernel) rfl (fun w0 F0 lent β0 => ?_)
    repeat' (first | refine sC ?_ | ((with_reducible refine isAwp ?_); first | (refine sS ?_; intro Q' hn he hr) | refine sA ?_) | (refine sH ?_; clear hn he hr Q') | refine sO ?_ | ((conv => whnf); first | refine sK ?_ | (refine sB ?_; repeat' (first | refine sb0 ?_ | (refine sb2 ?_ ?_ <;> intro hb <;> try exact cls))) | ((with_reducible refine isCall ?_); first | (refine call_pure (FnC.anyG (c_within _ _ _)) rfl rfl ?_) | (refine call_pure (FnC.anyG (c_absOf _ (by omega))) rfl rfl ?_)) | ((with_reducible refine isCallQ ?_); first | (refine callQ_pure (FnC.anyG (c_within _ _ _)) rfl rfl ?_) | (refine callQ_pure (FnC.anyG (c_absOf _ (by omega))) rfl rfl ?_)) | refine sP ?_ | (refine sE ?_; intro x hx) | (refine sF ?_; intro i y hi hy) | (refine sI ?_; intro i hi) | (refine sL ?_; intro hlen) | (refine sQ ?_; intro c hc hcm; try simp only [lnM, lnA, lnC, lnN] at hc) | (refine sX ?_; intro i1 i2 hi1 hi2 hj1 hj2; try simp only [cutL, lnM, lnA, lnC, lnN, lnT, lnD, lnR] at hi1 hi2 hj2) | refine sD ?_ | (refine ret_pick [] rfl rfl rfl ⟨?_, rfl⟩; conv => lhs; whnf) | (refine ret_pick [0] rfl rfl rfl ⟨rfl, ?_⟩) | (refine sH ?_; clear hn he hr Q')))
    refine loop_env (fun p : Nat × Nat => [(0,.int .i64 y),(1,.int .i64 x),(6,.int .i64 (absI x)),(7,.int .i64 (absI y)),(8,.int .i64 (min (absI x) (absI y))),(9,.int .i64 (max (absI x) (absI y))),(10,.int .i64 p.1),(11,.int .i64 p.2)]) (fun _ => []) (fun p => p.1 ≤ p.2 ∧ p.2 ≤ 45000 ∧ bsr (arcT (min (absI x) (absI y)) (max (absI x) (absI y))) p.1 p.2 = arcLow y x) (fun p => p.2 - p.1) (0, 45000) ⟨by simp, by simp, by simp only [arcLow]⟩ (by refine weak_to rfl rfl rfl ?_; refine ⟨rfl, rfl, rfl, rfl, ?_, ?_, rfl, rfl, trivial⟩ <;> ((conv => rhs; whnf); refine congrArg (D.int _) ?_; simp only [cond_false, cond_true]; split <;> omega)) (fun p hk Q' hn he hr => ?_)
    obtain ⟨low, high⟩ := p
    obtain ⟨h1, h2, h3⟩ := hk
    simp only at h1 h2 h3 ⊢
    generalize hu : min (absI x) (absI y) = u at h3 ⊢
    generalize hvv : max (absI x) (absI y) = v at h3 ⊢
    obtain ⟨mid, hmid⟩ : ∃ mid : Nat, mid = (low + high) / 2 := ⟨_, rfl⟩
    have hq : ((low : Int) + high).tdiv 2 = (mid : Int) := by rw [Int.tdiv_eq_ediv_of_nonneg (by omega)]; omega
    have hm1 := mul_bound (x := sinA mid) (y := v) (m := 1000000) (n := 1000000000000) (sinA_bound _) (by omega) (by omega)
    have hm2 := mul_bound (x := cosA mid) (y := u) (m := 1000000) (n := 1000000000000) (cosA_bound _) (by omega) (by omega)
    repeat' (first | refine sC ?_ | ((with_reducible refine isAwp ?_); first | (refine sS ?_; intro Q' hn he hr) | refine sA ?_) | (refine sH ?_; clear hn he hr Q') | refine sO ?_ | ((conv => whnf); first | refine sK ?_ | (refine sB ?_; repeat' (first | refine sb0 ?_ | (refine sb2 ?_ ?_ <;> intro hb <;> try exact cls))) | (refine AskS.mk ⟨by omega, ?_⟩) | (with_reducible refine ArithS.quo hq (by omega) ?_) | ((with_reducible refine isCall ?_); first | (refine call_pure (c_impl_SineOf _ (by unfold i64B; omega)) rfl rfl ?_) | (refine call_pure (c_impl_CosineOf _ (by unfold i64B; omega)) rfl rfl ?_) | (refine call_pure (FnC.anyG (c_impl_NormalAngle _ (by unfold i64B; omega))) rfl rfl ?_)) | ((with_reducible refine isCallQ ?_); first | (refine callQ_pure (FnC.anyG (c_impl_NormalAngle _ (by unfold i64B; omega))) rfl rfl ?_)) | refine sP ?_ | (refine sE ?_; intro x hx) | (refine sF ?_; intro i y hi hy) | (refine sI ?_; intro i hi) | (refine sL ?_; intro hlen) | (refine sQ ?_; intro c hc hcm; try simp only [lnM, lnA, lnC, lnN] at hc) | (refine sX ?_; intro i1 i2 hi1 hi2 hj1 hj2; try simp only [cutL, lnM, lnA, lnC, lnN, lnT, lnD, lnR] at hi1 hi2 hj2) | refine sD ?_ | (refine ret_pick [] rfl rfl rfl ⟨?_, rfl⟩; conv => lhs; whnf) | (refine ret_pick [0] rfl rfl rfl ⟨rfl, ?_⟩) | (refine sH ?_; clear hn he hr Q')))
    · have hT : arcT u v mid = true := decide_eq_true hb
      rw [bsr_yes (by omega) (by rw [← hmid]; exact hT), ← hmid] at h3
      subst hu hvv
      exact ⟨(low, mid), ⟨by simp; omega, by simp; omega, h3⟩, by simp; omega, (by refine weak_to rfl rfl rfl ?_; ((repeat' (first | exact trivial | refine And.intro ?_ ?_)) <;> (first | rfl | (conv => rhs; whnf) <;> (first | rfl | (refine congrArg (D.int _) ?_; omega)))))⟩
    · have hT : ¬ arcT u v mid = true := by unfold arcT; simp; omega
      rw [bsr_no (by omega) (by rw [← hmid]; exact hT), ← hmid] at h3
      subst hu hvv
      exact ⟨(mid + 1, high), ⟨by simp; omega, by simp; omega, h3⟩, by simp; omega, (by refine weak_to rfl rfl rfl ?_; ((repeat' (first | exact trivial | refine And.intro ?_ ?_)) <;> (first | rfl | (conv => rhs; whnf) <;> (first | rfl | (refine congrArg (D.int _) ?_; omega)))))⟩
    all_goals
      rw [bsr_end (by omega)] at h3
      refine congrArg (fun n => D.tup [D.int .i64 n, D.int .i64 0]) ?_
      unfold arcA arcB
      rw [← h3]
      (repeat' split) <;> omega
end Go.Eng
