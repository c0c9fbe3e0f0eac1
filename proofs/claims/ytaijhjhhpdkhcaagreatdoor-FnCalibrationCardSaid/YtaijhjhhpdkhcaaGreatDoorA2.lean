/-
  Sines: the contracts of the program's functions and of the reference's.
  No conditions.
-/
import Derived.Test.YtaijhjhhpdkhcaaGreatDoorED
import Derived.Test.YtaijhjhhpdkhcaaGreatDoorA1
set_option linter.unusedVariables false
set_option linter.unusedSimpArgs false
set_option maxHeartbeats 4000000
namespace Go.Eng
open Go Go.RowKit Go.Proofs
set_option maxRecDepth 100000
def GS : Nat → Option (List D) := G1 1 (sineT.map (.int .i64))
theorem c_impl_blend (x0 y0 x1 y1 x : Int) (h : x0 ≤ x ∧ x < x1 ∧ x1 = x0 + 1000) (h0 : 0 ≤ x0 ∧ x0 ≤ 1000000) (hy : 0 ≤ y0 ∧ y0 ≤ y1 ∧ y1 ≤ 1000000) : FnC Tryz.prog 234 G0 0 [] [.int .i64 x0, .int .i64 y0, .int .i64 x1, .int .i64 y1, .int .i64 x] (fun d os => d = .int .i64 (y0 + rnd ((y1 - y0) * (x - x0)) 1000) ∧ os = []) := by
  have hm := mul_bound (x := y1 - y0) (y := x - x0) (m := 1000000) (n := 1000) (by omega) (by omega) (by omega)
  have hr := rnd_bound (a := (y1 - y0) * (x - x0)) (b := 1000) (m := 1000000) (by omega) (by omega) (by omega)
  have h10 : x1 - x0 = 1000 := by omega
  have hN := c_impl_nearest ((y1 - y0) * (x - x0)) 1000 (by omega) (by omega)
  rw [← h10] at hN
  rw [← h10] at hr
  refine fn_rule Tryz.func234 rfl (by decide +kernel) rfl (fun w0 F0 lent β0 => ?_)
  repeat' (first | refine sC ?_ | ((with_reducible refine isAwp ?_); first | (refine sS ?_; intro Q' hn he hr) | refine sA ?_) | (refine sH ?_; clear hn he hr Q') | refine sO ?_ | ((conv => whnf); first | refine sK ?_ | (refine sB ?_; repeat' (first | refine sb0 ?_ | (refine sb2 ?_ ?_ <;> intro hb <;> try exact cls))) | ((with_reducible refine isCall ?_); first | (refine call_pure (hN) rfl rfl ?_)) | ((with_reducible refine isCallQ ?_); first | (refine callQ_pure (hN) rfl rfl ?_)) | refine sP ?_ | (refine sE ?_; intro x hx) | (refine sF ?_; intro i y hi hy) | (refine sI ?_; intro i hi) | (refine sL ?_; intro hlen) | (refine sQ ?_; intro c hc hcm; try simp only [lnM, lnA, lnC, lnN] at hc) | (refine sX ?_; intro i1 i2 hi1 hi2 hj1 hj2; try simp only [cutL, lnM, lnA, lnC, lnN, lnT, lnD, lnR] at hi1 hi2 hj2) | refine sD ?_ | (refine ret_pick [] rfl rfl rfl ⟨?_, rfl⟩; conv => lhs; whnf) | (refine ret_pick [0] rfl rfl rfl ⟨rfl, ?_⟩) | (refine sH ?_; clear hn he hr Q')))
  · rw [show x - x0 = 0 by omega, Int.mul_zero, rnd_zero 1000 (by omega), Int.add_zero]
  · rw [h10]
set_option maxHeartbeats 4000000 in
theorem c_impl_SineOf_low (a : Int) (ha : i64B a) (hlo : a % 360000 < 180000) : FnC Tryz.prog 183 GS 0 [] [.int .i64 a] (fun d os => d = .int .i64 (sinQ (foldA (a % 360000))) ∧ os = []) := by
  have hN := c_impl_NormalAngle a ha
  have hn0 : 0 ≤ a % 360000 := by omega
  generalize hn : a % 360000 = n at hN hlo hn0 ⊢
  unfold i64B at ha
  have hc : n < 90000 ∨ n = 90000 ∨ 90000 < n := by omega
  rcases hc with hc | rfl | hc
  · rw [show foldA n = n by unfold foldA; rw [if_neg (by omega)]]
    have hq : n.tdiv 1000 = n / 1000 := Int.tdiv_eq_ediv_of_nonneg (by omega)
    have hs : 0 ≤ sineT.getD (n / 1000).toNat 0 ∧ sineT.getD (n / 1000).toNat 0 ≤ sineT.getD (n / 1000 + 1).toNat 0 ∧ sineT.getD (n / 1000 + 1).toNat 0 ≤ 1000000 := by
      have := sineT_at (k := (n / 1000).toNat) (by omega)
      rw [show (n / 1000 + 1).toNat = (n / 1000).toNat + 1 by omega]
      exact this
    refine fn_rule Tryz.func183 rfl (by decide +kernel) rfl (fun w0 F0 lent β0 => ?_)
    repeat' (first | refine sC ?_ | ((with_reducible refine isAwp ?_); first | (refine sS ?_; intro Q' hn he hr) | refine sA ?_) | (refine sH ?_; clear hn he hr Q') | refine sO ?_ | ((conv => whnf); first | refine sK ?_ | (refine sB ?_; repeat' (first | refine sb0 ?_ | (refine sb2 ?_ ?_ <;> intro hb <;> try exact cls))) | (refine AskS.mk ⟨by omega, ?_⟩) | (refine ArithS.to (n / 1000) hq (wrap64 (by omega)) ?_) | (refine ElemS.tab rfl (by omega) ?_) | ((with_reducible refine isCall ?_); first | (refine call_pure (FnC.anyG (hN)) rfl rfl ?_) | (refine call_pure (FnC.anyG (c_impl_blend _ _ _ _ _ (by omega) (by omega) hs)) rfl rfl ?_)) | ((with_reducible refine isCallQ ?_); first | (refine callQ_pure (FnC.anyG (hN)) rfl rfl ?_) | (refine callQ_pure (FnC.anyG (c_impl_blend _ _ _ _ _ (by omega) (by omega) hs)) rfl rfl ?_)) | refine sP ?_ | (refine sE ?_; intro x hx) | (refine sF ?_; intro i y hi hy) | (refine sI ?_; intro i hi) | (refine sL ?_; intro hlen) | (refine sQ ?_; intro c hc hcm; try simp only [lnM, lnA, lnC, lnN] at hc) | (refine sX ?_; intro i1 i2 hi1 hi2 hj1 hj2; try simp only [cutL, lnM, lnA, lnC, lnN, lnT, lnD, lnR] at hi1 hi2 hj2) | refine sD ?_ | (refine ret_pick [] rfl rfl rfl ⟨?_, rfl⟩; conv => lhs; whnf) | (refine ret_pick [0] rfl rfl rfl ⟨rfl, ?_⟩) | (refine sH ?_; clear hn he hr Q')))
    all_goals
      refine congrArg (D.int _) ?_
      rw [show n - n / 1000 * 1000 = n % 1000 by omega, show (n / 1000 + 1).toNat = (n / 1000).toNat + 1 by omega]
      rfl
  · have hq : (90000 : Int).tdiv 1000 = 90 := by decide
    refine fn_rule Tryz.func183 rfl (by decide +kernel) rfl (fun w0 F0 lent β0 => ?_)
    repeat' (first | refine sC ?_ | ((with_reducible refine isAwp ?_); first | (refine sS ?_; intro Q' hn he hr) | refine sA ?_) | (refine sH ?_; clear hn he hr Q') | refine sO ?_ | ((conv => whnf); first | refine sK ?_ | (refine sB ?_; repeat' (first | refine sb0 ?_ | (refine sb2 ?_ ?_ <;> intro hb <;> try exact cls))) | (refine AskS.mk ⟨by omega, ?_⟩) | (refine ArithS.to 90 hq (wrap64 (by omega)) ?_) | (refine ElemS.tab rfl (by omega) ?_) | ((with_reducible refine isCall ?_); first | (refine call_pure (FnC.anyG (hN)) rfl rfl ?_)) | ((with_reducible refine isCallQ ?_); first | (refine callQ_pure (FnC.anyG (hN)) rfl rfl ?_)) | refine sP ?_ | (refine sE ?_; intro x hx) | (refine sF ?_; intro i y hi hy) | (refine sI ?_; intro i hi) | (refine sL ?_; intro hlen) | (refine sQ ?_; intro c hc hcm; try simp only [lnM, lnA, lnC, lnN] at hc) | (refine sX ?_; intro i1 i2 hi1 hi2 hj1 hj2; try simp only [cutL, lnM, lnA, lnC, lnN, lnT, lnD, lnR] at hi1 hi2 hj2) | refine sD ?_ | (refine ret_pick [] rfl rfl rfl ⟨?_, rfl⟩; conv => lhs; whnf) | (refine ret_pick [0] rfl rfl rfl ⟨rfl, ?_⟩) | (refine sH ?_; clear hn he hr Q')))
    all_goals (refine congrArg (D.int _) ?_; decide +kernel)
  · rw [show foldA n = 180000 - n by unfold foldA; rw [if_pos (by omega)]]
    generalize hm : 180000 - n = m
    have hq : m.tdiv 1000 = m / 1000 := Int.tdiv_eq_ediv_of_nonneg (by omega)
    have hs : 0 ≤ sineT.getD (m / 1000).toNat 0 ∧ sineT.getD (m / 1000).toNat 0 ≤ sineT.getD (m / 1000 + 1).toNat 0 ∧ sineT.getD (m / 1000 + 1).toNat 0 ≤ 1000000 := by
      have := sineT_at (k := (m / 1000).toNat) (by omega)
      rw [show (m / 1000 + 1).toNat = (m / 1000).toNat + 1 by omega]
      exact this
    refine fn_rule Tryz.func183 rfl (by decide +kernel) rfl (fun w0 F0 lent β0 => ?_)
    repeat' (first | refine sC ?_ | ((with_reducible refine isAwp ?_); first | (refine sS ?_; intro Q' hn he hr) | refine sA ?_) | (refine sH ?_; clear hn he hr Q') | refine sO ?_ | ((conv => whnf); first | refine sK ?_ | (refine sB ?_; repeat' (first | refine sb0 ?_ | (refine sb2 ?_ ?_ <;> intro hb <;> try exact cls))) | (refine ArithS.to m hm (wrap64 (by omega)) ?_) | (refine AskS.mk ⟨by omega, ?_⟩) | (refine ArithS.to (m / 1000) hq (wrap64 (by omega)) ?_) | (refine ElemS.tab rfl (by omega) ?_) | ((with_reducible refine isCall ?_); first | (refine call_pure (FnC.anyG (hN)) rfl rfl ?_) | (refine call_pure (FnC.anyG (c_impl_blend _ _ _ _ _ (by omega) (by omega) hs)) rfl rfl ?_)) | ((with_reducible refine isCallQ ?_); first | (refine callQ_pure (FnC.anyG (hN)) rfl rfl ?_) | (refine callQ_pure (FnC.anyG (c_impl_blend _ _ _ _ _ (by omega) (by omega) hs)) rfl rfl ?_)) | refine sP ?_ | (refine sE ?_; intro x hx) | (refine sF ?_; intro i y hi hy) | (refine sI ?_; intro i hi) | (refine sL ?_; intro hlen) | (refine sQ ?_; intro c hc hcm; try simp only [lnM, lnA, lnC, lnN] at hc) | (refine sX ?_; intro i1 i2 hi1 hi2 hj1 hj2; try simp only [cutL, lnM, lnA, lnC, lnN, lnT, lnD, lnR] at hi1 hi2 hj2) | refine sD ?_ | (refine ret_pick [] rfl rfl rfl ⟨?_, rfl⟩; conv => lhs; whnf) | (refine ret_pick [0] rfl rfl rfl ⟨rfl, ?_⟩) | (refine sH ?_; clear hn he hr Q')))
    all_goals
      refine congrArg (D.int _) ?_
      rw [show m - m / 1000 * 1000 = m % 1000 by omega, show (m / 1000 + 1).toNat = (m / 1000).toNat + 1 by omega]
      rfl
set_option maxHeartbeats 4000000 in
theorem c_impl_SineOf (a : Int) (ha : i64B a) : FnC Tryz.prog 183 GS 0 [] [.int .i64 a] (fun d os => d = .int .i64 (sinA a) ∧ os = []) := by
  by_cases hlo : a % 360000 < 180000
  · have h := c_impl_SineOf_low a ha hlo
    unfold sinA
    rw [if_pos hlo]
    exact h
  · have hN := c_impl_NormalAngle a ha
    have hL := c_impl_SineOf_low (a % 360000 - 180000) (by unfold i64B; omega) (by omega)
    rw [show (a % 360000 - 180000) % 360000 = a % 360000 - 180000 by omega] at hL
    have hb2 : 0 ≤ sinQ (foldA (a % 360000 - 180000)) ∧ sinQ (foldA (a % 360000 - 180000)) ≤ 1000000 := by
      unfold foldA
      split
      · exact sinQ_bound (by omega) (by omega)
      · exact sinQ_bound (by omega) (by omega)
    unfold sinA
    rw [if_neg hlo]
    have hn0 : a % 360000 < 360000 := by omega
    generalize hn : a % 360000 = n at hN hL hb2 hlo hn0 ⊢
    generalize hS : sinQ (foldA (n - 180000)) = S at hL hb2 ⊢
    refine fn_rule Tryz.func183 rfl (by decide +kernel) rfl (fun w0 F0 lent β0 => ?_)
    repeat' (first | refine sC ?_ | ((with_reducible refine isAwp ?_); first | (refine sS ?_; intro Q' hn he hr) | refine sA ?_) | (refine sH ?_; clear hn he hr Q') | refine sO ?_ | ((conv => whnf); first | refine sK ?_ | (refine sB ?_; repeat' (first | refine sb0 ?_ | (refine sb2 ?_ ?_ <;> intro hb <;> try exact cls))) | ((with_reducible refine isCall ?_); first | (refine call_pure (FnC.anyG (hN)) rfl rfl ?_) | (refine call_pure hL rfl rfl ?_)) | ((with_reducible refine isCallQ ?_); first | (refine callQ_pure (FnC.anyG (hN)) rfl rfl ?_) | (refine callQ_pure hL rfl rfl ?_)) | refine sP ?_ | (refine sE ?_; intro x hx) | (refine sF ?_; intro i y hi hy) | (refine sI ?_; intro i hi) | (refine sL ?_; intro hlen) | (refine sQ ?_; intro c hc hcm; try simp only [lnM, lnA, lnC, lnN] at hc) | (refine sX ?_; intro i1 i2 hi1 hi2 hj1 hj2; try simp only [cutL, lnM, lnA, lnC, lnN, lnT, lnD, lnR] at hi1 hi2 hj2) | refine sD ?_ | (refine ret_pick [] rfl rfl rfl ⟨?_, rfl⟩; conv => lhs; whnf) | (refine ret_pick [0] rfl rfl rfl ⟨rfl, ?_⟩) | (refine sH ?_; clear hn he hr Q')))
    all_goals (refine congrArg (D.int _) ?_; omega)
theorem sineT_two {k : Nat} (h : k < 90) : ∃ t0 t1, sineT[k]? = some t0 ∧ sineT[k + 1]? = some t1 ∧ (0 ≤ t0 ∧ t0 ≤ t1 ∧ t1 ≤ 1000000) ∧ sineAt k = t0 ∧ sineAt (k + 1) = t1 := by
  have e : ∀ j, j < 91 → sineT[j]? = some (sineAt j) := fun j hj => by
    have hj : j < sineT.length := hj
    unfold sineAt
    rw [List.getD_eq_getElem?_getD, List.getElem?_eq_getElem hj]; rfl
  exact ⟨_, _, e k (by omega), e (k + 1) (by omega), sineT_at h, rfl, rfl⟩
end Go.Eng
