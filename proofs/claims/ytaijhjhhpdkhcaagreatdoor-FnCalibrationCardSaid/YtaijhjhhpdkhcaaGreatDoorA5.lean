/-
  Lengths, and the angle of a direction: the contracts of the program's functions and of the reference's.
  No conditions.
-/
import Derived.Test.YtaijhjhhpdkhcaaGreatDoorED
import Derived.Test.YtaijhjhhpdkhcaaGreatDoorA4
set_option linter.unusedVariables false
set_option linter.unusedSimpArgs false
set_option maxHeartbeats 4000000
namespace Go.Eng
open Go Go.RowKit Go.Proofs
set_option maxRecDepth 100000
def sqV (v : TVector) : Nat := (v.fX * v.fX + v.fY * v.fY + v.fZ * v.fZ).toNat
noncomputable def lenV (v : TVector) : Int := rootN (sqV v)
theorem sq_pos (x : Int) : 0 ≤ x * x := by
  rcases Int.lt_or_le x 0 with h | h
  · have := Int.mul_nonneg (show 0 ≤ -x by omega) (show 0 ≤ -x by omega)
    rwa [Int.neg_mul_neg] at this
  · exact Int.mul_nonneg h h
theorem sqV_eq {v : TVector} (h : vecB 2000000 v) : v.fX * v.fX + v.fY * v.fY + v.fZ * v.fZ = (sqV v : Int) ∧ sqV v ≤ 12000000000000 := by
  obtain ⟨hx, hy, hz⟩ := h
  have h1 := mul_bound hx hx (by omega)
  have h2 := mul_bound hy hy (by omega)
  have h3 := mul_bound hz hz (by omega)
  have g1 := sq_pos v.fX
  have g2 := sq_pos v.fY
  have g3 := sq_pos v.fZ
  unfold sqV
  omega
theorem lenV_bound {v : TVector} (h : vecB 2000000 v) : 0 ≤ lenV v ∧ lenV v ≤ 3500000 := by
  have h1 := (sqV_eq h).2
  have h2 := (rootN_spec (sqV v)).1
  unfold lenV
  refine ⟨by omega, ?_⟩
  rcases Nat.lt_or_ge 3500000 (rootN (sqV v)) with h3 | h3
  · have := Nat.mul_le_mul h3 h3
    omega
  · omega
theorem c_impl_lengthOf (v : TVector) (h : vecB 2000000 v) : FnC Tryz.prog 179 G0 0 [] [.agg (encVector v)] (fun d os => d = .int .i64 (lenV v) ∧ os = []) := by
  obtain ⟨hs, hsb⟩ := sqV_eq h
  obtain ⟨hx, hy, hz⟩ := h
  have h1 := mul_bound hx hx (by omega)
  have h2 := mul_bound hy hy (by omega)
  have h3 := mul_bound hz hz (by omega)
  refine fn_rule Tryz.func179 rfl (by decide +kernel) rfl (fun w0 F0 lent β0 => ?_)
  repeat' (first | refine sC ?_ | ((with_reducible refine isAwp ?_); first | (refine sS ?_; intro Q' hn he hr) | refine sA ?_) | (refine sH ?_; clear hn he hr Q') | refine sO ?_ | ((conv => whnf); first | refine sK ?_ | (refine sB ?_; repeat' (first | refine sb0 ?_ | (refine sb2 ?_ ?_ <;> intro hb <;> try exact cls))) | (refine ArithS.to (sqV v : Int) hs (wrap64 (by omega)) ?_) | ((with_reducible refine isCall ?_); first | (refine call_pure (c_impl_RootOf _ (by omega)) rfl rfl ?_)) | ((with_reducible refine isCallQ ?_); first | (refine callQ_pure (c_impl_RootOf _ (by omega)) rfl rfl ?_)) | refine sP ?_ | (refine sE ?_; intro x hx) | (refine sF ?_; intro i y hi hy) | (refine sI ?_; intro i hi) | (refine sL ?_; intro hlen) | (refine sQ ?_; intro c hc hcm; try simp only [lnM, lnA, lnC, lnN] at hc) | (refine sX ?_; intro i1 i2 hi1 hi2 hj1 hj2; try simp only [cutL, lnM, lnA, lnC, lnN, lnT, lnD, lnR] at hi1 hi2 hj2) | refine sD ?_ | (refine ret_pick [] rfl rfl rfl ⟨?_, rfl⟩; conv => lhs; whnf) | (refine ret_pick [0] rfl rfl rfl ⟨rfl, ?_⟩) | (refine sH ?_; clear hn he hr Q')))
  all_goals rfl
/-- The least number from low on that passes, if all behind it pass. -/
def bsr (T : Nat → Bool) (low high : Nat) : Nat := if _ : low < high then (if T ((low + high) / 2) = true then bsr T low ((low + high) / 2) else bsr T ((low + high) / 2 + 1) high) else low
termination_by high - low
decreasing_by all_goals omega
theorem bsr_end {T : Nat → Bool} {low high : Nat} (h : ¬ low < high) : bsr T low high = low := by rw [bsr, dif_neg h]
theorem bsr_yes {T : Nat → Bool} {low high : Nat} (h : low < high) (ht : T ((low + high) / 2) = true) : bsr T low high = bsr T low ((low + high) / 2) := by rw [bsr, dif_pos h, if_pos ht]
theorem bsr_no {T : Nat → Bool} {low high : Nat} (h : low < high) (ht : ¬ T ((low + high) / 2) = true) : bsr T low high = bsr T ((low + high) / 2 + 1) high := by rw [bsr, dif_pos h, if_neg ht]
theorem bsr_le {T : Nat → Bool} : ∀ {low high : Nat}, low ≤ high → bsr T low high ≤ high := by
  intro low high
  induction hn : high - low using Nat.strongRecOn generalizing low high with
  | _ n ih =>
    intro h
    by_cases h1 : low < high
    · by_cases ht : T ((low + high) / 2) = true
      · rw [bsr_yes h1 ht]
        exact Nat.le_trans (ih _ (by omega) rfl (by omega)) (by omega)
      · rw [bsr_no h1 ht]
        exact ih _ (by omega) rfl (by omega)
    · rw [bsr_end h1]; exact h
def arcT (u v : Int) (n : Nat) : Bool := decide (cosA n * u ≤ sinA n * v)
def arcLow (y x : Int) : Nat := bsr (arcT (min (absI x) (absI y)) (max (absI x) (absI y))) 0 45000
def arcB (y x : Int) : Int := if absI x < absI y then 90000 - (arcLow y x : Int) else arcLow y x
/-- The angle of a direction. -/
def arcA (y x : Int) : Int := if 0 ≤ x ∧ 0 ≤ y then arcB y x else if 0 ≤ y then 180000 - arcB y x else if x < 0 then 180000 + arcB y x else (-arcB y x) % 360000
end Go.Eng
