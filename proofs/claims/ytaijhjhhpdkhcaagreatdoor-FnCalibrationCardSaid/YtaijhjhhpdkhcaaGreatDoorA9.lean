/-
  Marks: valid ones and their errors, by the program and by the reference.
  No conditions.
-/
import Derived.Test.YtaijhjhhpdkhcaaGreatDoorED
import Derived.Test.YtaijhjhhpdkhcaaGreatDoorA8
set_option linter.unusedVariables false
set_option linter.unusedSimpArgs false
set_option maxHeartbeats 4000000
namespace Go.Eng
open Go Go.RowKit Go.Proofs
set_option maxRecDepth 100000
def domeB (az alt : Int) : Bool := inB az 0 359999 && inB alt 0 90000
theorem domeB_bounds {az alt : Int} (h : domeB az alt = true) : (0 ≤ az ∧ az ≤ 359999) ∧ (0 ≤ alt ∧ alt ≤ 90000) := by
  simpa [domeB, inB] using h
theorem c_impl_isDomeUp (az alt : Int) : FnC Tryz.prog 132 G0 0 [] [.int .i64 az, .int .i64 alt] (fun d os => d = .bool (domeB az alt) ∧ os = []) := by
  refine fn_rule Tryz.func132 rfl (by decide +kernel) rfl (fun w0 F0 lent β0 => ?_)
  repeat' (first | refine sC ?_ | ((with_reducible refine isAwp ?_); first | (refine sS ?_; intro Q' hn he hr) | refine sA ?_) | (refine sH ?_; clear hn he hr Q') | refine sO ?_ | ((conv => whnf); first | refine sK ?_ | (refine sB ?_; repeat' (first | refine sb0 ?_ | (refine sb2 ?_ ?_ <;> intro hb <;> try exact cls))) | ((with_reducible refine isCall ?_); first | (refine call_pure (c_within _ _ _) rfl rfl ?_)) | ((with_reducible refine isCallQ ?_); first | (refine callQ_pure (c_within _ _ _) rfl rfl ?_)) | refine sP ?_ | (refine sE ?_; intro x hx) | (refine sF ?_; intro i y hi hy) | (refine sI ?_; intro i hi) | (refine sL ?_; intro hlen) | (refine sQ ?_; intro c hc hcm; try simp only [lnM, lnA, lnC, lnN] at hc) | (refine sX ?_; intro i1 i2 hi1 hi2 hj1 hj2; try simp only [cutL, lnM, lnA, lnC, lnN, lnT, lnD, lnR] at hi1 hi2 hj2) | refine sD ?_ | (refine ret_pick [] rfl rfl rfl ⟨?_, rfl⟩; conv => lhs; whnf) | (refine ret_pick [0] rfl rfl rfl ⟨rfl, ?_⟩) | (refine sH ?_; clear hn he hr Q')))
  all_goals simp [domeB, *]
def validMk (m : TMark) : Bool := domeB m.fAzimuth m.fAltitude && (domeB m.fFound m.fHeight && (decide (betA m.fAzimuth m.fFound ≤ 5000) && decide (absI (m.fAltitude - m.fHeight) ≤ 5000)))
set_option maxHeartbeats 4000000 in
theorem c_impl_ValidMark (m : TMark) : FnC Tryz.prog 80 G0 0 [] [.agg (encMark m)] (fun d os => d = .bool (validMk m) ∧ os = []) := by
  cases hv : domeB m.fAzimuth m.fAltitude with
  | false =>
    refine fn_rule Tryz.func80 rfl (by decide +kernel) rfl (fun w0 F0 lent β0 => ?_)
    repeat' (first | refine sC ?_ | ((with_reducible refine isAwp ?_); first | (refine sS ?_; intro Q' hn he hr) | refine sA ?_) | (refine sH ?_; clear hn he hr Q') | refine sO ?_ | ((conv => whnf); first | refine sK ?_ | (refine sB ?_; repeat' (first | refine sb0 ?_ | (refine sb2 ?_ ?_ <;> intro hb <;> try exact cls))) | ((with_reducible refine isCall ?_); first | (refine call_pure (c_impl_isDomeUp _ _) rfl rfl ?_)) | ((with_reducible refine isCallQ ?_); first | (refine callQ_pure (c_impl_isDomeUp _ _) rfl rfl ?_)) | refine sP ?_ | (refine sE ?_; intro x hx) | (refine sF ?_; intro i y hi hy) | (refine sI ?_; intro i hi) | (refine sL ?_; intro hlen) | (refine sQ ?_; intro c hc hcm; try simp only [lnM, lnA, lnC, lnN] at hc) | (refine sX ?_; intro i1 i2 hi1 hi2 hj1 hj2; try simp only [cutL, lnM, lnA, lnC, lnN, lnT, lnD, lnR] at hi1 hi2 hj2) | refine sD ?_ | (refine ret_pick [] rfl rfl rfl ⟨?_, rfl⟩; conv => lhs; whnf) | (refine ret_pick [0] rfl rfl rfl ⟨rfl, ?_⟩) | (refine sH ?_; clear hn he hr Q')))
    all_goals simp [validMk, hv]
  | true =>
    cases hv2 : domeB m.fFound m.fHeight with
    | false =>
      refine fn_rule Tryz.func80 rfl (by decide +kernel) rfl (fun w0 F0 lent β0 => ?_)
      repeat' (first | refine sC ?_ | ((with_reducible refine isAwp ?_); first | (refine sS ?_; intro Q' hn he hr) | refine sA ?_) | (refine sH ?_; clear hn he hr Q') | refine sO ?_ | ((conv => whnf); first | refine sK ?_ | (refine sB ?_; repeat' (first | refine sb0 ?_ | (refine sb2 ?_ ?_ <;> intro hb <;> try exact cls))) | ((with_reducible refine isCall ?_); first | (refine call_pure (c_impl_isDomeUp _ _) rfl rfl ?_)) | ((with_reducible refine isCallQ ?_); first | (refine callQ_pure (c_impl_isDomeUp _ _) rfl rfl ?_)) | refine sP ?_ | (refine sE ?_; intro x hx) | (refine sF ?_; intro i y hi hy) | (refine sI ?_; intro i hi) | (refine sL ?_; intro hlen) | (refine sQ ?_; intro c hc hcm; try simp only [lnM, lnA, lnC, lnN] at hc) | (refine sX ?_; intro i1 i2 hi1 hi2 hj1 hj2; try simp only [cutL, lnM, lnA, lnC, lnN, lnT, lnD, lnR] at hi1 hi2 hj2) | refine sD ?_ | (refine ret_pick [] rfl rfl rfl ⟨?_, rfl⟩; conv => lhs; whnf) | (refine ret_pick [0] rfl rfl rfl ⟨rfl, ?_⟩) | (refine sH ?_; clear hn he hr Q')))
      all_goals simp [validMk, hv, hv2]
    | true =>
      obtain ⟨h1, h2⟩ := domeB_bounds hv
      obtain ⟨h3, h4⟩ := domeB_bounds hv2
      refine fn_rule Tryz.func80 rfl (by decide +kernel) rfl (fun w0 F0 lent β0 => ?_)
      repeat' (first | refine sC ?_ | ((with_reducible refine isAwp ?_); first | (refine sS ?_; intro Q' hn he hr) | refine sA ?_) | (refine sH ?_; clear hn he hr Q') | refine sO ?_ | ((conv => whnf); first | refine sK ?_ | (refine sB ?_; repeat' (first | refine sb0 ?_ | (refine sb2 ?_ ?_ <;> intro hb <;> try exact cls))) | ((with_reducible refine isCall ?_); first | (refine call_pure (c_impl_isDomeUp _ _) rfl rfl ?_) | (refine call_pure (c_impl_AngleBetween _ _ (by unfold i64B; omega) (by unfold i64B; omega)) rfl rfl ?_) | (refine call_pure (c_absOf _ (by omega)) rfl rfl ?_)) | ((with_reducible refine isCallQ ?_); first | (refine callQ_pure (c_impl_isDomeUp _ _) rfl rfl ?_) | (refine callQ_pure (c_impl_AngleBetween _ _ (by unfold i64B; omega) (by unfold i64B; omega)) rfl rfl ?_) | (refine callQ_pure (c_absOf _ (by omega)) rfl rfl ?_)) | refine sP ?_ | (refine sE ?_; intro x hx) | (refine sF ?_; intro i y hi hy) | (refine sI ?_; intro i hi) | (refine sL ?_; intro hlen) | (refine sQ ?_; intro c hc hcm; try simp only [lnM, lnA, lnC, lnN] at hc) | (refine sX ?_; intro i1 i2 hi1 hi2 hj1 hj2; try simp only [cutL, lnM, lnA, lnC, lnN, lnT, lnD, lnR] at hi1 hi2 hj2) | refine sD ?_ | (refine ret_pick [] rfl rfl rfl ⟨?_, rfl⟩; conv => lhs; whnf) | (refine ret_pick [0] rfl rfl rfl ⟨rfl, ?_⟩) | (refine sH ?_; clear hn he hr Q')))
      all_goals (simp [validMk, hv, hv2, *] <;> (intro _; omega))
/-- The error of a valid mark. -/
noncomputable def errMk (m : TMark) : Int := awayV (dirV m.fAzimuth m.fAltitude) (dirV m.fFound m.fHeight)
theorem validMk_bounds {m : TMark} (h : validMk m = true) : (i64B m.fAzimuth ∧ i64B m.fAltitude) ∧ (i64B m.fFound ∧ i64B m.fHeight) := by
  simp only [validMk, Bool.and_eq_true] at h
  obtain ⟨h1, h2⟩ := domeB_bounds h.1
  obtain ⟨h3, h4⟩ := domeB_bounds h.2.1
  unfold i64B
  omega
set_option maxHeartbeats 4000000 in
theorem c_impl_markError (m : TMark) (h : validMk m = true) : FnC Tryz.prog 79 GS 0 [] [.agg (encMark m)] (fun d os => d = .int .i64 (errMk m) ∧ os = []) := by
  obtain ⟨⟨h1, h2⟩, h3, h4⟩ := validMk_bounds h
  refine fn_rule Tryz.func79 rfl (by decide +kernel) rfl (fun w0 F0 lent β0 => ?_)
  repeat' (first | refine sC ?_ | ((with_reducible refine isAwp ?_); first | (refine sS ?_; intro Q' hn he hr) | refine sA ?_) | (refine sH ?_; clear hn he hr Q') | refine sO ?_ | ((conv => whnf); first | refine sK ?_ | (refine sB ?_; repeat' (first | refine sb0 ?_ | (refine sb2 ?_ ?_ <;> intro hb <;> try exact cls))) | ((with_reducible refine isCall ?_); first | (refine call_pure (c_impl_directionOf _ _ h1 h2) rfl rfl ?_) | (refine call_pure (c_impl_directionOf _ _ h3 h4) rfl rfl ?_) | (refine call_pure (c_impl_Separation _ _ (dirV_bound _ _) (dirV_bound _ _)) rfl rfl ?_)) | ((with_reducible refine isCallQ ?_); first | (refine callQ_pure (c_impl_directionOf _ _ h1 h2) rfl rfl ?_) | (refine callQ_pure (c_impl_directionOf _ _ h3 h4) rfl rfl ?_) | (refine callQ_pure (c_impl_Separation _ _ (dirV_bound _ _) (dirV_bound _ _)) rfl rfl ?_)) | refine sP ?_ | (refine sE ?_; intro x hx) | (refine sF ?_; intro i y hi hy) | (refine sI ?_; intro i hi) | (refine sL ?_; intro hlen) | (refine sQ ?_; intro c hc hcm; try simp only [lnM, lnA, lnC, lnN] at hc) | (refine sX ?_; intro i1 i2 hi1 hi2 hj1 hj2; try simp only [cutL, lnM, lnA, lnC, lnN, lnT, lnD, lnR] at hi1 hi2 hj2) | refine sD ?_ | (refine ret_pick [] rfl rfl rfl ⟨?_, rfl⟩; conv => lhs; whnf) | (refine ret_pick [0] rfl rfl rfl ⟨rfl, ?_⟩) | (refine sH ?_; clear hn he hr Q')))
  all_goals rfl
def mkErr (b : Bool) (n : Int) : D := .tup [.int .i64 (bif b then n else 0), .int .i64 (bif b then 0 else 1)]
theorem c_impl_MarkError (m : TMark) : FnC Tryz.prog 26 GS 0 [] [.agg (encMark m)] (fun d os => d = mkErr (validMk m) (errMk m) ∧ os = []) := by
  cases hv : validMk m with
  | false =>
    refine fn_rule Tryz.func26 rfl (by decide +kernel) rfl (fun w0 F0 lent β0 => ?_)
    repeat' (first | refine sC ?_ | ((with_reducible refine isAwp ?_); first | (refine sS ?_; intro Q' hn he hr) | refine sA ?_) | (refine sH ?_; clear hn he hr Q') | refine sO ?_ | ((conv => whnf); first | refine sK ?_ | (refine sB ?_; repeat' (first | refine sb0 ?_ | (refine sb2 ?_ ?_ <;> intro hb <;> try exact cls))) | ((with_reducible refine isCall ?_); first | (refine call_pure (FnC.anyG (c_impl_ValidMark m)) rfl rfl ?_)) | ((with_reducible refine isCallQ ?_); first | (refine callQ_pure (FnC.anyG (c_impl_ValidMark m)) rfl rfl ?_)) | refine sP ?_ | (refine sE ?_; intro x hx) | (refine sF ?_; intro i y hi hy) | (refine sI ?_; intro i hi) | (refine sL ?_; intro hlen) | (refine sQ ?_; intro c hc hcm; try simp only [lnM, lnA, lnC, lnN] at hc) | (refine sX ?_; intro i1 i2 hi1 hi2 hj1 hj2; try simp only [cutL, lnM, lnA, lnC, lnN, lnT, lnD, lnR] at hi1 hi2 hj2) | refine sD ?_ | (refine ret_pick [] rfl rfl rfl ⟨?_, rfl⟩; conv => lhs; whnf) | (refine ret_pick [0] rfl rfl rfl ⟨rfl, ?_⟩) | (refine sH ?_; clear hn he hr Q')))
    all_goals rfl
  | true =>
    refine fn_rule Tryz.func26 rfl (by decide +kernel) rfl (fun w0 F0 lent β0 => ?_)
    repeat' (first | refine sC ?_ | ((with_reducible refine isAwp ?_); first | (refine sS ?_; intro Q' hn he hr) | refine sA ?_) | (refine sH ?_; clear hn he hr Q') | refine sO ?_ | ((conv => whnf); first | refine sK ?_ | (refine sB ?_; repeat' (first | refine sb0 ?_ | (refine sb2 ?_ ?_ <;> intro hb <;> try exact cls))) | ((with_reducible refine isCall ?_); first | (refine call_pure (FnC.anyG (c_impl_ValidMark m)) rfl rfl ?_) | (refine call_pure (c_impl_markError m hv) rfl rfl ?_)) | ((with_reducible refine isCallQ ?_); first | (refine callQ_pure (FnC.anyG (c_impl_ValidMark m)) rfl rfl ?_) | (refine callQ_pure (c_impl_markError m hv) rfl rfl ?_)) | refine sP ?_ | (refine sE ?_; intro x hx) | (refine sF ?_; intro i y hi hy) | (refine sI ?_; intro i hi) | (refine sL ?_; intro hlen) | (refine sQ ?_; intro c hc hcm; try simp only [lnM, lnA, lnC, lnN] at hc) | (refine sX ?_; intro i1 i2 hi1 hi2 hj1 hj2; try simp only [cutL, lnM, lnA, lnC, lnN, lnT, lnD, lnR] at hi1 hi2 hj2) | refine sD ?_ | (refine ret_pick [] rfl rfl rfl ⟨?_, rfl⟩; conv => lhs; whnf) | (refine ret_pick [0] rfl rfl rfl ⟨rfl, ?_⟩) | (refine sH ?_; clear hn he hr Q')))
    all_goals rfl
end Go.Eng
