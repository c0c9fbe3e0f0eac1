/-
  Houses compared.
  No conditions.
-/
import Derived.Test.YtlkjechbejfnhaaGreatDoorED
import Derived.Test.YtlkjechbejfnhaaGreatDoorHS
set_option linter.unusedVariables false
set_option linter.unusedSimpArgs false
set_option maxHeartbeats 4000000
namespace Go.Eng
open Go Go.RowKit Go.Proofs
set_option maxRecDepth 100000
theorem c_eqHouse (a b : THouse) : FnC Tryz.prog 16 G0 0 [] [.agg (encHouse a), .agg (encHouse b)] (fun d os => d = .bool (eqTHouse a b) ∧ os = []) := by
  refine fn_rule Tryz.func16 rfl (by decide +kernel) rfl (fun w0 F0 lent β0 => ?_)
  repeat' (first | refine sC ?_ | ((with_reducible refine isAwp ?_); first | (refine sS ?_; intro Q' hn he hr) | refine sA ?_) | (refine sH ?_; clear hn he hr Q') | refine sO ?_ | ((conv => whnf); first | refine sK ?_ | (refine sB ?_; repeat' (first | refine sb0 ?_ | (refine sb2 ?_ ?_ <;> intro hb <;> try exact cls))) | ((with_reducible refine isCall ?_); first | (refine call_pure (c_eqDome a.fDome b.fDome) rfl rfl ?_) | (refine call_pure (c_eqProjectorS a.fProjectors b.fProjectors) rfl rfl ?_) | (refine call_pure (c_eqRingS a.fRings b.fRings) rfl rfl ?_) | (refine call_pure (c_eqInt64S a.fBooked b.fBooked) rfl rfl ?_) | (refine call_pure (c_eqFixtureS a.fFixtures b.fFixtures) rfl rfl ?_) | (refine call_pure (c_eqCueS a.fCues b.fCues) rfl rfl ?_) | (refine call_pure (c_eqLineS a.fScript b.fScript) rfl rfl ?_) | (refine call_pure (c_eqMediaS a.fMedia b.fMedia) rfl rfl ?_) | (refine call_pure (c_eqNeedS a.fNeeds b.fNeeds) rfl rfl ?_)) | refine sP ?_ | (refine sE ?_; intro x hx) | (refine sF ?_; intro i y hi hy) | (refine sI ?_; intro i hi) | (refine sL ?_; intro hlen) | (refine sQ ?_; intro c hc hcm; try simp only [lnM, lnA, lnC, lnN] at hc) | (refine sX ?_; intro i1 i2 hi1 hi2 hj1 hj2; try simp only [cutL, lnM, lnA, lnC, lnN, lnT, lnD, lnR] at hi1 hi2 hj2) | refine sD ?_ | (refine ret_pick [] rfl rfl rfl ⟨?_, rfl⟩; conv => lhs; whnf) | (refine ret_pick [0] rfl rfl rfl ⟨rfl, ?_⟩) | (refine sH ?_; clear hn he hr Q')))
  all_goals (first | (simp_all [eqTHouse, eqI, eqStr, eqBo]; done) | (simp_all [eqTHouse, eqI, eqStr, eqBo]; rfl))
end Go.Eng
