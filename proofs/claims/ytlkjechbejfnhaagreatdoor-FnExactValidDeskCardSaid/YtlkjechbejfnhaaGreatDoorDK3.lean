/-
  Desks compared.
  No conditions.
-/
import Derived.Test.YtlkjechbejfnhaaGreatDoorED
import Derived.Test.YtlkjechbejfnhaaGreatDoorDK
import Derived.Test.YtlkjechbejfnhaaGreatDoorHS3
set_option linter.unusedVariables false
set_option linter.unusedSimpArgs false
set_option maxHeartbeats 4000000
namespace Go.Eng
open Go Go.RowKit Go.Proofs
set_option maxRecDepth 100000
theorem c_eqDesk (a b : TDesk) : FnC Tryz.prog 8 G0 0 [] [.agg (encDesk a), .agg (encDesk b)] (fun d os => d = .bool (eqTDesk a b) ∧ os = []) := by
  refine fn_rule Tryz.func8 rfl (by decide +kernel) rfl (fun w0 F0 lent β0 => ?_)
  repeat' (first | refine sC ?_ | ((with_reducible refine isAwp ?_); first | (refine sS ?_; intro Q' hn he hr) | refine sA ?_) | (refine sH ?_; clear hn he hr Q') | refine sO ?_ | ((conv => whnf); first | refine sK ?_ | (refine sB ?_; repeat' (first | refine sb0 ?_ | (refine sb2 ?_ ?_ <;> intro hb <;> try exact cls))) | ((with_reducible refine isCall ?_); first | (refine call_pure (c_eqHouse a.fHouse b.fHouse) rfl rfl ?_) | (refine call_pure (c_eqHoldS a.fHolds b.fHolds) rfl rfl ?_) | (refine call_pure (c_eqOfferS a.fOffers b.fOffers) rfl rfl ?_) | (refine call_pure (c_eqNoteS a.fNotes b.fNotes) rfl rfl ?_) | (refine call_pure (c_eqSite a.fSite b.fSite) rfl rfl ?_) | (refine call_pure (c_eqStarS a.fStars b.fStars) rfl rfl ?_)) | refine sP ?_ | (refine sE ?_; intro x hx) | (refine sF ?_; intro i y hi hy) | (refine sI ?_; intro i hi) | (refine sL ?_; intro hlen) | (refine sQ ?_; intro c hc hcm; try simp only [lnM, lnA, lnC, lnN] at hc) | (refine sX ?_; intro i1 i2 hi1 hi2 hj1 hj2; try simp only [cutL, lnM, lnA, lnC, lnN, lnT, lnD, lnR] at hi1 hi2 hj2) | refine sD ?_ | (refine ret_pick [] rfl rfl rfl ⟨?_, rfl⟩; conv => lhs; whnf) | (refine ret_pick [0] rfl rfl rfl ⟨rfl, ?_⟩) | (refine sH ?_; clear hn he hr Q')))
  all_goals (first | (simp_all [eqTDesk, eqI, eqStr, eqBo]; done) | (simp_all [eqTDesk, eqI, eqStr, eqBo]; rfl))
end Go.Eng
