/-
  Houses that are valid: the contracts of the program's function and of the reference's.
  No conditions.
-/
import Derived.Test.YtlkjechbejfnhaaGreatDoorED
import Derived.Test.YtlkjechbejfnhaaGreatDoorVH2
import Derived.Test.YtlkjechbejfnhaaGreatDoorVH3
import Derived.Test.YtlkjechbejfnhaaGreatDoorVH4
import Derived.Test.YtlkjechbejfnhaaGreatDoorVH5
set_option linter.unusedVariables false
set_option linter.unusedSimpArgs false
set_option maxHeartbeats 4000000
namespace Go.Eng
open Go Go.RowKit Go.Proofs
set_option maxRecDepth 100000
def houseB (h : THouse) : Bool := domB h.fDome && (projsB h.fProjectors && (ringsB h.fRings && (idxsB (sumC h.fRings) h.fBooked && (fixsB h.fFixtures && (cuesB h.fCues && (scrsB h.fScript && (validMs h.fMedia && (needsQ h.fMedia h.fNeeds && (inB h.fStep 10000 90000 && (inB h.fLeast 0 1000 && (inB h.fBudget 1 20000 && inB h.fBandwidth 1 100000)))))))))))
set_option maxHeartbeats 4000000 in
theorem c_impl_ValidHouse (h : THouse) : FnC Tryz.prog 60 G0 0 [] [.agg (encHouse h)] (fun d os => d = .bool (houseB h) ∧ os = []) := by
  refine fn_rule Tryz.func60 rfl (by decide +kernel) rfl (fun w0 F0 lent β0 => ?_)
  cases hv : ringsB h.fRings with
  | false =>
    repeat' (first | refine sC ?_ | ((with_reducible refine isAwp ?_); first | (refine sS ?_; intro Q' hn he hr) | refine sA ?_) | (refine sH ?_; clear hn he hr Q') | refine sO ?_ | ((conv => whnf); first | refine sK ?_ | (refine sB ?_; repeat' (first | refine sb0 ?_ | (refine sb2 ?_ ?_ <;> intro hb <;> try exact cls))) | ((with_reducible refine isCall ?_); first | (refine call_pure (c_impl_ValidDome h.fDome) rfl rfl ?_) | (refine call_pure (c_impl_ValidProjectors h.fProjectors) rfl rfl ?_) | (refine call_pure (c_impl_ValidRings h.fRings) rfl rfl ?_)) | ((with_reducible refine isCallQ ?_); first | (refine callQ_pure (c_impl_ValidDome h.fDome) rfl rfl ?_) | (refine callQ_pure (c_impl_ValidProjectors h.fProjectors) rfl rfl ?_) | (refine callQ_pure (c_impl_ValidRings h.fRings) rfl rfl ?_)) | refine sP ?_ | (refine sE ?_; intro x hx) | (refine sF ?_; intro i y hi hy) | (refine sI ?_; intro i hi) | (refine sL ?_; intro hlen) | (refine sQ ?_; intro c hc hcm; try simp only [lnM, lnA, lnC, lnN] at hc) | (refine sX ?_; intro i1 i2 hi1 hi2 hj1 hj2; try simp only [cutL, lnM, lnA, lnC, lnN, lnT, lnD, lnR] at hi1 hi2 hj2) | refine sD ?_ | (refine ret_pick [] rfl rfl rfl ⟨?_, rfl⟩; conv => lhs; whnf) | (refine ret_pick [0] rfl rfl rfl ⟨rfl, ?_⟩) | (refine sH ?_; clear hn he hr Q')))
    all_goals (simp_all [houseB]; done)
  | true =>
    obtain ⟨h1, h2, h3, h4⟩ := ringsB_all hv
    repeat' (first | refine sC ?_ | ((with_reducible refine isAwp ?_); first | (refine sS ?_; intro Q' hn he hr) | refine sA ?_) | (refine sH ?_; clear hn he hr Q') | refine sO ?_ | ((conv => whnf); first | refine sK ?_ | (refine sB ?_; repeat' (first | refine sb0 ?_ | (refine sb2 ?_ ?_ <;> intro hb <;> try exact cls))) | ((with_reducible refine isCall ?_); first | (refine call_pure (c_impl_ValidDome h.fDome) rfl rfl ?_) | (refine call_pure (c_impl_ValidProjectors h.fProjectors) rfl rfl ?_) | (refine call_pure (c_impl_ValidRings h.fRings) rfl rfl ?_) | (refine call_pure (c_impl_seatCount h.fRings h1 h2) rfl rfl ?_) | (refine call_pure (c_impl_areIndices h.fBooked (sumC h.fRings) (by omega)) rfl rfl ?_) | (refine call_pure (c_impl_ValidFixtures h.fFixtures) rfl rfl ?_) | (refine call_pure (c_impl_ValidCues h.fCues) rfl rfl ?_) | (refine call_pure (c_impl_ValidScript h.fScript) rfl rfl ?_) | (refine call_pure (c_impl_ValidNeeds h.fMedia h.fNeeds) rfl rfl ?_) | (refine call_pure (c_within _ _ _) rfl rfl ?_)) | ((with_reducible refine isCallQ ?_); first | (refine callQ_pure (c_impl_ValidDome h.fDome) rfl rfl ?_) | (refine callQ_pure (c_impl_ValidProjectors h.fProjectors) rfl rfl ?_) | (refine callQ_pure (c_impl_ValidRings h.fRings) rfl rfl ?_) | (refine callQ_pure (c_impl_seatCount h.fRings h1 h2) rfl rfl ?_) | (refine callQ_pure (c_impl_areIndices h.fBooked (sumC h.fRings) (by omega)) rfl rfl ?_) | (refine callQ_pure (c_impl_ValidFixtures h.fFixtures) rfl rfl ?_) | (refine callQ_pure (c_impl_ValidCues h.fCues) rfl rfl ?_) | (refine callQ_pure (c_impl_ValidScript h.fScript) rfl rfl ?_) | (refine callQ_pure (c_impl_ValidNeeds h.fMedia h.fNeeds) rfl rfl ?_) | (refine callQ_pure (c_within _ _ _) rfl rfl ?_)) | refine sP ?_ | (refine sE ?_; intro x hx) | (refine sF ?_; intro i y hi hy) | (refine sI ?_; intro i hi) | (refine sL ?_; intro hlen) | (refine sQ ?_; intro c hc hcm; try simp only [lnM, lnA, lnC, lnN] at hc) | (refine sX ?_; intro i1 i2 hi1 hi2 hj1 hj2; try simp only [cutL, lnM, lnA, lnC, lnN, lnT, lnD, lnR] at hi1 hi2 hj2) | refine sD ?_ | (refine ret_pick [] rfl rfl rfl ⟨?_, rfl⟩; conv => lhs; whnf) | (refine ret_pick [0] rfl rfl rfl ⟨rfl, ?_⟩) | (refine sH ?_; clear hn he hr Q')))
    all_goals (simp_all [houseB]; done)
end Go.Eng
