/-
  Houses that are valid: the contract of the reference's function.
  No conditions.
-/
import Derived.Test.YtlkjechbejfnhaaGreatDoorED
import Derived.Test.YtlkjechbejfnhaaGreatDoorVH6
set_option linter.unusedVariables false
set_option linter.unusedSimpArgs false
set_option maxHeartbeats 4000000
namespace Go.Eng
open Go Go.RowKit Go.Proofs
set_option maxRecDepth 100000
theorem c_spec_l10Step (n : Int) : FnC Tryz.prog 178 G0 0 [] [.int .i64 n] (fun d os => d = .bool (inB n 10000 90000) ∧ os = []) := by
  refine fn_rule Tryz.func178 rfl (by decide +kernel) rfl (fun w0 F0 lent β0 => ?_)
  repeat' (first | refine sC ?_ | ((with_reducible refine isAwp ?_); first | (refine sS ?_; intro Q' hn he hr) | refine sA ?_) | (refine sH ?_; clear hn he hr Q') | refine sO ?_ | ((conv => whnf); first | refine sK ?_ | (refine sB ?_; repeat' (first | refine sb0 ?_ | (refine sb2 ?_ ?_ <;> intro hb <;> try exact cls))) | ((with_reducible refine isCall ?_); first | (refine call_pure (c_l00In _ _ _) rfl rfl ?_)) | ((with_reducible refine isCallQ ?_); first | (refine callQ_pure (c_l00In _ _ _) rfl rfl ?_)) | refine sP ?_ | (refine sE ?_; intro x hx) | (refine sF ?_; intro i y hi hy) | (refine sI ?_; intro i hi) | (refine sL ?_; intro hlen) | (refine sQ ?_; intro c hc hcm; try simp only [lnM, lnA, lnC, lnN] at hc) | (refine sX ?_; intro i1 i2 hi1 hi2 hj1 hj2; try simp only [cutL, lnM, lnA, lnC, lnN, lnT, lnD, lnR] at hi1 hi2 hj2) | refine sD ?_ | (refine ret_pick [] rfl rfl rfl ⟨?_, rfl⟩; conv => lhs; whnf) | (refine ret_pick [0] rfl rfl rfl ⟨rfl, ?_⟩) | (refine sH ?_; clear hn he hr Q')))
theorem c_spec_l25Bandwidth (n : Int) : FnC Tryz.prog 186 G0 0 [] [.int .i64 n] (fun d os => d = .bool (inB n 1 100000) ∧ os = []) := by
  refine fn_rule Tryz.func186 rfl (by decide +kernel) rfl (fun w0 F0 lent β0 => ?_)
  repeat' (first | refine sC ?_ | ((with_reducible refine isAwp ?_); first | (refine sS ?_; intro Q' hn he hr) | refine sA ?_) | (refine sH ?_; clear hn he hr Q') | refine sO ?_ | ((conv => whnf); first | refine sK ?_ | (refine sB ?_; repeat' (first | refine sb0 ?_ | (refine sb2 ?_ ?_ <;> intro hb <;> try exact cls))) | ((with_reducible refine isCall ?_); first | (refine call_pure (c_l00In _ _ _) rfl rfl ?_)) | ((with_reducible refine isCallQ ?_); first | (refine callQ_pure (c_l00In _ _ _) rfl rfl ?_)) | refine sP ?_ | (refine sE ?_; intro x hx) | (refine sF ?_; intro i y hi hy) | (refine sI ?_; intro i hi) | (refine sL ?_; intro hlen) | (refine sQ ?_; intro c hc hcm; try simp only [lnM, lnA, lnC, lnN] at hc) | (refine sX ?_; intro i1 i2 hi1 hi2 hj1 hj2; try simp only [cutL, lnM, lnA, lnC, lnN, lnT, lnD, lnR] at hi1 hi2 hj2) | refine sD ?_ | (refine ret_pick [] rfl rfl rfl ⟨?_, rfl⟩; conv => lhs; whnf) | (refine ret_pick [0] rfl rfl rfl ⟨rfl, ?_⟩) | (refine sH ?_; clear hn he hr Q')))
theorem houseB_booked {h : THouse} (hv : (ringsB h.fRings && idxsB (sumC h.fRings) h.fBooked) = false) : houseB h = false := by
  unfold houseB
  cases h1 : ringsB h.fRings with
  | false => simp
  | true =>
    rw [h1, Bool.true_and] at hv
    simp [hv]
set_option maxHeartbeats 4000000 in
theorem c_spec_l31Ok (h : THouse) (r : List D) : FnC Tryz.prog 122 G0 0 [] [.rp (encHouseR h r)] (fun d os => d = .bool (houseB h) ∧ os = []) := by
  have hbk := c_spec_l23Booked h.fRings h.fBooked
  cases hv : (ringsB h.fRings && idxsB (sumC h.fRings) h.fBooked) with
  | false =>
    rw [houseB_booked hv]
    rw [hv] at hbk
    refine fn_rule Tryz.func122 rfl (by decide +kernel) rfl (fun w0 F0 lent β0 => ?_)
    repeat' (first | refine sC ?_ | ((with_reducible refine isAwp ?_); first | (refine sS ?_; intro Q' hn he hr) | refine sA ?_) | (refine sH ?_; clear hn he hr Q') | refine sO ?_ | ((conv => whnf); first | refine sK ?_ | (refine sB ?_; repeat' (first | refine sb0 ?_ | (refine sb2 ?_ ?_ <;> intro hb <;> try exact cls))) | ((with_reducible refine isCall ?_); first | (refine call_pure (c_spec_l09Ok h.fDome _) rfl rfl ?_) | (refine call_pure (c_spec_l10Ok h.fProjectors) rfl rfl ?_) | (refine call_pure (c_spec_l10Step _) rfl rfl ?_) | (refine call_pure (hbk) rfl rfl ?_) | (refine call_pure (c_l00In _ _ _) rfl rfl ?_)) | ((with_reducible refine isCallQ ?_); first | (refine callQ_pure (c_spec_l09Ok h.fDome _) rfl rfl ?_) | (refine callQ_pure (c_spec_l10Ok h.fProjectors) rfl rfl ?_) | (refine callQ_pure (c_spec_l10Step _) rfl rfl ?_) | (refine callQ_pure (hbk) rfl rfl ?_) | (refine callQ_pure (c_l00In _ _ _) rfl rfl ?_)) | refine sP ?_ | (refine sE ?_; intro x hx) | (refine sF ?_; intro i y hi hy) | (refine sI ?_; intro i hi) | (refine sL ?_; intro hlen) | (refine sQ ?_; intro c hc hcm; try simp only [lnM, lnA, lnC, lnN] at hc) | (refine sX ?_; intro i1 i2 hi1 hi2 hj1 hj2; try simp only [cutL, lnM, lnA, lnC, lnN, lnT, lnD, lnR] at hi1 hi2 hj2) | refine sD ?_ | (refine ret_pick [] rfl rfl rfl ⟨?_, rfl⟩; conv => lhs; whnf) | (refine ret_pick [0] rfl rfl rfl ⟨rfl, ?_⟩) | (refine sH ?_; clear hn he hr Q')))
  | true =>
    rw [hv] at hbk
    refine fn_rule Tryz.func122 rfl (by decide +kernel) rfl (fun w0 F0 lent β0 => ?_)
    repeat' (first | refine sC ?_ | ((with_reducible refine isAwp ?_); first | (refine sS ?_; intro Q' hn he hr) | refine sA ?_) | (refine sH ?_; clear hn he hr Q') | refine sO ?_ | ((conv => whnf); first | refine sK ?_ | (refine sB ?_; repeat' (first | refine sb0 ?_ | (refine sb2 ?_ ?_ <;> intro hb <;> try exact cls))) | ((with_reducible refine isCall ?_); first | (refine call_pure (c_spec_l09Ok h.fDome _) rfl rfl ?_) | (refine call_pure (c_spec_l10Ok h.fProjectors) rfl rfl ?_) | (refine call_pure (c_spec_l10Step _) rfl rfl ?_) | (refine call_pure (hbk) rfl rfl ?_) | (refine call_pure (c_l00In _ _ _) rfl rfl ?_) | (refine call_pure (c_spec_l20Ok h.fFixtures) rfl rfl ?_) | (refine call_pure (c_spec_l13Ok h.fCues) rfl rfl ?_) | (refine call_pure (c_spec_l15Ok h.fScript) rfl rfl ?_) | (refine call_pure (c_spec_l25Ok h.fMedia) rfl rfl ?_) | (refine call_pure (c_spec_l25Needs h.fMedia h.fNeeds) rfl rfl ?_) | (refine call_pure (c_spec_l25Bandwidth _) rfl rfl ?_)) | ((with_reducible refine isCallQ ?_); first | (refine callQ_pure (c_spec_l09Ok h.fDome _) rfl rfl ?_) | (refine callQ_pure (c_spec_l10Ok h.fProjectors) rfl rfl ?_) | (refine callQ_pure (c_spec_l10Step _) rfl rfl ?_) | (refine callQ_pure (hbk) rfl rfl ?_) | (refine callQ_pure (c_l00In _ _ _) rfl rfl ?_) | (refine callQ_pure (c_spec_l20Ok h.fFixtures) rfl rfl ?_) | (refine callQ_pure (c_spec_l13Ok h.fCues) rfl rfl ?_) | (refine callQ_pure (c_spec_l15Ok h.fScript) rfl rfl ?_) | (refine callQ_pure (c_spec_l25Ok h.fMedia) rfl rfl ?_) | (refine callQ_pure (c_spec_l25Needs h.fMedia h.fNeeds) rfl rfl ?_) | (refine callQ_pure (c_spec_l25Bandwidth _) rfl rfl ?_)) | refine sP ?_ | (refine sE ?_; intro x hx) | (refine sF ?_; intro i y hi hy) | (refine sI ?_; intro i hi) | (refine sL ?_; intro hlen) | (refine sQ ?_; intro c hc hcm; try simp only [lnM, lnA, lnC, lnN] at hc) | (refine sX ?_; intro i1 i2 hi1 hi2 hj1 hj2; try simp only [cutL, lnM, lnA, lnC, lnN, lnT, lnD, lnR] at hi1 hi2 hj2) | refine sD ?_ | (refine ret_pick [] rfl rfl rfl ⟨?_, rfl⟩; conv => lhs; whnf) | (refine ret_pick [0] rfl rfl rfl ⟨rfl, ?_⟩) | (refine sH ?_; clear hn he hr Q')))
    all_goals (simp_all [houseB]; done)
end Go.Eng
