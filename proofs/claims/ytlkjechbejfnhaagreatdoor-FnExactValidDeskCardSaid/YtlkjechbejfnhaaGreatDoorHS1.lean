/-
  The size of a house.
  No conditions.
-/
import Derived.Test.YtlkjechbejfnhaaGreatDoorED
import Derived.Test.YtlkjechbejfnhaaGreatDoorHS
set_option linter.unusedVariables false
set_option linter.unusedSimpArgs false
set_option maxHeartbeats 4000000
namespace Go.Eng
open Go Go.RowKit Go.Proofs
set_option maxRecDepth 100000
theorem c_szHouse (x : THouse) (left : Int) (h0 : 0 ≤ left) (h1 : left ≤ 1048576) : FnC Tryz.prog 11 G0 0 [] [.agg (encHouse x), .int .i64 left] (fun d os => (∃ n : Int, d = .int .i64 n ∧ ((x.sz : Int) ≤ left ∧ n = left - x.sz ∨ left < x.sz ∧ n = -1)) ∧ os = []) := by
  refine fn_rule Tryz.func11 rfl (by decide +kernel) rfl (fun w0 F0 lent β0 => ?_)
  repeat' (first | refine sC ?_ | ((with_reducible refine isAwp ?_); first | (refine sS ?_; intro Q' hn he hr) | refine sA ?_) | (refine sH ?_; clear hn he hr Q') | refine sO ?_ | ((conv => whnf); first | refine sK ?_ | (refine sB ?_; repeat' (first | refine sb0 ?_ | (refine sb2 ?_ ?_ <;> intro hb <;> try exact cls))) | ((with_reducible refine isCall ?_); first | (refine call_some (szSome (c_szDome x.fDome _ (by omega) (by omega))) rfl ?_; rintro d9 ⟨n9, rfl, hs9⟩; refine ⟨rfl, ?_⟩) | (refine call_some (szSome (c_szProjectorS x.fProjectors _ (by omega) (by omega))) rfl ?_; rintro d9 ⟨n9, rfl, hs9⟩; refine ⟨rfl, ?_⟩) | (refine call_some (szSome (c_szRingS x.fRings _ (by omega) (by omega))) rfl ?_; rintro d9 ⟨n9, rfl, hs9⟩; refine ⟨rfl, ?_⟩) | (refine call_some (szSome (c_szInt64S x.fBooked _ (by omega) (by omega))) rfl ?_; rintro d9 ⟨n9, rfl, hs9⟩; refine ⟨rfl, ?_⟩) | (refine call_some (szSome (c_szFixtureS x.fFixtures _ (by omega) (by omega))) rfl ?_; rintro d9 ⟨n9, rfl, hs9⟩; refine ⟨rfl, ?_⟩) | (refine call_some (szSome (c_szCueS x.fCues _ (by omega) (by omega))) rfl ?_; rintro d9 ⟨n9, rfl, hs9⟩; refine ⟨rfl, ?_⟩) | (refine call_some (szSome (c_szLineS x.fScript _ (by omega) (by omega))) rfl ?_; rintro d9 ⟨n9, rfl, hs9⟩; refine ⟨rfl, ?_⟩) | (refine call_some (szSome (c_szMediaS x.fMedia _ (by omega) (by omega))) rfl ?_; rintro d9 ⟨n9, rfl, hs9⟩; refine ⟨rfl, ?_⟩) | (refine call_some (szSome (c_szNeedS x.fNeeds _ (by omega) (by omega))) rfl ?_; rintro d9 ⟨n9, rfl, hs9⟩; refine ⟨rfl, ?_⟩)) | ((with_reducible refine isRet ?_); first | (refine ret_pick [] rfl rfl rfl ⟨⟨_, rfl, ?_⟩, rfl⟩)) | refine sP ?_ | (refine sE ?_; intro x hx) | (refine sF ?_; intro i y hi hy) | (refine sI ?_; intro i hi) | (refine sL ?_; intro hlen) | (refine sQ ?_; intro c hc hcm; try simp only [lnM, lnA, lnC, lnN] at hc) | (refine sX ?_; intro i1 i2 hi1 hi2 hj1 hj2; try simp only [cutL, lnM, lnA, lnC, lnN, lnT, lnD, lnR] at hi1 hi2 hj2) | refine sD ?_ | (refine ret_pick [] rfl rfl rfl ⟨?_, rfl⟩; conv => lhs; whnf) | (refine ret_pick [0] rfl rfl rfl ⟨rfl, ?_⟩) | (refine sH ?_; clear hn he hr Q')))
  all_goals first | exact .inr ⟨by simp only [THouse.sz]; omega, rfl⟩ | exact .inl ⟨by simp only [THouse.sz]; omega, by simp only [THouse.sz]; omega⟩
end Go.Eng
