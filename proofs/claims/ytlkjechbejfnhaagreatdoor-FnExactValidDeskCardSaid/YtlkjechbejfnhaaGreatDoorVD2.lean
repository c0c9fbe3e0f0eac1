/-
  Desks: whether they are valid, by the program and by the reference.
  No conditions.
-/
import Derived.Test.YtlkjechbejfnhaaGreatDoorED
import Derived.Test.YtlkjechbejfnhaaGreatDoorVD1
import Derived.Test.YtlkjechbejfnhaaGreatDoorVH7
import Derived.Test.YtlkjechbejfnhaaGreatDoorNV
import Derived.Test.YtlkjechbejfnhaaGreatDoorST0
set_option linter.unusedVariables false
set_option linter.unusedSimpArgs false
set_option maxHeartbeats 4000000
namespace Go.Eng
open Go Go.RowKit Go.Proofs
set_option maxRecDepth 100000
def deskB (d : TDesk) : Bool := houseB d.fHouse && (holdsB d.fHolds && (offersB d.fOffers && (validNs d.fNotes && (siteB d.fSite && starsB d.fStars))))
theorem c_impl_ValidDesk (d : TDesk) : FnC Tryz.prog 23 G0 0 [] [.agg (encDesk d)] (fun e os => e = .bool (deskB d) ∧ os = []) := by
  refine fn_rule Tryz.func23 rfl (by decide +kernel) rfl (fun w0 F0 lent β0 => ?_)
  repeat' (first | refine sC ?_ | ((with_reducible refine isAwp ?_); first | (refine sS ?_; intro Q' hn he hr) | refine sA ?_) | (refine sH ?_; clear hn he hr Q') | refine sO ?_ | ((conv => whnf); first | refine sK ?_ | (refine sB ?_; repeat' (first | refine sb0 ?_ | (refine sb2 ?_ ?_ <;> intro hb <;> try exact cls))) | ((with_reducible refine isCall ?_); first | (refine call_pure (c_impl_ValidHouse d.fHouse) rfl rfl ?_) | (refine call_pure (c_impl_ValidHolds d.fHolds) rfl rfl ?_) | (refine call_pure (c_impl_ValidOffers d.fOffers) rfl rfl ?_) | (refine call_pure (c_impl_ValidNotes d.fNotes) rfl rfl ?_) | (refine call_pure (c_impl_ValidSite d.fSite) rfl rfl ?_) | (refine call_pure (c_impl_ValidStars d.fStars) rfl rfl ?_)) | ((with_reducible refine isCallQ ?_); first | (refine callQ_pure (c_impl_ValidHouse d.fHouse) rfl rfl ?_) | (refine callQ_pure (c_impl_ValidHolds d.fHolds) rfl rfl ?_) | (refine callQ_pure (c_impl_ValidOffers d.fOffers) rfl rfl ?_) | (refine callQ_pure (c_impl_ValidNotes d.fNotes) rfl rfl ?_) | (refine callQ_pure (c_impl_ValidSite d.fSite) rfl rfl ?_) | (refine callQ_pure (c_impl_ValidStars d.fStars) rfl rfl ?_)) | refine sP ?_ | (refine sE ?_; intro x hx) | (refine sF ?_; intro i y hi hy) | (refine sI ?_; intro i hi) | (refine sL ?_; intro hlen) | (refine sQ ?_; intro c hc hcm; try simp only [lnM, lnA, lnC, lnN] at hc) | (refine sX ?_; intro i1 i2 hi1 hi2 hj1 hj2; try simp only [cutL, lnM, lnA, lnC, lnN, lnT, lnD, lnR] at hi1 hi2 hj2) | refine sD ?_ | (refine ret_pick [] rfl rfl rfl ⟨?_, rfl⟩; conv => lhs; whnf) | (refine ret_pick [0] rfl rfl rfl ⟨rfl, ?_⟩) | (refine sH ?_; clear hn he hr Q')))
  all_goals first | (simp_all [deskB]; done) | trace_state
theorem c_spec_l32Ok (d : TDesk) : FnC Tryz.prog 86 G0 0 [] [.rp (encDesk d)] (fun e os => e = .bool (deskB d) ∧ os = []) := by
  refine fn_rule Tryz.func86 rfl (by decide +kernel) rfl (fun w0 F0 lent β0 => ?_)
  repeat' (first | refine sC ?_ | ((with_reducible refine isAwp ?_); first | (refine sS ?_; intro Q' hn he hr) | refine sA ?_) | (refine sH ?_; clear hn he hr Q') | refine sO ?_ | ((conv => whnf); first | refine sK ?_ | (refine sB ?_; repeat' (first | refine sb0 ?_ | (refine sb2 ?_ ?_ <;> intro hb <;> try exact cls))) | ((with_reducible refine isCall ?_); first | (refine call_pure (c_spec_l31Ok d.fHouse (restDesk d)) rfl rfl ?_) | (refine call_pure (c_spec_l18Holds d.fHolds) rfl rfl ?_) | (refine call_pure (c_spec_l22Ok d.fOffers) rfl rfl ?_) | (refine call_pure (c_spec_l30Ok d.fNotes) rfl rfl ?_) | (refine call_pure (c_spec_l06Ok d.fSite _) rfl rfl ?_) | (refine call_pure (c_spec_l05Ok d.fStars) rfl rfl ?_)) | ((with_reducible refine isCallQ ?_); first | (refine callQ_pure (c_spec_l31Ok d.fHouse (restDesk d)) rfl rfl ?_) | (refine callQ_pure (c_spec_l18Holds d.fHolds) rfl rfl ?_) | (refine callQ_pure (c_spec_l22Ok d.fOffers) rfl rfl ?_) | (refine callQ_pure (c_spec_l30Ok d.fNotes) rfl rfl ?_) | (refine callQ_pure (c_spec_l06Ok d.fSite _) rfl rfl ?_) | (refine callQ_pure (c_spec_l05Ok d.fStars) rfl rfl ?_)) | refine sP ?_ | (refine sE ?_; intro x hx) | (refine sF ?_; intro i y hi hy) | (refine sI ?_; intro i hi) | (refine sL ?_; intro hlen) | (refine sQ ?_; intro c hc hcm; try simp only [lnM, lnA, lnC, lnN] at hc) | (refine sX ?_; intro i1 i2 hi1 hi2 hj1 hj2; try simp only [cutL, lnM, lnA, lnC, lnN, lnT, lnD, lnR] at hi1 hi2 hj2) | refine sD ?_ | (refine ret_pick [] rfl rfl rfl ⟨?_, rfl⟩; conv => lhs; whnf) | (refine ret_pick [0] rfl rfl rfl ⟨rfl, ?_⟩) | (refine sH ?_; clear hn he hr Q')))
  all_goals first | (simp_all [deskB]; done) | trace_state
theorem c_spec_ValidDesk (d : TDesk) : FnC Tryz.prog 21 G0 0 [] [.agg (encDesk d)] (fun e os => e = .bool (deskB d) ∧ os = []) := by
  refine fn_rule Tryz.func21 rfl (by decide +kernel) rfl (fun w0 F0 lent β0 => ?_)
  repeat' (first | refine sC ?_ | ((with_reducible refine isAwp ?_); first | (refine sS ?_; intro Q' hn he hr) | refine sA ?_) | (refine sH ?_; clear hn he hr Q') | refine sO ?_ | ((conv => whnf); first | refine sK ?_ | (refine sB ?_; repeat' (first | refine sb0 ?_ | (refine sb2 ?_ ?_ <;> intro hb <;> try exact cls))) | ((with_reducible refine isCall ?_); first | (refine call_look (c_spec_l32Ok d) rfl ?_)) | ((with_reducible refine isCallQ ?_); first | (refine callQ_look (c_spec_l32Ok d) rfl ?_)) | refine sP ?_ | (refine sE ?_; intro x hx) | (refine sF ?_; intro i y hi hy) | (refine sI ?_; intro i hi) | (refine sL ?_; intro hlen) | (refine sQ ?_; intro c hc hcm; try simp only [lnM, lnA, lnC, lnN] at hc) | (refine sX ?_; intro i1 i2 hi1 hi2 hj1 hj2; try simp only [cutL, lnM, lnA, lnC, lnN, lnT, lnD, lnR] at hi1 hi2 hj2) | refine sD ?_ | (refine ret_pick [] rfl rfl rfl ⟨?_, rfl⟩; conv => lhs; whnf) | (refine ret_pick [0] rfl rfl rfl ⟨rfl, ?_⟩) | (refine sH ?_; clear hn he hr Q')))
  all_goals first | (simp_all [deskB]; done) | trace_state
end Go.Eng
