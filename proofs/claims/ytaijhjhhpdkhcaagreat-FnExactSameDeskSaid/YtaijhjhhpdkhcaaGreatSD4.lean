/-
  Desks compared by the reference.
  No conditions.
-/
import Derived.Test.YtaijhjhhpdkhcaaGreatED
import Derived.Test.YtaijhjhhpdkhcaaGreatSD3
set_option linter.unusedVariables false
set_option linter.unusedSimpArgs false
set_option maxHeartbeats 4000000
namespace Go.Eng
open Go Go.RowKit Go.Proofs
set_option maxRecDepth 100000
theorem eqD_f {a b : TDesk} (h : eqL eqTHold a.fHolds b.fHolds = false) : eqTDesk a b = false := by simp [eqTDesk, h]
theorem eqD_true {a b : TDesk} (h1 : eqTHouse a.fHouse b.fHouse = true) (h2 : eqL eqTHold a.fHolds b.fHolds = true) (h3 : eqL eqTOffer a.fOffers b.fOffers = true) (h4 : eqL eqTNote a.fNotes b.fNotes = true) (h5 : eqTSite a.fSite b.fSite = true) (h6 : eqL eqTStar a.fStars b.fStars = true) : eqTDesk a b = true := by simp [eqTDesk, h1, h2, h3, h4, h5, h6]
set_option maxHeartbeats 4000000 in
theorem c_spec_SameDesk (a b : TDesk) : FnC Tryz.prog 11 G0 0 [] [.agg (encDesk a), .agg (encDesk b)] (fun d os => d = .bool (eqTDesk a b) ∧ os = []) := by
  refine fn_rule Tryz.func11 rfl (by decide +kernel) rfl (fun w0 F0 lent β0 => ?_)
  repeat' (first | refine sC ?_ | ((with_reducible refine isAwp ?_); first | (refine sS ?_; intro Q' hn he hr) | refine sA ?_) | (refine sH ?_; clear hn he hr Q') | refine sO ?_ | ((conv => whnf); first | refine sK ?_ | (refine sB ?_; repeat' (first | refine sb0 ?_ | (refine sb2 ?_ ?_ <;> intro hb <;> try exact cls))) | (refine EqS.mk (eqd_Site a.fSite b.fSite) ?_) | ((with_reducible refine isCall ?_); first | (refine call_look (c_spec_l32House a.fHouse b.fHouse (restDesk a) (restDesk b)) rfl ?_) | (refine call_pure (c_spec_SameOffers _ _) rfl rfl ?_) | (refine call_pure (c_spec_SameNotes _ _) rfl rfl ?_) | (refine call_pure (c_spec_SameStars _ _) rfl rfl ?_)) | ((with_reducible refine isCallQ ?_); first | (refine callQ_look (c_spec_l32House a.fHouse b.fHouse (restDesk a) (restDesk b)) rfl ?_) | (refine callQ_pure (c_spec_SameOffers _ _) rfl rfl ?_) | (refine callQ_pure (c_spec_SameNotes _ _) rfl rfl ?_) | (refine callQ_pure (c_spec_SameStars _ _) rfl rfl ?_)) | refine sP ?_ | (refine sE ?_; intro x hx) | (refine sF ?_; intro i y hi hy) | (refine sI ?_; intro i hi) | (refine sL ?_; intro hlen) | (refine sQ ?_; intro c hc hcm; try simp only [lnM, lnA, lnC, lnN] at hc) | (refine sX ?_; intro i1 i2 hi1 hi2 hj1 hj2; try simp only [cutL, lnM, lnA, lnC, lnN, lnT, lnD, lnR] at hi1 hi2 hj2) | refine sD ?_ | (refine ret_pick [] rfl rfl rfl ⟨?_, rfl⟩; conv => lhs; whnf) | (refine ret_pick [0] rfl rfl rfl ⟨rfl, ?_⟩) | (refine sH ?_; clear hn he hr Q')))
  all_goals first
    | (simp_all [eqTDesk, eqI]; done)
    | (have h9 := eqL_len (e := eqTHold) (a := a.fHolds) (b := b.fHolds) (by omega); simp_all [eqTDesk, eqI]; done)
    | skip
  refine loop_env (fun k : Nat => [(2,.hp 0 0),(3,.hp 1 0),(5,.int .i64 k)]) (fun _ => [.box (encDesk a), .box (encDesk b)]) (fun k => k ≤ a.fHolds.length ∧ eqTo eqTHold a.fHolds b.fHolds k) (fun k => a.fHolds.length - k) 0 ⟨by omega, eqTo_zero⟩ (by refine weak_to rfl rfl rfl ?_; ((repeat' (first | exact trivial | refine And.intro ?_ ?_)) <;> (first | rfl | (conv => rhs; whnf) <;> (first | rfl | (refine congrArg (D.int _) ?_; omega))))) (fun k hk Q' hn he hr => ?_)
  repeat' (first | refine sC ?_ | ((with_reducible refine isAwp ?_); first | (refine sS ?_; intro Q' hn he hr) | refine sA ?_) | (refine sH ?_; clear hn he hr Q') | refine sO ?_ | ((conv => whnf); first | refine sK ?_ | (refine sB ?_; repeat' (first | refine sb0 ?_ | (refine sb2 ?_ ?_ <;> intro hb <;> try exact cls))) | (refine EqS.mk (eqd_Hold _ _) ?_) | refine sP ?_ | (refine sE ?_; intro x hx) | (refine sF ?_; intro i y hi hy) | (refine sI ?_; intro i hi) | (refine sL ?_; intro hlen) | (refine sQ ?_; intro c hc hcm; try simp only [lnM, lnA, lnC, lnN] at hc) | (refine sX ?_; intro i1 i2 hi1 hi2 hj1 hj2; try simp only [cutL, lnM, lnA, lnC, lnN, lnT, lnD, lnR] at hi1 hi2 hj2) | refine sD ?_ | (refine ret_pick [] rfl rfl rfl ⟨?_, rfl⟩; conv => lhs; whnf) | (refine ret_pick [0] rfl rfl rfl ⟨rfl, ?_⟩) | (refine sH ?_; clear hn he hr Q')))
  · rw [eqD_f (eqL_at ‹a.fHolds[k]? = some _› ‹b.fHolds[k]? = some _› hb)]
  · exact ⟨k + 1, ⟨by omega, eqTo_succ hk.2 ‹a.fHolds[k]? = some _› ‹b.fHolds[k]? = some _› hb⟩, by omega, (by refine weak_to rfl rfl rfl ?_; ((repeat' (first | exact trivial | refine And.intro ?_ ?_)) <;> (first | rfl | (conv => rhs; whnf) <;> (first | rfl | (refine congrArg (D.int _) ?_; omega)))))⟩
  · have e := eqL_all (e := eqTHold) (a := a.fHolds) (b := b.fHolds) (by omega) (fun j x y h => hk.2 j x y (by omega))
    rw [eqD_true (by assumption) e (by assumption) (by assumption) (by assumption) (by assumption)]
end Go.Eng
