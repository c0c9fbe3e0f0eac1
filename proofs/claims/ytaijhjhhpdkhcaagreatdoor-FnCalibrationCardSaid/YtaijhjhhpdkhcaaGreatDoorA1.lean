/-
  Angles, rounded quotients, sines: the contracts of the program's functions and of the reference's.
  No conditions.
-/
import Derived.Test.YtaijhjhhpdkhcaaGreatDoorED
import Derived.Test.YtaijhjhhpdkhcaaGreatDoorW1
import Derived.Test.YtaijhjhhpdkhcaaGreatDoorA0
set_option linter.unusedVariables false
set_option linter.unusedSimpArgs false
set_option maxHeartbeats 4000000
namespace Go.Eng
open Go Go.RowKit Go.Proofs
set_option maxRecDepth 100000
theorem ElemS.tab {l : List Int} {n : Nat} {i : Int} {K : List D → Prop} (hl : l.length = n) (h0 : 0 ≤ i ∧ i < n) (h : K [.int .i64 (l.getD i.toNat 0)]) : ElemS (chunk 1 n (l.map (.int .i64))) i K := by
  have e : ∀ (n : Nat) (l : List Int), l.length = n → chunk 1 n (l.map (D.int .i64)) = l.map encI := by
    intro n
    induction n with
    | zero => intro l hl; rw [List.length_eq_zero_iff.1 hl]; rfl
    | succ n ih =>
      intro l hl
      cases l with
      | nil => cases hl
      | cons x r => simp only [chunk, List.map_cons, List.take_succ_cons, List.take_zero, List.drop_succ_cons, List.drop_zero]; rw [ih r (by simpa using hl)]; rfl
  rw [e n l hl]
  refine ElemS.at (by omega) fun k y hk hy => ?_
  have : l.getD i.toNat 0 = y := by rw [← hk, Int.toNat_natCast, List.getD_eq_getElem?_getD, hy]; rfl
  rw [this] at h
  exact h
theorem c_impl_NormalAngle (a : Int) (ha : i64B a) : FnC Tryz.prog 82 G0 0 [] [.int .i64 a] (fun d os => d = .int .i64 (a % 360000) ∧ os = []) := by
  have ht := tmod_or a 360000
  refine fn_rule Tryz.func82 rfl (by decide +kernel) rfl (fun w0 F0 lent β0 => ?_)
  repeat' (first | refine sC ?_ | ((with_reducible refine isAwp ?_); first | (refine sS ?_; intro Q' hn he hr) | refine sA ?_) | (refine sH ?_; clear hn he hr Q') | refine sO ?_ | ((conv => whnf); first | refine sK ?_ | (refine sB ?_; repeat' (first | refine sb0 ?_ | (refine sb2 ?_ ?_ <;> intro hb <;> try exact cls))) | (refine AskS.mk ⟨by omega, ?_⟩) | refine sP ?_ | (refine sE ?_; intro x hx) | (refine sF ?_; intro i y hi hy) | (refine sI ?_; intro i hi) | (refine sL ?_; intro hlen) | (refine sQ ?_; intro c hc hcm; try simp only [lnM, lnA, lnC, lnN] at hc) | (refine sX ?_; intro i1 i2 hi1 hi2 hj1 hj2; try simp only [cutL, lnM, lnA, lnC, lnN, lnT, lnD, lnR] at hi1 hi2 hj2) | refine sD ?_ | (refine ret_pick [] rfl rfl rfl ⟨?_, rfl⟩; conv => lhs; whnf) | (refine ret_pick [0] rfl rfl rfl ⟨rfl, ?_⟩) | (refine sH ?_; clear hn he hr Q')))
  all_goals (refine congrArg (D.int _) ?_; omega)
theorem c_spec_l02Normal (a : Int) (ha : i64B a) : FnC Tryz.prog 172 G0 0 [] [.int .i64 a] (fun d os => d = .int .i64 (a % 360000) ∧ os = []) := by
  have ht := tmod_or a 360000
  have ht2 := tmod_or (a.tmod 360000 + 360000) 360000
  refine fn_rule Tryz.func172 rfl (by decide +kernel) rfl (fun w0 F0 lent β0 => ?_)
  repeat' (first | refine sC ?_ | ((with_reducible refine isAwp ?_); first | (refine sS ?_; intro Q' hn he hr) | refine sA ?_) | (refine sH ?_; clear hn he hr Q') | refine sO ?_ | ((conv => whnf); first | refine sK ?_ | (refine sB ?_; repeat' (first | refine sb0 ?_ | (refine sb2 ?_ ?_ <;> intro hb <;> try exact cls))) | (refine AskS.mk ⟨by omega, ?_⟩) | refine sP ?_ | (refine sE ?_; intro x hx) | (refine sF ?_; intro i y hi hy) | (refine sI ?_; intro i hi) | (refine sL ?_; intro hlen) | (refine sQ ?_; intro c hc hcm; try simp only [lnM, lnA, lnC, lnN] at hc) | (refine sX ?_; intro i1 i2 hi1 hi2 hj1 hj2; try simp only [cutL, lnM, lnA, lnC, lnN, lnT, lnD, lnR] at hi1 hi2 hj2) | refine sD ?_ | (refine ret_pick [] rfl rfl rfl ⟨?_, rfl⟩; conv => lhs; whnf) | (refine ret_pick [0] rfl rfl rfl ⟨rfl, ?_⟩) | (refine sH ?_; clear hn he hr Q')))
  all_goals (refine congrArg (D.int _) ?_; omega)
theorem c_impl_AngleBetween (a b : Int) (ha : i64B a) (hb : i64B b) : FnC Tryz.prog 133 G0 0 [] [.int .i64 a, .int .i64 b] (fun d os => d = .int .i64 (betA a b) ∧ os = []) := by
  refine fn_rule Tryz.func133 rfl (by decide +kernel) rfl (fun w0 F0 lent β0 => ?_)
  repeat' (first | refine sC ?_ | ((with_reducible refine isAwp ?_); first | (refine sS ?_; intro Q' hn he hr) | refine sA ?_) | (refine sH ?_; clear hn he hr Q') | refine sO ?_ | ((conv => whnf); first | refine sK ?_ | (refine sB ?_; repeat' (first | refine sb0 ?_ | (refine sb2 ?_ ?_ <;> intro hb <;> try exact cls))) | ((with_reducible refine isCall ?_); first | (refine call_pure (c_impl_NormalAngle _ ha) rfl rfl ?_) | (refine call_pure (c_impl_NormalAngle _ hb) rfl rfl ?_) | (refine call_pure (c_impl_NormalAngle _ (by unfold i64B; omega)) rfl rfl ?_)) | ((with_reducible refine isCallQ ?_); first | (refine callQ_pure (c_impl_NormalAngle _ ha) rfl rfl ?_) | (refine callQ_pure (c_impl_NormalAngle _ hb) rfl rfl ?_) | (refine callQ_pure (c_impl_NormalAngle _ (by unfold i64B; omega)) rfl rfl ?_)) | refine sP ?_ | (refine sE ?_; intro x hx) | (refine sF ?_; intro i y hi hy) | (refine sI ?_; intro i hi) | (refine sL ?_; intro hlen) | (refine sQ ?_; intro c hc hcm; try simp only [lnM, lnA, lnC, lnN] at hc) | (refine sX ?_; intro i1 i2 hi1 hi2 hj1 hj2; try simp only [cutL, lnM, lnA, lnC, lnN, lnT, lnD, lnR] at hi1 hi2 hj2) | refine sD ?_ | (refine ret_pick [] rfl rfl rfl ⟨?_, rfl⟩; conv => lhs; whnf) | (refine ret_pick [0] rfl rfl rfl ⟨rfl, ?_⟩) | (refine sH ?_; clear hn he hr Q')))
  all_goals (refine congrArg (D.int _) ?_; unfold betA; simp only [cond_false]; split <;> omega)
theorem tdiv_bound {a b : Int} (hb : 0 < b) : -absI a ≤ a.tdiv b ∧ a.tdiv b ≤ absI a := by
  have hd1 : 0 ≤ a → 0 ≤ a / b ∧ a / b ≤ a := fun h => ⟨Int.ediv_nonneg h (by omega), Int.ediv_le_self _ h⟩
  have hd2 : 0 ≤ -a → 0 ≤ -a / b ∧ -a / b ≤ -a := fun h => ⟨Int.ediv_nonneg h (by omega), Int.ediv_le_self _ h⟩
  unfold absI
  rcases tdiv_or a b with ⟨g, e⟩ | ⟨g, e⟩
  · have := hd1 g
    rw [e, if_neg (by omega)]; omega
  · have := hd2 (by omega)
    rw [e, if_pos g]; omega
theorem tmod_bound {a b : Int} (hb : 0 < b) : -b < a.tmod b ∧ a.tmod b < b := by
  have h1 := Int.emod_nonneg a (show b ≠ 0 by omega)
  have h2 := Int.emod_nonneg (-a) (show b ≠ 0 by omega)
  have h3 := Int.emod_lt_of_pos a hb
  have h4 := Int.emod_lt_of_pos (-a) hb
  rcases tmod_or a b with ⟨g, e⟩ | ⟨g, e⟩ <;> omega
theorem absI_bound {a m : Int} (h : -m ≤ a ∧ a ≤ m) : 0 ≤ absI a ∧ absI a ≤ m := by unfold absI; split <;> omega
theorem c_impl_nearest (a b : Int) (hb0 : 0 < b ∧ b ≤ 1000000000000) (ha : -4000000000000000000 ≤ a ∧ a ≤ 4000000000000000000) : FnC Tryz.prog 176 G0 0 [] [.int .i64 a, .int .i64 b] (fun d os => d = .int .i64 (rnd a b) ∧ os = []) := by
  have hr := tmod_bound (a := a) hb0.1
  have hq : -4000000000000000000 ≤ a.tdiv b ∧ a.tdiv b ≤ 4000000000000000000 := by
    have h1 := tdiv_bound (a := a) hb0.1
    have h2 := absI_bound ha
    omega
  have hab := absI_bound (a := a.tmod b) (m := b) (by omega)
  have hbb : absI b = b := by unfold absI; rw [if_neg (by omega)]
  refine fn_rule Tryz.func176 rfl (by decide +kernel) rfl (fun w0 F0 lent β0 => ?_)
  repeat' (first | refine sC ?_ | ((with_reducible refine isAwp ?_); first | (refine sS ?_; intro Q' hn he hr) | refine sA ?_) | (refine sH ?_; clear hn he hr Q') | refine sO ?_ | ((conv => whnf); first | refine sK ?_ | (refine sB ?_; repeat' (first | refine sb0 ?_ | (refine sb2 ?_ ?_ <;> intro hb <;> try exact cls))) | (refine AskS.mk ⟨by omega, ?_⟩) | ((with_reducible refine isCall ?_); first | (refine call_pure (c_absOf _ (by omega)) rfl rfl ?_)) | ((with_reducible refine isCallQ ?_); first | (refine callQ_pure (c_absOf _ (by omega)) rfl rfl ?_)) | refine sP ?_ | (refine sE ?_; intro x hx) | (refine sF ?_; intro i y hi hy) | (refine sI ?_; intro i hi) | (refine sL ?_; intro hlen) | (refine sQ ?_; intro c hc hcm; try simp only [lnM, lnA, lnC, lnN] at hc) | (refine sX ?_; intro i1 i2 hi1 hi2 hj1 hj2; try simp only [cutL, lnM, lnA, lnC, lnN, lnT, lnD, lnR] at hi1 hi2 hj2) | refine sD ?_ | (refine ret_pick [] rfl rfl rfl ⟨?_, rfl⟩; conv => lhs; whnf) | (refine ret_pick [0] rfl rfl rfl ⟨rfl, ?_⟩) | (refine sH ?_; clear hn he hr Q')))
  · refine congrArg (D.int _) ?_
    exact near_lt hb0.1 hb
  all_goals
    have hn := near_ge hb0.1 (show ¬ absZ (a.tmod b) < absZ b - absZ (a.tmod b) by show ¬ (absI (a.tmod b) < absI b - absI (a.tmod b)); omega)
    refine congrArg (D.int _) ?_
  · refine hn.1 ?_
    have h0 : ¬ a < 0 := fun h => by rw [decide_eq_true h, decide_eq_false (show ¬ b < 0 by omega)] at hb; cases hb
    omega
  · refine hn.2 ?_
    rcases Int.lt_or_le a 0 with h0 | h0
    · exact h0
    · exact absurd (by rw [decide_eq_false (show ¬ a < 0 by omega), decide_eq_false (show ¬ b < 0 by omega)]) hb
end Go.Eng
