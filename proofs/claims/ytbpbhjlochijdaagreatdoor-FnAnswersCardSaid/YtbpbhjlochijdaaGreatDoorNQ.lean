/-
  The library's stable sort of at most twenty numbers.
  No conditions.
-/
import Derived.Test.YtbpbhjlochijdaaGreatDoorED
import Derived.Test.YtbpbhjlochijdaaGreatDoorNR
set_option linter.unusedVariables false
set_option linter.unusedSimpArgs false
set_option maxHeartbeats 4000000
namespace Go.Eng
open Go Go.RowKit Go.Proofs
set_option maxRecDepth 100000
theorem c_insertion_none (S : List Int) (Z : List Nat) (Q : List Nat) (n : Nat) (hn2 : n ≤ 20) : FnC Tryz.prog 125 G0 1 [.row 2 1 ((natI Q).map encI)] [.h 0, .int .i64 n, .int .i64 n, cloR S Z] (fun d os => d = .tup [] ∧ os = [.row 2 1 ((natI Q).map encI)]) := by
  refine fn_rule Tryz.func125 rfl (by decide +kernel) rfl (fun w0 F0 lent β0 => ?_)
  unfold cloR
  repeat' (first | refine sC ?_ | ((with_reducible refine isAwp ?_); first | (refine sS ?_; intro Q' hn he hr) | refine sA ?_) | (refine sH ?_; clear hn he hr Q') | refine sO ?_ | ((conv => whnf); first | refine sK ?_ | (refine sB ?_; repeat' (first | refine sb0 ?_ | (refine sb2 ?_ ?_ <;> intro hb <;> try exact cls))) | refine sP ?_ | (refine sE ?_; intro x hx) | (refine sF ?_; intro i y hi hy) | (refine sI ?_; intro i hi) | (refine sL ?_; intro hlen) | (refine sQ ?_; intro c hc hcm; try simp only [lnM, lnA, lnC, lnN] at hc) | (refine sX ?_; intro i1 i2 hi1 hi2 hj1 hj2; try simp only [cutL, lnM, lnA, lnC, lnN, lnT, lnD, lnR] at hi1 hi2 hj2) | refine sD ?_ | (refine ret_pick [] rfl rfl rfl ⟨?_, rfl⟩; conv => lhs; whnf) | (refine ret_pick [0] rfl rfl rfl ⟨rfl, ?_⟩) | (refine sH ?_; clear hn he hr Q')))
  refine loop_env (fun i : Nat => [(0,.h 0),(1,.int .i64 n),(2,.int .i64 n),(3,cloR S Z),(8,.int .i64 (n + 1 : Nat))]) (fun i => [.row 2 1 ((natI Q).map encI)]) (fun i => True) (fun i => 0) 0 trivial (by refine weak_to rfl rfl (by rfl) ?_; ((repeat' (first | exact trivial | refine And.intro ?_ ?_)) <;> (first | rfl | (conv => rhs; whnf) <;> (first | rfl | (refine congrArg (D.int _) ?_; omega))))) (fun i hi Q' hn he hr => ?_)
  repeat' (first | refine sC ?_ | ((with_reducible refine isAwp ?_); first | (refine sS ?_; intro Q' hn he hr) | refine sA ?_) | (refine sH ?_; clear hn he hr Q') | refine sO ?_ | ((conv => whnf); first | refine sK ?_ | (refine sB ?_; repeat' (first | refine sb0 ?_ | (refine sb2 ?_ ?_ <;> intro hb <;> try exact cls))) | refine sP ?_ | (refine sE ?_; intro x hx) | (refine sF ?_; intro i y hi hy) | (refine sI ?_; intro i hi) | (refine sL ?_; intro hlen) | (refine sQ ?_; intro c hc hcm; try simp only [lnM, lnA, lnC, lnN] at hc) | (refine sX ?_; intro i1 i2 hi1 hi2 hj1 hj2; try simp only [cutL, lnM, lnA, lnC, lnN, lnT, lnD, lnR] at hi1 hi2 hj2) | refine sD ?_ | (refine ret_pick [] rfl rfl rfl ⟨?_, rfl⟩; conv => lhs; whnf) | (refine ret_pick [0] rfl rfl rfl ⟨rfl, ?_⟩) | (refine sH ?_; clear hn he hr Q')))
  all_goals rfl
theorem c_stable (S : List Int) (Z : List Nat) (Q : List Nat) (hQ : Q.length ≤ 20) (hm : ∀ i ∈ Q, i < S.length) (hZ : Z.length = S.length) : FnC Tryz.prog 88 G0 1 [.row 2 1 ((natI Q).map encI)] [.h 0, .int .i64 Q.length, cloR S Z] (fun d os => d = .tup [] ∧ os = [.row 2 1 ((natI (rankR (befN S Z) Q)).map encI)]) := by
  have hC := c_insertion S Z Q hQ hm hZ
  refine fn_rule Tryz.func88 rfl (by decide +kernel) rfl (fun w0 F0 lent β0 => ?_)
  unfold cloR at *
  repeat' (first | refine sC ?_ | ((with_reducible refine isAwp ?_); first | (refine sS ?_; intro Q' hn he hr) | refine sA ?_) | (refine sH ?_; clear hn he hr Q') | refine sO ?_ | ((conv => whnf); first | refine sK ?_ | (refine sB ?_; repeat' (first | refine sb0 ?_ | (refine sb2 ?_ ?_ <;> intro hb <;> try exact cls))) | refine sP ?_ | (refine sE ?_; intro x hx) | (refine sF ?_; intro i y hi hy) | (refine sI ?_; intro i hi) | (refine sL ?_; intro hlen) | (refine sQ ?_; intro c hc hcm; try simp only [lnM, lnA, lnC, lnN] at hc) | (refine sX ?_; intro i1 i2 hi1 hi2 hj1 hj2; try simp only [cutL, lnM, lnA, lnC, lnN, lnT, lnD, lnR] at hi1 hi2 hj2) | refine sD ?_ | (refine ret_pick [] rfl rfl rfl ⟨?_, rfl⟩; conv => lhs; whnf) | (refine ret_pick [0] rfl rfl rfl ⟨rfl, ?_⟩) | (refine sH ?_; clear hn he hr Q')))
  refine loop_env (fun k : Nat => match k with
    | 0 => [(0,.h 0),(1,.int .i64 Q.length),(2,cloR S Z),(6,.int .i64 20),(7,.int .i64 0),(8,.int .i64 20)]
    | _ => [(0,.h 0),(1,.int .i64 Q.length),(2,cloR S Z),(6,.int .i64 20),(7,.int .i64 (20 : Nat)),(8,.int .i64 40)]) (fun k => match k with
    | 0 => [.row 2 1 ((natI Q).map encI)]
    | _ => [.row 2 1 ((natI (rankR (befN S Z) Q)).map encI)]) (fun k => k ≤ 1 ∧ (k = 1 → Q.length = 20)) (fun k => 1 - k) 0 ⟨by omega, by omega⟩ (by refine weak_to rfl rfl (by rfl) ?_; ((repeat' (first | exact trivial | refine And.intro ?_ ?_)) <;> (first | rfl | (conv => rhs; whnf) <;> (first | rfl | (refine congrArg (D.int _) ?_; omega))))) (fun k hk Q' hn he hr => ?_)
  obtain ⟨hk1, hk2⟩ := hk
  cases k with
  | zero =>
    have hC20 : Q.length = 20 → FnC Tryz.prog 125 G0 1 [.row 2 1 ((natI Q).map encI)] [.h 0, .int .i64 0, .int .i64 20, .clo (.func 42) [.rp [.sl 1 (S.map encI)], .rp [.sl 1 ((natI Z).map encI)]]] (fun d os => d = .tup [] ∧ os = [.row 2 1 ((natI (rankR (befN S Z) Q)).map encI)]) := fun h => by
      have h2 := hC
      rw [h] at h2
      exact h2
    unfold cloR
    repeat' (first | refine sC ?_ | ((with_reducible refine isAwp ?_); first | (refine sS ?_; intro Q' hn he hr) | refine sA ?_) | (refine sH ?_; clear hn he hr Q') | refine sO ?_ | ((conv => whnf); first | refine sK ?_ | (refine sB ?_; repeat' (first | refine sb0 ?_ | (refine sb2 ?_ ?_ <;> intro hb <;> try exact cls))) | ((with_reducible refine isCall ?_); first | (refine call_lend 0 rfl (hC20 (by omega)) ?_; rintro d os ⟨rfl, rfl⟩; refine ⟨_, _, rfl, ?_⟩) | (refine call_lend 0 rfl hC ?_; rintro d os ⟨rfl, rfl⟩; refine ⟨_, _, rfl, ?_⟩)) | refine sP ?_ | (refine sE ?_; intro x hx) | (refine sF ?_; intro i y hi hy) | (refine sI ?_; intro i hi) | (refine sL ?_; intro hlen) | (refine sQ ?_; intro c hc hcm; try simp only [lnM, lnA, lnC, lnN] at hc) | (refine sX ?_; intro i1 i2 hi1 hi2 hj1 hj2; try simp only [cutL, lnM, lnA, lnC, lnN, lnT, lnD, lnR] at hi1 hi2 hj2) | refine sD ?_ | (refine ret_pick [] rfl rfl rfl ⟨?_, rfl⟩; conv => lhs; whnf) | (refine ret_pick [0] rfl rfl rfl ⟨rfl, ?_⟩) | (refine sH ?_; clear hn he hr Q')))
    · exact ⟨1, ⟨by omega, fun _ => by omega⟩, by omega, (by refine weak_to rfl rfl (by rfl) ?_; ((repeat' (first | exact trivial | refine And.intro ?_ ?_)) <;> (first | rfl | (conv => rhs; whnf) <;> (first | rfl | (refine congrArg (D.int _) ?_; omega)))))⟩
    · refine loop_env (fun k : Nat => [(0,.h 0),(1,.int .i64 Q.length),(6,.int .i64 20)]) (fun k => [.row 2 1 ((natI (rankR (befN S Z) Q)).map encI)]) (fun k => True) (fun k => 0) 0 trivial (by refine weak_to rfl rfl (by rfl) ?_; ((repeat' (first | exact trivial | refine And.intro ?_ ?_)) <;> (first | rfl | (conv => rhs; whnf) <;> (first | rfl | (refine congrArg (D.int _) ?_; omega))))) (fun k hk Q' hn he hr => ?_)
      repeat' (first | refine sC ?_ | ((with_reducible refine isAwp ?_); first | (refine sS ?_; intro Q' hn he hr) | refine sA ?_) | (refine sH ?_; clear hn he hr Q') | refine sO ?_ | ((conv => whnf); first | refine sK ?_ | (refine sB ?_; repeat' (first | refine sb0 ?_ | (refine sb2 ?_ ?_ <;> intro hb <;> try exact cls))) | refine sP ?_ | (refine sE ?_; intro x hx) | (refine sF ?_; intro i y hi hy) | (refine sI ?_; intro i hi) | (refine sL ?_; intro hlen) | (refine sQ ?_; intro c hc hcm; try simp only [lnM, lnA, lnC, lnN] at hc) | (refine sX ?_; intro i1 i2 hi1 hi2 hj1 hj2; try simp only [cutL, lnM, lnA, lnC, lnN, lnT, lnD, lnR] at hi1 hi2 hj2) | refine sD ?_ | (refine ret_pick [] rfl rfl rfl ⟨?_, rfl⟩; conv => lhs; whnf) | (refine ret_pick [0] rfl rfl rfl ⟨rfl, ?_⟩) | (refine sH ?_; clear hn he hr Q')))
      all_goals rfl
  | succ k =>
    obtain rfl : k = 0 := by omega
    have h20 : Q.length = 20 := hk2 rfl
    have hC2 := c_insertion_none S Z (rankR (befN S Z) Q) 20 (by omega)
    unfold cloR at *
    rw [h20]
    repeat' (first | refine sC ?_ | ((with_reducible refine isAwp ?_); first | (refine sS ?_; intro Q' hn he hr) | refine sA ?_) | (refine sH ?_; clear hn he hr Q') | refine sO ?_ | ((conv => whnf); first | refine sK ?_ | (refine sB ?_; repeat' (first | refine sb0 ?_ | (refine sb2 ?_ ?_ <;> intro hb <;> try exact cls))) | ((with_reducible refine isCall ?_); first | (refine call_lend 0 rfl hC2 ?_; rintro d os ⟨rfl, rfl⟩; refine ⟨_, _, rfl, ?_⟩)) | refine sP ?_ | (refine sE ?_; intro x hx) | (refine sF ?_; intro i y hi hy) | (refine sI ?_; intro i hi) | (refine sL ?_; intro hlen) | (refine sQ ?_; intro c hc hcm; try simp only [lnM, lnA, lnC, lnN] at hc) | (refine sX ?_; intro i1 i2 hi1 hi2 hj1 hj2; try simp only [cutL, lnM, lnA, lnC, lnN, lnT, lnD, lnR] at hi1 hi2 hj2) | refine sD ?_ | (refine ret_pick [] rfl rfl rfl ⟨?_, rfl⟩; conv => lhs; whnf) | (refine ret_pick [0] rfl rfl rfl ⟨rfl, ?_⟩) | (refine sH ?_; clear hn he hr Q')))
    refine loop_env (fun k : Nat => [(0,.h 0),(1,.int .i64 (20 : Nat)),(6,.int .i64 20)]) (fun k => [.row 2 1 ((natI (rankR (befN S Z) Q)).map encI)]) (fun k => True) (fun k => 0) 0 trivial (by refine weak_to rfl rfl (by rfl) ?_; ((repeat' (first | exact trivial | refine And.intro ?_ ?_)) <;> (first | rfl | (conv => rhs; whnf) <;> (first | rfl | (refine congrArg (D.int _) ?_; omega))))) (fun k hk Q' hn he hr => ?_)
    repeat' (first | refine sC ?_ | ((with_reducible refine isAwp ?_); first | (refine sS ?_; intro Q' hn he hr) | refine sA ?_) | (refine sH ?_; clear hn he hr Q') | refine sO ?_ | ((conv => whnf); first | refine sK ?_ | (refine sB ?_; repeat' (first | refine sb0 ?_ | (refine sb2 ?_ ?_ <;> intro hb <;> try exact cls))) | refine sP ?_ | (refine sE ?_; intro x hx) | (refine sF ?_; intro i y hi hy) | (refine sI ?_; intro i hi) | (refine sL ?_; intro hlen) | (refine sQ ?_; intro c hc hcm; try simp only [lnM, lnA, lnC, lnN] at hc) | (refine sX ?_; intro i1 i2 hi1 hi2 hj1 hj2; try simp only [cutL, lnM, lnA, lnC, lnN, lnT, lnD, lnR] at hi1 hi2 hj2) | refine sD ?_ | (refine ret_pick [] rfl rfl rfl ⟨?_, rfl⟩; conv => lhs; whnf) | (refine ret_pick [0] rfl rfl rfl ⟨rfl, ?_⟩) | (refine sH ?_; clear hn he hr Q')))
    all_goals rfl
theorem c_SortStable (S : List Int) (Z : List Nat) (Q : List Nat) (hQ : Q.length ≤ 20) (hm : ∀ i ∈ Q, i < S.length) (hZ : Z.length = S.length) : FnC Tryz.prog 41 G0 1 [.row 2 1 ((natI Q).map encI)] [.h 0, .clo (.func 42) [.rp [.sl 1 (S.map encI)], .rp [.sl 1 ((natI Z).map encI)]]] (fun d os => d = .tup [] ∧ os = [.row 2 1 ((natI (rankR (befN S Z) Q)).map encI)]) := by
  have hC := c_stable S Z Q hQ hm hZ
  have hnl := natI_len Q
  have hC2 : FnC Tryz.prog 88 G0 1 [.row 2 1 ((natI Q).map encI)] [.h 0, .int .i64 ((natI Q).length : Nat), .clo (.func 42) [.rp [.sl 1 (S.map encI)], .rp [.sl 1 ((natI Z).map encI)]]] (fun d os => d = .tup [] ∧ os = [.row 2 1 ((natI (rankR (befN S Z) Q)).map encI)]) := by rw [hnl]; exact hC
  refine fn_rule Tryz.func41 rfl (by decide +kernel) rfl (fun w0 F0 lent β0 => ?_)
  repeat' (first | refine sC ?_ | ((with_reducible refine isAwp ?_); first | (refine sS ?_; intro Q' hn he hr) | refine sA ?_) | (refine sH ?_; clear hn he hr Q') | refine sO ?_ | ((conv => whnf); first | refine sK ?_ | (refine sB ?_; repeat' (first | refine sb0 ?_ | (refine sb2 ?_ ?_ <;> intro hb <;> try exact cls))) | ((with_reducible refine isCall ?_); first | (refine call_lend 0 rfl hC2 ?_; rintro d os ⟨rfl, rfl⟩; refine ⟨_, _, rfl, ?_⟩)) | refine sP ?_ | (refine sE ?_; intro x hx) | (refine sF ?_; intro i y hi hy) | (refine sI ?_; intro i hi) | (refine sL ?_; intro hlen) | (refine sQ ?_; intro c hc hcm; try simp only [lnM, lnA, lnC, lnN] at hc) | (refine sX ?_; intro i1 i2 hi1 hi2 hj1 hj2; try simp only [cutL, lnM, lnA, lnC, lnN, lnT, lnD, lnR] at hi1 hi2 hj2) | refine sD ?_ | (refine ret_pick [] rfl rfl rfl ⟨?_, rfl⟩; conv => lhs; whnf) | (refine ret_pick [0] rfl rfl rfl ⟨rfl, ?_⟩) | (refine sH ?_; clear hn he hr Q')))
  all_goals rfl
end Go.Eng
