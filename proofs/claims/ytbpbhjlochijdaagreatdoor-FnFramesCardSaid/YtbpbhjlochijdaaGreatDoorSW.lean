/-
  A number that an input chooses, told ahead.
  No conditions.
-/
import Derived.Test.YtbpbhjlochijdaaGreatDoorED
import Derived.Test.YtbpbhjlochijdaaGreatDoorR8
set_option linter.unusedVariables false
set_option linter.unusedSimpArgs false
set_option maxHeartbeats 4000000
namespace Go.Eng
open Go Go.RowKit Go.Proofs
set_option maxRecDepth 100000
theorem c_r8At_at (code : List UInt8) (k : Nat) (n : Int) (hn2 : 2 ≤ n ∧ n ≤ 65536) (hk : k ≤ 1000) : ∃ z : Int, 0 ≤ z ∧ z < n ∧ FnC Tryz.prog 30 G0 0 [] [.sl 1 (code.map byteE), .int .i64 k, .int .i64 n] (fun d os => d = .int .i64 z ∧ os = []) := by
  by_cases hc : code.length ≤ k
  · refine ⟨0, by omega, by omega, ?_⟩
    refine fn_rule Tryz.func30 rfl (by decide +kernel) rfl (fun w0 F0 lent β0 => ?_)
    repeat' (first | refine sC ?_ | ((with_reducible refine isAwp ?_); first | (refine sS ?_; intro Q' hn he hr) | refine sA ?_) | (refine sH ?_; clear hn he hr Q') | refine sO ?_ | ((conv => whnf); first | refine sK ?_ | (refine sB ?_; repeat' (first | refine sb0 ?_ | (refine sb2 ?_ ?_ <;> intro hb <;> try exact cls))) | refine sP ?_ | (refine sE ?_; intro x hx) | (refine sF ?_; intro i y hi hy) | (refine sI ?_; intro i hi) | (refine sL ?_; intro hlen) | (refine sQ ?_; intro c hc hcm; try simp only [lnM, lnA, lnC, lnN] at hc) | (refine sX ?_; intro i1 i2 hi1 hi2 hj1 hj2; try simp only [cutL, lnM, lnA, lnC, lnN, lnT, lnD, lnR] at hi1 hi2 hj2) | refine sD ?_ | (refine ret_pick [] rfl rfl rfl ⟨?_, rfl⟩; conv => lhs; whnf) | (refine ret_pick [0] rfl rfl rfl ⟨rfl, ?_⟩) | (refine sH ?_; clear hn he hr Q')))
  · have hx0 : code[k]? = some code[k] := List.getElem?_eq_getElem (by omega)
    have h77 := (code[k]).toNat_lt
    refine ⟨Int.tmod (code[k]).toNat n, Int.tmod_nonneg _ (by omega), Int.tmod_lt_of_pos _ (by omega), ?_⟩
    refine fn_rule Tryz.func30 rfl (by decide +kernel) rfl (fun w0 F0 lent β0 => ?_)
    repeat' (first | refine sC ?_ | ((with_reducible refine isAwp ?_); first | (refine sS ?_; intro Q' hn he hr) | refine sA ?_) | (refine sH ?_; clear hn he hr Q') | refine sO ?_ | ((conv => whnf); first | refine sK ?_ | (refine sB ?_; repeat' (first | refine sb0 ?_ | (refine sb2 ?_ ?_ <;> intro hb <;> try exact cls))) | (refine ByteS.the hx0 ?_) | (refine ElemS.the hx0 ?_) | (refine AskS.mk ⟨by omega, ?_⟩) | (refine ArithS.in64 (by omega) ?_) | refine sP ?_ | (refine sE ?_; intro x hx) | (refine sF ?_; intro i y hi hy) | (refine sI ?_; intro i hi) | (refine sL ?_; intro hlen) | (refine sQ ?_; intro c hc hcm; try simp only [lnM, lnA, lnC, lnN] at hc) | (refine sX ?_; intro i1 i2 hi1 hi2 hj1 hj2; try simp only [cutL, lnM, lnA, lnC, lnN, lnT, lnD, lnR] at hi1 hi2 hj2) | refine sD ?_ | (refine ret_pick [] rfl rfl rfl ⟨?_, rfl⟩; conv => lhs; whnf) | (refine ret_pick [0] rfl rfl rfl ⟨rfl, ?_⟩) | (refine sH ?_; clear hn he hr Q')))
    all_goals trace_state
end Go.Eng
