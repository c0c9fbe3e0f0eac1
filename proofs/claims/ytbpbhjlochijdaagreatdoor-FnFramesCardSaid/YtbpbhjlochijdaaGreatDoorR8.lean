/-
  Small functions of the laws: numbers that an input chooses, lists that are equal.
  No conditions.
-/
import Derived.Test.YtbpbhjlochijdaaGreatDoorED
import Derived.Test.YtbpbhjlochijdaaGreatDoorP1
import Derived.Test.YtbpbhjlochijdaaGreatDoorTB
set_option linter.unusedVariables false
set_option linter.unusedSimpArgs false
set_option maxHeartbeats 4000000
namespace Go.Eng
open Go Go.RowKit Go.Proofs
set_option maxRecDepth 100000
theorem c_r8Long (code more : List UInt8) : FnC Tryz.prog 21 G0 0 [] [.sl 1 (code.map byteE), .sl 1 (more.map byteE)] (fun d os => (∃ b, d = .bool b) ∧ os = []) := by
  refine fn_rule Tryz.func21 rfl (by decide +kernel) rfl (fun w0 F0 lent β0 => ?_)
  repeat' (first | refine sC ?_ | ((with_reducible refine isAwp ?_); first | (refine sS ?_; intro Q' hn he hr) | refine sA ?_) | (refine sH ?_; clear hn he hr Q') | refine sO ?_ | ((conv => whnf); first | refine sK ?_ | (refine sB ?_; repeat' (first | refine sb0 ?_ | (refine sb2 ?_ ?_ <;> intro hb <;> try exact cls))) | ((with_reducible refine isRet ?_); first | (refine ret_pick [] rfl rfl rfl ⟨⟨_, rfl⟩, rfl⟩)) | refine sP ?_ | (refine sE ?_; intro x hx) | (refine sF ?_; intro i y hi hy) | (refine sI ?_; intro i hi) | (refine sL ?_; intro hlen) | (refine sQ ?_; intro c hc hcm; try simp only [lnM, lnA, lnC, lnN] at hc) | (refine sX ?_; intro i1 i2 hi1 hi2 hj1 hj2; try simp only [cutL, lnM, lnA, lnC, lnN, lnT, lnD, lnR] at hi1 hi2 hj2) | refine sD ?_ | (refine ret_pick [] rfl rfl rfl ⟨?_, rfl⟩; conv => lhs; whnf) | (refine ret_pick [0] rfl rfl rfl ⟨rfl, ?_⟩) | (refine sH ?_; clear hn he hr Q')))
theorem c_r8At (code : List UInt8) (k : Nat) (n : Int) (hn : 1 ≤ n ∧ n ≤ 65536) (hk : k ≤ 1000) : FnC Tryz.prog 30 G0 0 [] [.sl 1 (code.map byteE), .int .i64 k, .int .i64 n] (fun d os => (∃ z, d = .int .i64 z ∧ 0 ≤ z ∧ z < n) ∧ os = []) := by
  refine fn_rule Tryz.func30 rfl (by decide +kernel) rfl (fun w0 F0 lent β0 => ?_)
  repeat' (first | refine sC ?_ | ((with_reducible refine isAwp ?_); first | (refine sS ?_; intro Q' hn he hr) | refine sA ?_) | (refine sH ?_; clear hn he hr Q') | refine sO ?_ | ((conv => whnf); first | refine sK ?_ | (refine sB ?_; repeat' (first | refine sb0 ?_ | (refine sb2 ?_ ?_ <;> intro hb <;> try exact cls))) | (refine AskS.mk ⟨by omega, ?_⟩) | (refine ArithS.in64 (by have h77 := x.toNat_lt; omega) ?_) | ((with_reducible refine isRet ?_); first | (refine ret_pick [] rfl rfl rfl ⟨⟨_, rfl, ?_, ?_⟩, rfl⟩)) | refine sP ?_ | (refine sE ?_; intro x hx) | (refine sF ?_; intro i y hi hy) | (refine sI ?_; intro i hi) | (refine sL ?_; intro hlen) | (refine sQ ?_; intro c hc hcm; try simp only [lnM, lnA, lnC, lnN] at hc) | (refine sX ?_; intro i1 i2 hi1 hi2 hj1 hj2; try simp only [cutL, lnM, lnA, lnC, lnN, lnT, lnD, lnR] at hi1 hi2 hj2) | refine sD ?_ | (refine ret_pick [] rfl rfl rfl ⟨?_, rfl⟩; conv => lhs; whnf) | (refine ret_pick [0] rfl rfl rfl ⟨rfl, ?_⟩) | (refine sH ?_; clear hn he hr Q')))
  all_goals first
    | omega
    | (exact Int.tmod_nonneg _ (by omega))
    | (exact Int.tmod_lt_of_pos _ (by omega))
    | trace_state
theorem c_r8Wide (code : List UInt8) (k : Nat) (n : Int) (hn : 1 ≤ n ∧ n ≤ 1048576) (hk : k ≤ 100) : FnC Tryz.prog 29 G0 0 [] [.sl 1 (code.map byteE), .int .i64 k, .int .i64 n] (fun d os => (∃ z, d = .int .i64 z ∧ 0 ≤ z ∧ z < n) ∧ os = []) := by
  refine fn_rule Tryz.func29 rfl (by decide +kernel) rfl (fun w0 F0 lent β0 => ?_)
  repeat' (first | refine sC ?_ | ((with_reducible refine isAwp ?_); first | (refine sS ?_; intro Q' hn he hr) | refine sA ?_) | (refine sH ?_; clear hn he hr Q') | refine sO ?_ | ((conv => whnf); first | refine sK ?_ | (refine sB ?_; repeat' (first | refine sb0 ?_ | (refine sb2 ?_ ?_ <;> intro hb <;> try exact cls))) | (refine AskS.mk ⟨by omega, ?_⟩) | ((with_reducible refine isCall ?_); first | (refine call_some (c_r8At code k 256 (by omega) (by omega)) rfl ?_; rintro d ⟨z, rfl, hz1, hz2⟩; refine ⟨rfl, ?_⟩) | (refine call_some (c_r8At code (k + 1) 256 (by omega) (by omega)) rfl ?_; rintro d ⟨y, rfl, hy1, hy2⟩; refine ⟨rfl, ?_⟩)) | ((with_reducible refine isRet ?_); first | (refine ret_pick [] rfl rfl rfl ⟨⟨_, rfl, ?_, ?_⟩, rfl⟩)) | refine sP ?_ | (refine sE ?_; intro x hx) | (refine sF ?_; intro i y hi hy) | (refine sI ?_; intro i hi) | (refine sL ?_; intro hlen) | (refine sQ ?_; intro c hc hcm; try simp only [lnM, lnA, lnC, lnN] at hc) | (refine sX ?_; intro i1 i2 hi1 hi2 hj1 hj2; try simp only [cutL, lnM, lnA, lnC, lnN, lnT, lnD, lnR] at hi1 hi2 hj2) | refine sD ?_ | (refine ret_pick [] rfl rfl rfl ⟨?_, rfl⟩; conv => lhs; whnf) | (refine ret_pick [0] rfl rfl rfl ⟨rfl, ?_⟩) | (refine sH ?_; clear hn he hr Q')))
  all_goals first
    | omega
    | (exact Int.tmod_nonneg _ (by omega))
    | (exact Int.tmod_lt_of_pos _ (by omega))
    | trace_state
theorem eqd_Block (a b : TBlock) : EqD Tryz.prog 105 (encBlock a) (encBlock b) (eqTBlock a b) := by
  have h : EqD Tryz.prog 105 (encBlock a) (encBlock b) ((a.fKind == b.fKind) && ((a.fName == b.fName) && ((a.fText == b.fText) && true))) := EqD.flat _ rfl (by decide +kernel) (by decide +kernel) (by rfl)
  simpa [eqTBlock, eqI, eqStr, eqBo] using h
theorem c_spec_l29Same (a b : List (TBlock)) : FnC Tryz.prog 72 G0 0 [] [.sl 3 (a.map encBlock), .sl 3 (b.map encBlock)] (fun d os => d = .bool (eqL eqTBlock a b) ∧ os = []) := by
  refine fn_rule Tryz.func72 rfl (by decide +kernel) rfl (fun w0 F0 lent β0 => ?_)
  repeat' (first | refine sC ?_ | ((with_reducible refine isAwp ?_); first | (refine sS ?_; intro Q' hn he hr) | refine sA ?_) | (refine sH ?_; clear hn he hr Q') | refine sO ?_ | ((conv => whnf); first | refine sK ?_ | (refine sB ?_; repeat' (first | refine sb0 ?_ | (refine sb2 ?_ ?_ <;> intro hb <;> try exact cls))) | refine sP ?_ | (refine sE ?_; intro x hx) | (refine sF ?_; intro i y hi hy) | (refine sI ?_; intro i hi) | (refine sL ?_; intro hlen) | (refine sQ ?_; intro c hc hcm; try simp only [lnM, lnA, lnC, lnN] at hc) | (refine sX ?_; intro i1 i2 hi1 hi2 hj1 hj2; try simp only [cutL, lnM, lnA, lnC, lnN, lnT, lnD, lnR] at hi1 hi2 hj2) | refine sD ?_ | (refine ret_pick [] rfl rfl rfl ⟨?_, rfl⟩; conv => lhs; whnf) | (refine ret_pick [0] rfl rfl rfl ⟨rfl, ?_⟩) | (refine sH ?_; clear hn he hr Q')))
  · rw [eqL_len hb]
  · refine loop_env (fun k : Nat => [(0,.sl 3 (a.map encBlock)),(1,.sl 3 (b.map encBlock)),(5,.int .i64 k)]) (fun _ => []) (fun k => k ≤ a.length ∧ eqTo eqTBlock a b k) (fun k => a.length - k) 0 ⟨by omega, eqTo_zero⟩ (by refine weak_to rfl rfl rfl ?_; ((repeat' (first | exact trivial | refine And.intro ?_ ?_)) <;> (first | rfl | (conv => rhs; whnf) <;> (first | rfl | (refine congrArg (D.int _) ?_; omega))))) (fun k hk Q' hn he hr => ?_)
    repeat' (first | refine sC ?_ | ((with_reducible refine isAwp ?_); first | (refine sS ?_; intro Q' hn he hr) | refine sA ?_) | (refine sH ?_; clear hn he hr Q') | refine sO ?_ | ((conv => whnf); first | refine sK ?_ | (refine sB ?_; repeat' (first | refine sb0 ?_ | (refine sb2 ?_ ?_ <;> intro hb <;> try exact cls))) | (refine EqS.mk (eqd_Block _ _) ?_) | refine sP ?_ | (refine sE ?_; intro x hx) | (refine sF ?_; intro i y hi hy) | (refine sI ?_; intro i hi) | (refine sL ?_; intro hlen) | (refine sQ ?_; intro c hc hcm; try simp only [lnM, lnA, lnC, lnN] at hc) | (refine sX ?_; intro i1 i2 hi1 hi2 hj1 hj2; try simp only [cutL, lnM, lnA, lnC, lnN, lnT, lnD, lnR] at hi1 hi2 hj2) | refine sD ?_ | (refine ret_pick [] rfl rfl rfl ⟨?_, rfl⟩; conv => lhs; whnf) | (refine ret_pick [0] rfl rfl rfl ⟨rfl, ?_⟩) | (refine sH ?_; clear hn he hr Q')))
    · rw [eqL_at ‹a[k]? = some _› ‹b[k]? = some _› hb]
    · exact ⟨k + 1, ⟨by omega, eqTo_succ hk.2 ‹a[k]? = some _› ‹b[k]? = some _› hb⟩, by omega, (by refine weak_to rfl rfl rfl ?_; ((repeat' (first | exact trivial | refine And.intro ?_ ?_)) <;> (first | rfl | (conv => rhs; whnf) <;> (first | rfl | (refine congrArg (D.int _) ?_; omega)))))⟩
    · rw [eqL_all (by omega) (fun j x y h => hk.2 j x y (by omega))]
theorem c_spec_SameBlocks_eq (a : List TBlock) : FnC Tryz.prog 27 G0 0 [] [.sl 3 (a.map encBlock), .sl 3 (a.map encBlock)] (fun d os => d = .bool true ∧ os = []) := by
  have h := c_spec_l29Same a a
  rw [eqL_refl eqTBlock_refl] at h
  refine fn_rule Tryz.func27 rfl (by decide +kernel) rfl (fun w0 F0 lent β0 => ?_)
  repeat' (first | refine sC ?_ | ((with_reducible refine isAwp ?_); first | (refine sS ?_; intro Q' hn he hr) | refine sA ?_) | (refine sH ?_; clear hn he hr Q') | refine sO ?_ | ((conv => whnf); first | refine sK ?_ | (refine sB ?_; repeat' (first | refine sb0 ?_ | (refine sb2 ?_ ?_ <;> intro hb <;> try exact cls))) | ((with_reducible refine isCall ?_); first | (refine call_look (h) rfl ?_)) | ((with_reducible refine isCallQ ?_); first | (refine callQ_look (h) rfl ?_)) | refine sP ?_ | (refine sE ?_; intro x hx) | (refine sF ?_; intro i y hi hy) | (refine sI ?_; intro i hi) | (refine sL ?_; intro hlen) | (refine sQ ?_; intro c hc hcm; try simp only [lnM, lnA, lnC, lnN] at hc) | (refine sX ?_; intro i1 i2 hi1 hi2 hj1 hj2; try simp only [cutL, lnM, lnA, lnC, lnN, lnT, lnD, lnR] at hi1 hi2 hj2) | refine sD ?_ | (refine ret_pick [] rfl rfl rfl ⟨?_, rfl⟩; conv => lhs; whnf) | (refine ret_pick [0] rfl rfl rfl ⟨rfl, ?_⟩) | (refine sH ?_; clear hn he hr Q')))
end Go.Eng
