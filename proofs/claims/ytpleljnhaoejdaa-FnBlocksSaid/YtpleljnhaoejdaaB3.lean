/-
  The names of the blocks of a kind.
  No conditions.
-/
import Derived.Test.YtpleljnhaoejdaaED
import Derived.Test.YtpleljnhaoejdaaEC
import Derived.Test.YtpleljnhaoejdaaB1
set_option linter.unusedVariables false
set_option linter.unusedSimpArgs false
set_option maxHeartbeats 4000000
namespace Go.Eng
open Go Go.RowKit Go.Proofs
set_option maxRecDepth 100000
/-- The names of the blocks of a kind. -/
def kindBs (kd : List UInt8) (a : List TBlock) : List (List UInt8) := (a.filter fun b => b.fKind == kd).map (·.fName)
theorem kindBs_succ {kd : List UInt8} {a : List TBlock} {k : Nat} {x : TBlock} (hx : a[k]? = some x) : kindBs kd (a.take (k + 1)) = kindBs kd (a.take k) ++ (if x.fKind = kd then [x.fName] else []) := by
  rw [List.take_add_one, hx]
  by_cases h : x.fKind = kd <;> simp [kindBs, h]
theorem kindBs_len (kd : List UInt8) (a : List TBlock) : (kindBs kd a).length ≤ a.length := by
  simp only [kindBs, List.length_map]
  exact List.length_filter_le _ _
theorem c_impl_BlocksOfKind_bad (a : List TBlock) (kd : List UInt8) (hv : validBs a = false) : FnC Try.prog 10 G0 0 [] [.sl 3 (a.map encBlock), .str kd] (fun d os => d = .tup [.sl 1 [], .int .i64 1] ∧ os = []) := by
  refine fn_rule Try.func10 rfl (by decide +kernel) rfl (fun w0 F0 lent β0 => ?_)
  repeat' (first | refine sC ?_ | ((with_reducible refine isAwp ?_); first | (refine sS ?_; intro Q' hn he hr) | refine sA ?_) | (refine sH ?_; clear hn he hr Q') | refine sO ?_ | ((conv => whnf); first | refine sK ?_ | (refine sB ?_; repeat' (first | refine sb0 ?_ | (refine sb2 ?_ ?_ <;> intro hb <;> try exact cls))) | ((with_reducible refine isCall ?_); first | (refine call_pure (c_impl_ValidBlocks _) rfl rfl ?_)) | ((with_reducible refine isCallQ ?_); first | (refine callQ_pure (c_impl_ValidBlocks _) rfl rfl ?_)) | ((with_reducible refine isRet ?_); first | (refine ret_nil 1 ?_; refine ret_pick [] rfl rfl rfl ⟨?_, rfl⟩)) | refine sP ?_ | (refine sE ?_; intro x hx) | (refine sF ?_; intro i y hi hy) | (refine sI ?_; intro i hi) | (refine sL ?_; intro hlen) | (refine sQ ?_; intro c hc hcm; try simp only [lnM, lnA, lnC, lnN] at hc) | (refine sX ?_; intro i1 i2 hi1 hi2 hj1 hj2; try simp only [cutL, lnM, lnA, lnC, lnN, lnT, lnD, lnR] at hi1 hi2 hj2) | refine sD ?_ | (refine ret_pick [] rfl rfl rfl ⟨?_, rfl⟩; conv => lhs; whnf) | (refine ret_pick [0] rfl rfl rfl ⟨rfl, ?_⟩) | (refine sH ?_; clear hn he hr Q')))
  rfl
theorem c_impl_BlocksOfKind_ok (a : List TBlock) (kd : List UInt8) (hv : validBs a = true) (hl : a.length ≤ 1048576) : FnC Try.prog 10 G0 0 [] [.sl 3 (a.map encBlock), .str kd] (fun d os => d = .tup [.h 0, .int .i64 0] ∧ os = [.row 9 1 ((kindBs kd a).map encS)]) := by
  refine fn_rule Try.func10 rfl (by decide +kernel) rfl (fun w0 F0 lent β0 => ?_)
  repeat' (first | refine sC ?_ | ((with_reducible refine isAwp ?_); first | (refine sS ?_; intro Q' hn he hr) | refine sA ?_) | (refine sH ?_; clear hn he hr Q') | refine sO ?_ | ((conv => whnf); first | refine sK ?_ | (refine sB ?_; repeat' (first | refine sb0 ?_ | (refine sb2 ?_ ?_ <;> intro hb <;> try exact cls))) | ((with_reducible refine isCall ?_); first | (refine call_pure (c_impl_ValidBlocks _) rfl rfl ?_)) | ((with_reducible refine isCallQ ?_); first | (refine callQ_pure (c_impl_ValidBlocks _) rfl rfl ?_)) | ((with_reducible refine isRet ?_); first | (refine ret_nil 1 ?_; refine ret_pick [] rfl rfl rfl ⟨?_, rfl⟩)) | refine sP ?_ | (refine sE ?_; intro x hx) | (refine sF ?_; intro i y hi hy) | (refine sI ?_; intro i hi) | (refine sL ?_; intro hlen) | (refine sQ ?_; intro c hc hcm; try simp only [lnM, lnA, lnC, lnN] at hc) | (refine sX ?_; intro i1 i2 hi1 hi2 hj1 hj2; try simp only [cutL, lnM, lnA, lnC, lnN, lnT, lnD, lnR] at hi1 hi2 hj2) | refine sD ?_ | (refine ret_pick [] rfl rfl rfl ⟨?_, rfl⟩; conv => lhs; whnf) | (refine ret_pick [0] rfl rfl rfl ⟨rfl, ?_⟩) | (refine sH ?_; clear hn he hr Q')))
  refine loop_env (fun k : Nat => [(0,.sl 3 (a.map encBlock)),(1,.str kd),(12,.sl 3 (a.map encBlock)),(13,.int .i64 a.length),(6,.h 0),(14,.int .i64 k)]) (fun k => [.row 9 1 ((kindBs kd (a.take k)).map encS)]) (fun k => k ≤ a.length) (fun k => a.length - k) 0 (by omega) (by refine Weak.trans (weak_adopt 6 9 1 rfl rfl) (weak_to rfl rfl rfl ?_); exact ⟨rfl, rfl, rfl, rfl, rfl, rfl, trivial⟩) (fun k hk Q' hn he hr => ?_)
  have h8 := kindBs_len kd (a.take k)
  rw [List.length_take] at h8
  repeat' (first | refine sC ?_ | ((with_reducible refine isAwp ?_); first | (refine sS ?_; intro Q' hn he hr) | refine sA ?_) | (refine sH ?_; clear hn he hr Q') | refine sO ?_ | ((conv => whnf); first | refine sK ?_ | (refine sB ?_; repeat' (first | refine sb0 ?_ | (refine sb2 ?_ ?_ <;> intro hb <;> try exact cls))) | refine sP ?_ | (refine sE ?_; intro x hx) | (refine sF ?_; intro i y hi hy) | (refine sI ?_; intro i hi) | (refine sL ?_; intro hlen) | (refine sQ ?_; intro c hc hcm; try simp only [lnM, lnA, lnC, lnN] at hc) | (refine sX ?_; intro i1 i2 hi1 hi2 hj1 hj2; try simp only [cutL, lnM, lnA, lnC, lnN, lnT, lnD, lnR] at hi1 hi2 hj2) | refine sD ?_ | (refine ret_pick [] rfl rfl rfl ⟨?_, rfl⟩; conv => lhs; whnf) | (refine ret_pick [0] rfl rfl rfl ⟨rfl, ?_⟩) | (refine sH ?_; clear hn he hr Q')))
  · exact ⟨k + 1, by omega, by omega, (by refine weak_to rfl rfl (by rw [kindBs_succ hx, if_pos hb, List.map_append]; rfl) ?_; ((repeat' (first | exact trivial | refine And.intro ?_ ?_)) <;> (first | rfl | (conv => rhs; whnf) <;> (first | rfl | (refine congrArg (D.int _) ?_; omega)))))⟩
  · exact ⟨k + 1, by omega, by omega, (by refine weak_to rfl rfl (by rw [kindBs_succ hx, if_neg hb, List.append_nil]; rfl) ?_; ((repeat' (first | exact trivial | refine And.intro ?_ ?_)) <;> (first | rfl | (conv => rhs; whnf) <;> (first | rfl | (refine congrArg (D.int _) ?_; omega)))))⟩
  · have h9 : a.take k = a := List.take_of_length_le (by omega)
    rw [h9]
    rfl
end Go.Eng
