/-
  One block put, two lists of blocks merged.
  No conditions.
-/
import Derived.Test.YtpleljnhaoejdaaDoorED
import Derived.Test.YtpleljnhaoejdaaDoorB7
set_option linter.unusedVariables false
set_option linter.unusedSimpArgs false
set_option maxHeartbeats 4000000
namespace Go.Eng
open Go Go.RowKit Go.Proofs
set_option maxRecDepth 100000
theorem insB_length (a : List TBlock) (t : TBlock) : (insB a t).length = if insF ltBlk eqkB a t = true then a.length else a.length + 1 := by
  have h1 : insAt ltBlk a t ≤ a.length := blkAt_le a t
  unfold insB insL insN
  cases h : insF ltBlk eqkB a t with
  | true =>
    have h2 : insAt ltBlk a t < a.length := any_lt h
    simp only [if_true, List.length_append, List.length_cons, List.length_take, List.length_drop]; omega
  | false => simp only [Bool.false_eq_true, if_false, List.length_append, List.length_cons, List.length_take, List.length_drop]; omega
theorem roomB_iff {a : List TBlock} (h : a.length ≤ 32) (t : TBlock) : roomB a t = decide ((insB a t).length ≤ 32) := by
  rw [insB_length]
  unfold roomB
  cases insF ltBlk eqkB a t with
  | true => simp [h]
  | false => simp; omega
theorem insB_ge (a : List TBlock) (t : TBlock) : a.length ≤ (insB a t).length := by
  rw [insB_length]; split <;> omega
/-- The second list's blocks put into the first, one after the other. -/
def mrgB (a b : List TBlock) : List TBlock := b.foldl insB a
theorem mrgB_chain {a b : List TBlock} (h : chain ltBlk a = true) : chain ltBlk (mrgB a b) = true := by
  unfold mrgB
  induction b generalizing a with
  | nil => exact h
  | cons x r ih => exact ih (insB_chain h x)
theorem mrgB_ge (a b : List TBlock) : a.length ≤ (mrgB a b).length := by
  unfold mrgB
  induction b generalizing a with
  | nil => exact Nat.le_refl _
  | cons x r ih => exact Nat.le_trans (insB_ge a x) (ih _)
theorem mrgB_le (a b : List TBlock) : (mrgB a b).length ≤ a.length + b.length := by
  unfold mrgB
  induction b generalizing a with
  | nil => exact Nat.le_refl _
  | cons x r ih =>
    have h1 := ih (insB a x)
    have h2 := insB_length a x
    rw [List.foldl_cons, List.length_cons]
    split at h2 <;> omega
theorem mrgB_step {a b : List TBlock} {k : Nat} {x : TBlock} (h : b[k]? = some x) : mrgB a (b.take (k + 1)) = insB (mrgB a (b.take k)) x := by
  unfold mrgB
  rw [List.take_add_one, h, List.foldl_append]; rfl
theorem mrgB_mono {a b : List TBlock} (k : Nat) : (mrgB a (b.take k)).length ≤ (mrgB a b).length := by
  have h := mrgB_ge (mrgB a (b.take k)) (b.drop k)
  unfold mrgB at *
  rwa [← List.foldl_append, List.take_append_drop] at h
theorem validBs_len {a : List TBlock} (h : validBs a = true) : a.length ≤ 32 := by
  simp only [validBs, Bool.and_eq_true, decide_eq_true_eq] at h
  exact h.1
set_option maxHeartbeats 4000000 in
theorem c_spec_PutBlock_bad1 (a : List TBlock) (t : TBlock) (hv : validBs a = false) : FnC Tryd.prog 130 G0 0 [] [.sl 3 (a.map encBlock), .agg (encBlock t)] (fun d os => d = .tup [.sl 3 [], .int .i64 1] ∧ os = []) := by
  refine fn_rule Tryd.func130 rfl (by decide +kernel) rfl (fun w0 F0 lent β0 => ?_)
  repeat' (first | refine sC ?_ | ((with_reducible refine isAwp ?_); first | (refine sS ?_; intro Q' hn he hr) | refine sA ?_) | (refine sH ?_; clear hn he hr Q') | refine sO ?_ | ((conv => whnf); first | refine sK ?_ | (refine sB ?_; repeat' (first | refine sb0 ?_ | (refine sb2 ?_ ?_ <;> intro hb <;> try exact cls))) | ((with_reducible refine isCall ?_); first | (refine call_pure (c_spec_l29Ok _) rfl rfl ?_) | (refine call_look (c_spec_l29One _) rfl ?_)) | ((with_reducible refine isCallQ ?_); first | (refine callQ_pure (c_spec_l29Ok _) rfl rfl ?_) | (refine callQ_look (c_spec_l29One _) rfl ?_)) | ((with_reducible refine isRet ?_); first | (refine ret_nil 3 ?_; refine ret_pick [] rfl rfl rfl ⟨?_, rfl⟩)) | refine sP ?_ | (refine sE ?_; intro x hx) | (refine sF ?_; intro i y hi hy) | (refine sI ?_; intro i hi) | (refine sL ?_; intro hlen) | (refine sQ ?_; intro c hc hcm; try simp only [lnM, lnA, lnC, lnN] at hc) | (refine sX ?_; intro i1 i2 hi1 hi2 hj1 hj2; try simp only [cutL, lnM, lnA, lnC, lnN, lnT, lnD, lnR] at hi1 hi2 hj2) | refine sD ?_ | (refine ret_pick [] rfl rfl rfl ⟨?_, rfl⟩; conv => lhs; whnf) | (refine ret_pick [0] rfl rfl rfl ⟨rfl, ?_⟩) | (refine sH ?_; clear hn he hr Q')))
  rfl
set_option maxHeartbeats 4000000 in
theorem c_spec_PutBlock_bad2 (a : List TBlock) (t : TBlock) (hv : validBs a = true) (hv2 : validB t = false) : FnC Tryd.prog 130 G0 0 [] [.sl 3 (a.map encBlock), .agg (encBlock t)] (fun d os => d = .tup [.sl 3 [], .int .i64 1] ∧ os = []) := by
  refine fn_rule Tryd.func130 rfl (by decide +kernel) rfl (fun w0 F0 lent β0 => ?_)
  repeat' (first | refine sC ?_ | ((with_reducible refine isAwp ?_); first | (refine sS ?_; intro Q' hn he hr) | refine sA ?_) | (refine sH ?_; clear hn he hr Q') | refine sO ?_ | ((conv => whnf); first | refine sK ?_ | (refine sB ?_; repeat' (first | refine sb0 ?_ | (refine sb2 ?_ ?_ <;> intro hb <;> try exact cls))) | ((with_reducible refine isCall ?_); first | (refine call_pure (c_spec_l29Ok _) rfl rfl ?_) | (refine call_look (c_spec_l29One _) rfl ?_)) | ((with_reducible refine isCallQ ?_); first | (refine callQ_pure (c_spec_l29Ok _) rfl rfl ?_) | (refine callQ_look (c_spec_l29One _) rfl ?_)) | ((with_reducible refine isRet ?_); first | (refine ret_nil 3 ?_; refine ret_pick [] rfl rfl rfl ⟨?_, rfl⟩)) | refine sP ?_ | (refine sE ?_; intro x hx) | (refine sF ?_; intro i y hi hy) | (refine sI ?_; intro i hi) | (refine sL ?_; intro hlen) | (refine sQ ?_; intro c hc hcm; try simp only [lnM, lnA, lnC, lnN] at hc) | (refine sX ?_; intro i1 i2 hi1 hi2 hj1 hj2; try simp only [cutL, lnM, lnA, lnC, lnN, lnT, lnD, lnR] at hi1 hi2 hj2) | refine sD ?_ | (refine ret_pick [] rfl rfl rfl ⟨?_, rfl⟩; conv => lhs; whnf) | (refine ret_pick [0] rfl rfl rfl ⟨rfl, ?_⟩) | (refine sH ?_; clear hn he hr Q')))
  rfl
set_option maxHeartbeats 4000000 in
theorem c_spec_PutBlock_full (a : List TBlock) (t : TBlock) (hv : validBs a = true) (hv2 : validB t = true) (h : ¬ (insB a t).length ≤ 32) : FnC Tryd.prog 130 G0 0 [] [.sl 3 (a.map encBlock), .agg (encBlock t)] (fun d os => d = .tup [.sl 3 [], .int .i64 5] ∧ os = []) := by
  have hle := validBs_len hv
  refine fn_rule Tryd.func130 rfl (by decide +kernel) rfl (fun w0 F0 lent β0 => ?_)
  repeat' (first | refine sC ?_ | ((with_reducible refine isAwp ?_); first | (refine sS ?_; intro Q' hn he hr) | refine sA ?_) | (refine sH ?_; clear hn he hr Q') | refine sO ?_ | ((conv => whnf); first | refine sK ?_ | (refine sB ?_; repeat' (first | refine sb0 ?_ | (refine sb2 ?_ ?_ <;> intro hb <;> try exact cls))) | ((with_reducible refine isCall ?_); first | (refine call_pure (c_spec_l29Ok _) rfl rfl ?_) | (refine call_look (c_spec_l29One _) rfl ?_) | (refine call_mk_look (c_spec_l29Put a t (validBs_chain hv) (by omega)) rfl (flat_one (FlatO.map fun _ => rfl)) (by first | exact (rfl : _ = 0) | exact (rfl : _ = 1) | exact (rfl : _ = 2) | exact (rfl : _ = 3) | exact (rfl : _ = 4) | exact (rfl : _ = 5) | exact (rfl : _ = 6) | exact (rfl : _ = 7) | exact (rfl : _ = 8) | exact (rfl : _ = 9) | exact (rfl : _ = 10) | exact (rfl : _ = 11) | exact (rfl : _ = 12) | exact (rfl : _ = 13) | exact (rfl : _ = 14) | exact (rfl : _ = 15) | exact (rfl : _ = 16) | exact (rfl : _ = 17) | exact (rfl : _ = 18) | exact (rfl : _ = 19) | exact (rfl : _ = 20) | exact (rfl : _ = 21) | exact (rfl : _ = 22) | exact (rfl : _ = 23) | exact (rfl : _ = 24) | exact (rfl : _ = 25) | exact (rfl : _ = 26) | exact (rfl : _ = 27) | exact (rfl : _ = 28) | exact (rfl : _ = 29) | exact (rfl : _ = 30) | exact (rfl : _ = 31) | exact (rfl : _ = 32) | exact (rfl : _ = 33) | exact (rfl : _ = 34) | exact (rfl : _ = 35) | exact (rfl : _ = 36) | exact (rfl : _ = 37) | exact (rfl : _ = 38) | exact (rfl : _ = 39)) ?_)) | ((with_reducible refine isCallQ ?_); first | (refine callQ_pure (c_spec_l29Ok _) rfl rfl ?_) | (refine callQ_look (c_spec_l29One _) rfl ?_)) | ((with_reducible refine isRet ?_); first | (refine ret_nil 3 ?_; refine ret_pick [] rfl rfl rfl ⟨?_, rfl⟩)) | refine sP ?_ | (refine sE ?_; intro x hx) | (refine sF ?_; intro i y hi hy) | (refine sI ?_; intro i hi) | (refine sL ?_; intro hlen) | (refine sQ ?_; intro c hc hcm; try simp only [lnM, lnA, lnC, lnN] at hc) | (refine sX ?_; intro i1 i2 hi1 hi2 hj1 hj2; try simp only [cutL, lnM, lnA, lnC, lnN, lnT, lnD, lnR] at hi1 hi2 hj2) | refine sD ?_ | (refine ret_pick [] rfl rfl rfl ⟨?_, rfl⟩; conv => lhs; whnf) | (refine ret_pick [0] rfl rfl rfl ⟨rfl, ?_⟩) | (refine sH ?_; clear hn he hr Q')))
  all_goals first | rfl | (exfalso; omega)
set_option maxHeartbeats 4000000 in
theorem c_spec_PutBlock_ok (a : List TBlock) (t : TBlock) (hv : validBs a = true) (hv2 : validB t = true) (h : (insB a t).length ≤ 32) : FnC Tryd.prog 130 G0 0 [] [.sl 3 (a.map encBlock), .agg (encBlock t)] (fun d os => d = .tup [.h 0, .int .i64 0] ∧ os = [.row 78 3 ((insB a t).map encBlock)]) := by
  have hle := validBs_len hv
  refine fn_rule Tryd.func130 rfl (by decide +kernel) rfl (fun w0 F0 lent β0 => ?_)
  repeat' (first | refine sC ?_ | ((with_reducible refine isAwp ?_); first | (refine sS ?_; intro Q' hn he hr) | refine sA ?_) | (refine sH ?_; clear hn he hr Q') | refine sO ?_ | ((conv => whnf); first | refine sK ?_ | (refine sB ?_; repeat' (first | refine sb0 ?_ | (refine sb2 ?_ ?_ <;> intro hb <;> try exact cls))) | ((with_reducible refine isCall ?_); first | (refine call_pure (c_spec_l29Ok _) rfl rfl ?_) | (refine call_look (c_spec_l29One _) rfl ?_) | (refine call_mk_look (c_spec_l29Put a t (validBs_chain hv) (by omega)) rfl (flat_one (FlatO.map fun _ => rfl)) (by first | exact (rfl : _ = 0) | exact (rfl : _ = 1) | exact (rfl : _ = 2) | exact (rfl : _ = 3) | exact (rfl : _ = 4) | exact (rfl : _ = 5) | exact (rfl : _ = 6) | exact (rfl : _ = 7) | exact (rfl : _ = 8) | exact (rfl : _ = 9) | exact (rfl : _ = 10) | exact (rfl : _ = 11) | exact (rfl : _ = 12) | exact (rfl : _ = 13) | exact (rfl : _ = 14) | exact (rfl : _ = 15) | exact (rfl : _ = 16) | exact (rfl : _ = 17) | exact (rfl : _ = 18) | exact (rfl : _ = 19) | exact (rfl : _ = 20) | exact (rfl : _ = 21) | exact (rfl : _ = 22) | exact (rfl : _ = 23) | exact (rfl : _ = 24) | exact (rfl : _ = 25) | exact (rfl : _ = 26) | exact (rfl : _ = 27) | exact (rfl : _ = 28) | exact (rfl : _ = 29) | exact (rfl : _ = 30) | exact (rfl : _ = 31) | exact (rfl : _ = 32) | exact (rfl : _ = 33) | exact (rfl : _ = 34) | exact (rfl : _ = 35) | exact (rfl : _ = 36) | exact (rfl : _ = 37) | exact (rfl : _ = 38) | exact (rfl : _ = 39)) ?_)) | ((with_reducible refine isCallQ ?_); first | (refine callQ_pure (c_spec_l29Ok _) rfl rfl ?_) | (refine callQ_look (c_spec_l29One _) rfl ?_)) | ((with_reducible refine isRet ?_); first | (refine ret_pick [1] rfl rfl rfl ⟨rfl, ?_⟩)) | refine sP ?_ | (refine sE ?_; intro x hx) | (refine sF ?_; intro i y hi hy) | (refine sI ?_; intro i hi) | (refine sL ?_; intro hlen) | (refine sQ ?_; intro c hc hcm; try simp only [lnM, lnA, lnC, lnN] at hc) | (refine sX ?_; intro i1 i2 hi1 hi2 hj1 hj2; try simp only [cutL, lnM, lnA, lnC, lnN, lnT, lnD, lnR] at hi1 hi2 hj2) | refine sD ?_ | (refine ret_pick [] rfl rfl rfl ⟨?_, rfl⟩; conv => lhs; whnf) | (refine ret_pick [0] rfl rfl rfl ⟨rfl, ?_⟩) | (refine sH ?_; clear hn he hr Q')))
  all_goals first | rfl | (exfalso; omega) | (rw [← hp]; rfl) | skip
end Go.Eng
