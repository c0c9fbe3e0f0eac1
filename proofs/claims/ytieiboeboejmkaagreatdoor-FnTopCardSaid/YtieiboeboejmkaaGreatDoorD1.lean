/-
  Numbers in decimal: what the program's and the reference's functions hand back.
  No conditions.
-/
import Derived.Test.YtieiboeboejmkaaGreatDoorED
import Derived.Test.YtieiboeboejmkaaGreatDoorEC
import Derived.Test.YtieiboeboejmkaaGreatDoorShelf
import Derived.Lib.ItoaLen
import Derived.Test.YtieiboeboejmkaaGreatDoorProg
set_option linter.unusedVariables false
set_option linter.unusedSimpArgs false
set_option maxHeartbeats 4000000
namespace Go.Eng
open Go Go.RowKit Go.Proofs
set_option maxRecDepth 100000
/-- The table of powers of ten. -/
def GP : Nat → Option (List D) := G1 3 (Lib.pow10Tab.map fun z => .int .u64 z)
theorem c_internal_FormatInt (n : Int) (h : -9223372036854775808 ≤ n ∧ n ≤ 9223372036854775807) : FnC Tryz.prog 280 GP 0 [] [.int .i64 n, .int .i64 10] (fun d os => d = .str (Lib.itoa n) ∧ os = []) := by
  refine FnC.of_calls (callFunc_enter Tryz.func280 rfl (by decide +kernel)) fun w F vs hF hl hr hG => ?_
  have h0 : vs.getD 0 undef = .int .i64 n := (Rep.ro (β := fun _ => none) _ _ (hr 0 (Nat.lt_of_sub_eq_succ rfl))).int_inv
  have h1 : vs.getD 1 undef = .int .i64 10 := (Rep.ro (β := fun _ => none) _ _ (hr 1 (Nat.lt_of_sub_eq_succ rfl))).int_inv
  have e : vs.toArray = #[.int .i64 n, .int .i64 10] := by rw [list2 hl, h0, h1]
  rw [e]
  refine (Tryz.internal_strconv_FormatInt_10 n h.1 h.2 w (tabIs_of (g := 3) (by kernel_rfl) (hG _ _ rfl))).mono ?_
  rintro e w' ⟨rfl, k, os, rfl⟩
  exact ⟨_, rfl, grown_grow _ _ _, .str _ (by have := Lib.itoa_length_le n h.1 h.2; simp only [maxLen]; omega)⟩
theorem c_strconv_FormatInt (n : Int) (h : -9223372036854775808 ≤ n ∧ n ≤ 9223372036854775807) : FnC Tryz.prog 239 GP 0 [] [.int .i64 n, .int .i64 10] (fun d os => d = .str (Lib.itoa n) ∧ os = []) := by
  refine fn_rule Tryz.func239 rfl (by decide +kernel) rfl (fun w0 F0 lent β0 => ?_)
  repeat' (first | refine sC ?_ | ((with_reducible refine isAwp ?_); first | (refine sS ?_; intro Q' hn he hr) | refine sA ?_) | (refine sH ?_; clear hn he hr Q') | ((conv => whnf); first | refine sK ?_ | ((with_reducible refine isCall ?_); (refine call_pure (c_internal_FormatInt n h) rfl rfl ?_)) | (refine ret_pick [] rfl rfl rfl ⟨?_, rfl⟩; conv => lhs; whnf)))
theorem c_impl_Decimal (n : Int) (h : -9223372036854775808 ≤ n ∧ n ≤ 9223372036854775807) : FnC Tryz.prog 150 GP 0 [] [.int .i64 n] (fun d os => d = .str (Lib.itoa n) ∧ os = []) := by
  refine fn_rule Tryz.func150 rfl (by decide +kernel) rfl (fun w0 F0 lent β0 => ?_)
  repeat' (first | refine sC ?_ | ((with_reducible refine isAwp ?_); first | (refine sS ?_; intro Q' hn he hr) | refine sA ?_) | (refine sH ?_; clear hn he hr Q') | ((conv => whnf); first | refine sK ?_ | ((with_reducible refine isCall ?_); (refine call_pure (c_strconv_FormatInt n h) rfl rfl ?_)) | (refine ret_pick [] rfl rfl rfl ⟨?_, rfl⟩; conv => lhs; whnf)))
end Go.Eng
