/-
  Small functions of the first chapters.
  No conditions.
-/
import Derived.Test.YtigdnelbanaieaaGreatDoorED
import Derived.Test.YtigdnelbanaieaaGreatDoorEC
import Derived.Test.YtigdnelbanaieaaGreatDoorProg
set_option linter.unusedVariables false
set_option linter.unusedSimpArgs false
set_option maxHeartbeats 4000000
namespace Go.Eng
open Go Go.RowKit Go.Proofs
set_option maxRecDepth 100000
def inB (n l h : Int) : Bool := decide (l ≤ n ∧ n ≤ h)
theorem c_within (n l h : Int) : FnC Tryz.prog 95 G0 0 [] [.int .i64 n, .int .i64 l, .int .i64 h] (fun d os => d = .bool (inB n l h) ∧ os = []) := by
  refine fn_rule Tryz.func95 rfl (by decide +kernel) rfl (fun w0 F0 lent β0 => ?_)
  repeat' (first | refine sC ?_ | ((with_reducible refine isAwp ?_); first | (refine sS ?_; intro Q' hn he hr) | refine sA ?_) | (refine sH ?_; clear hn he hr Q') | ((conv => whnf); first | refine sK ?_ | (refine sB ?_; repeat' (first | refine sb0 ?_ | (refine sb2 ?_ ?_ <;> intro hb <;> try exact cls))) | (refine ret_pick [] rfl rfl rfl ⟨?_, rfl⟩; conv => lhs; whnf)))
  all_goals simp [inB]
  all_goals omega
theorem c_l00In (n l h : Int) : FnC Tryz.prog 68 G0 0 [] [.int .i64 n, .int .i64 l, .int .i64 h] (fun d os => d = .bool (inB n l h) ∧ os = []) := by
  refine fn_rule Tryz.func68 rfl (by decide +kernel) rfl (fun w0 F0 lent β0 => ?_)
  repeat' (first | refine sC ?_ | ((with_reducible refine isAwp ?_); first | (refine sS ?_; intro Q' hn he hr) | refine sA ?_) | (refine sH ?_; clear hn he hr Q') | ((conv => whnf); first | refine sK ?_ | (refine sB ?_; repeat' (first | refine sb0 ?_ | (refine sb2 ?_ ?_ <;> intro hb <;> try exact cls))) | (refine ret_pick [] rfl rfl rfl ⟨?_, rfl⟩; conv => lhs; whnf)))
  all_goals simp [inB]
  all_goals omega
theorem c_l00Min (a b : Int) : FnC Tryz.prog 182 G0 0 [] [.int .i64 a, .int .i64 b] (fun d os => d = .int .i64 (min a b) ∧ os = []) := by
  refine fn_rule Tryz.func182 rfl (by decide +kernel) rfl (fun w0 F0 lent β0 => ?_)
  repeat' (first | refine sC ?_ | ((with_reducible refine isAwp ?_); first | (refine sS ?_; intro Q' hn he hr) | refine sA ?_) | (refine sH ?_; clear hn he hr Q') | ((conv => whnf); first | refine sK ?_ | (refine sB ?_; repeat' (refine sb2 ?_ ?_ <;> intro hb <;> try exact cls)) | (refine ret_pick [] rfl rfl rfl ⟨?_, rfl⟩; conv => lhs; whnf)))
  all_goals (refine congrArg (D.int _) ?_; omega)
theorem c_l00Max (a b : Int) : FnC Tryz.prog 181 G0 0 [] [.int .i64 a, .int .i64 b] (fun d os => d = .int .i64 (max a b) ∧ os = []) := by
  refine fn_rule Tryz.func181 rfl (by decide +kernel) rfl (fun w0 F0 lent β0 => ?_)
  repeat' (first | refine sC ?_ | ((with_reducible refine isAwp ?_); first | (refine sS ?_; intro Q' hn he hr) | refine sA ?_) | (refine sH ?_; clear hn he hr Q') | ((conv => whnf); first | refine sK ?_ | (refine sB ?_; repeat' (refine sb2 ?_ ?_ <;> intro hb <;> try exact cls)) | (refine ret_pick [] rfl rfl rfl ⟨?_, rfl⟩; conv => lhs; whnf)))
  all_goals (refine congrArg (D.int _) ?_; omega)
def absI (n : Int) : Int := if n < 0 then -n else n
theorem c_absOf (n : Int) (h : -9223372036854775807 ≤ n ∧ n ≤ 9223372036854775807) : FnC Tryz.prog 238 G0 0 [] [.int .i64 n] (fun d os => d = .int .i64 (absI n) ∧ os = []) := by
  refine fn_rule Tryz.func238 rfl (by decide +kernel) rfl (fun w0 F0 lent β0 => ?_)
  repeat' (first | refine sC ?_ | ((with_reducible refine isAwp ?_); first | (refine sS ?_; intro Q' hn he hr) | refine sA ?_) | (refine sH ?_; clear hn he hr Q') | ((conv => whnf); first | refine sK ?_ | (refine sB ?_; repeat' (refine sb2 ?_ ?_ <;> intro hb <;> try exact cls)) | refine sP ?_ | (refine ret_pick [] rfl rfl rfl ⟨?_, rfl⟩; conv => lhs; whnf)))
  all_goals (refine congrArg (D.int _) ?_; unfold absI; split <;> omega)
theorem c_l02Abs (n : Int) (h : -9223372036854775807 ≤ n ∧ n ≤ 9223372036854775807) : FnC Tryz.prog 278 G0 0 [] [.int .i64 n] (fun d os => d = .int .i64 (absI n) ∧ os = []) := by
  refine fn_rule Tryz.func278 rfl (by decide +kernel) rfl (fun w0 F0 lent β0 => ?_)
  repeat' (first | refine sC ?_ | ((with_reducible refine isAwp ?_); first | (refine sS ?_; intro Q' hn he hr) | refine sA ?_) | (refine sH ?_; clear hn he hr Q') | ((conv => whnf); first | refine sK ?_ | (refine sB ?_; repeat' (refine sb2 ?_ ?_ <;> intro hb <;> try exact cls)) | refine sP ?_ | (refine ret_pick [] rfl rfl rfl ⟨?_, rfl⟩; conv => lhs; whnf)))
  all_goals (refine congrArg (D.int _) ?_; unfold absI; split <;> omega)
end Go.Eng
