/-
  Contracts of functions of the program and of the reference, and plain laws: a bundle of texts.
  No conditions.
-/
import Derived.Test.YtigdnelbanaieaaGreatDoorEC
import Derived.Test.YtigdnelbanaieaaGreatDoorV1
import Derived.Test.YtigdnelbanaieaaGreatDoorP1
import Derived.Test.YtigdnelbanaieaaGreatDoorED
set_option linter.unusedVariables false
set_option linter.unusedSimpArgs false
set_option maxHeartbeats 4000000
namespace Go.Eng
open Go Go.RowKit Go.Proofs
set_option maxRecDepth 100000

/-- The first number that is not 0. -/
def orI : List Int → Int
  | [] => 0
  | x :: r => if x = 0 then orI r else x
theorem orI_drop : ∀ {a : List Int} {k : Nat}, allTo (fun x => decide (x = 0)) a k → orI a = orI (a.drop k)
  | [], k, _ => by simp
  | x :: r, 0, _ => rfl
  | x :: r, k + 1, h => by
    have h0 := h 0 x (Nat.zero_lt_succ _) rfl
    simp only [decide_eq_true_eq] at h0
    subst h0
    show (if (0 : Int) = 0 then orI r else 0) = orI (r.drop k)
    rw [if_pos rfl]
    exact orI_drop fun j y hj hy => h (j + 1) y (by omega) hy
theorem c_cmp_Or (a : List Int) : FnC Tryz.prog 196 G0 0 [] [.sl 1 (a.map encI)] (fun d os => d = .int .i64 (orI a) ∧ os = []) := by
  refine fn_rule Tryz.func196 rfl (by decide +kernel) rfl (fun w0 F0 lent β0 => ?_)
  repeat' (first | refine sC ?_ | ((with_reducible refine isAwp ?_); first | (refine sS ?_; intro Q' hn he hr) | refine sA ?_) | (refine sH ?_; clear hn he hr Q') | ((conv => whnf); first | refine sK ?_ | (refine sL ?_; intro hlen)))
  refine loop_env (fun k : Nat => [(3,.int .i64 0),(6,.sl 1 (a.map encI)),(7,.int .i64 a.length),(8,.int .i64 k)]) (fun _ => []) (fun k => k ≤ a.length ∧ allTo (fun x => decide (x = 0)) a k) (fun k => a.length - k) 0 ⟨by omega, allTo_zero⟩ (by refine weak_to rfl rfl rfl ?_; ((repeat' (first | exact trivial | refine And.intro ?_ ?_)) <;> (first | rfl | (conv => rhs; whnf) <;> (first | rfl | (refine congrArg (D.int _) ?_; omega))))) (fun k hk Q' hn he hr => ?_)
  repeat' (first | refine sC ?_ | ((with_reducible refine isAwp ?_); first | (refine sS ?_; intro Q' hn he hr) | refine sA ?_) | (refine sH ?_; clear hn he hr Q') | ((conv => whnf); first | refine sK ?_ | (refine sB ?_; repeat' (refine sb2 ?_ ?_ <;> intro hb <;> try exact cls)) | refine sP ?_ | (refine sE ?_; intro x hx) | (refine ret_pick [] rfl rfl rfl ⟨?_, rfl⟩; conv => lhs; whnf) | (refine sH ?_; clear hn he hr Q')))
  · rw [orI_drop hk.2, List.drop_eq_getElem_cons (by omega)]
    have h9 : a[k]'(by omega) = x := by have := List.getElem?_eq_some_iff.1 hx; exact this.2
    rw [h9, orI, if_neg hb]
  · exact ⟨k + 1, ⟨by omega, allTo_succ hk.2 hx (by simpa using hb)⟩, by omega, (by refine weak_to rfl rfl rfl ?_; ((repeat' (first | exact trivial | refine And.intro ?_ ?_)) <;> (first | rfl | (conv => rhs; whnf) <;> (first | rfl | (refine congrArg (D.int _) ?_; omega)))))⟩
  · rw [orI_drop hk.2, List.drop_eq_nil_of_le (by omega)]
    rfl

/-! ### Blocks in their order -/
end Go.Eng

namespace Go.Eng
open Go Go.RowKit Go.Proofs
set_option maxRecDepth 100000

end Go.Eng

namespace Go.Eng
open Go Go.RowKit Go.Proofs
set_option maxRecDepth 100000
end Go.Eng

namespace Go.Eng
open Go Go.RowKit Go.Proofs
set_option maxRecDepth 100000
end Go.Eng

namespace Go.Eng
open Go Go.RowKit

section
variable {α : Type} {lt : α → α → Bool} {eqk : α → α → Bool}
end
/-! ### What slices.Insert does with one element -/
end Go.Eng

namespace Go.Eng
open Go Go.RowKit Go.Proofs
set_option maxRecDepth 100000
end Go.Eng

namespace Go.Eng
open Go Go.RowKit Go.Proofs
set_option maxRecDepth 100000
end Go.Eng

namespace Go.Eng
open Go Go.RowKit Go.Proofs
set_option maxRecDepth 100000
end Go.Eng

namespace Go.Eng
open Go Go.RowKit Go.Proofs
set_option maxRecDepth 100000
end Go.Eng
