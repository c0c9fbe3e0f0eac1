/-
  Marks of texts, lists of numbers and of texts: what the scaffolding functions do.
  No conditions.
-/
import Derived.Test.YtieiboeboejmkaaGreatED
import Derived.Test.YtieiboeboejmkaaGreatEC
import Derived.Test.YtieiboeboejmkaaGreatProg
set_option linter.unusedVariables false
set_option linter.unusedSimpArgs false
set_option maxHeartbeats 4000000
namespace Go.Eng
open Go Go.RowKit Go.Proofs
set_option maxRecDepth 100000

theorem c_szInt64S (a : List (Int)) (left : Int) (h0 : 0 ≤ left) (h1 : left ≤ 1048576) : FnC Tryz.prog 12 G0 0 [] [.sl 1 (a.map encI), .int .i64 left] (fun d os => d = .int .i64 (if szL noSz a ≤ left then left - szL noSz a else -1) ∧ os = []) := by
  rw [szL_noSz]
  refine fn_rule Tryz.func12 rfl (by decide +kernel) rfl (fun w0 F0 lent β0 => ?_)
  repeat' (first | refine sC ?_ | ((with_reducible refine isAwp ?_); first | (refine sS ?_; intro Q' hn he hr) | refine sA ?_) | (refine sH ?_; clear hn he hr Q') | ((conv => whnf); first | refine sK ?_ | (refine sB ?_; repeat' (refine sb2 ?_ ?_ <;> intro hb <;> try exact cls)) | refine sP ?_ | (refine sL ?_; intro hlen) | (refine ret_pick [] rfl rfl rfl ⟨?_, rfl⟩; conv => lhs; whnf)))
  all_goals (first | rfl | (refine congrArg (D.int _) ?_; first | rfl | omega | (split <;> omega)))
def zInt64 : List D := [.int .i64 0]
theorem c_toInt64S (a : List (Int)) (hs : a.length ≤ 1048576) : FnC Tryz.prog 22 G0 0 [] [.sl 1 (a.map encI)] (fun d os => d = .h 0 ∧ os = [.row 2 1 (a.map encI)]) := by
  refine fn_rule Tryz.func22 rfl (by decide +kernel) rfl (fun w0 F0 lent β0 => ?_)
  repeat' (first | refine sC ?_ | ((with_reducible refine isAwp ?_); first | (refine sS ?_; intro Q' hn he hr) | refine sA ?_) | (refine sH ?_; clear hn he hr Q') | ((conv => whnf); first | refine sK ?_ | refine sP ?_ | (refine sL ?_; intro hlen)))
  refine loop_env (fun k : Nat => [(0,.sl 1 (a.map encI)),(3,.h 0),(4,.int .i64 k)]) (fun k => [.row 2 1 (fill encI zInt64 a k)]) (fun k => k ≤ a.length) (fun k => a.length - k) 0 (by omega) (by refine weak_to rfl rfl ?_ ?_; rw [fill_zero]; rfl; exact ⟨rfl, rfl, rfl, trivial⟩) (fun k hk Q' hn he hr => ?_)
  repeat' (first | refine sC ?_ | ((with_reducible refine isAwp ?_); first | (refine sS ?_; intro Q' hn he hr) | refine sA ?_) | (refine sH ?_; clear hn he hr Q') | ((conv => whnf); first | refine sK ?_ | (refine sB ?_; repeat' (refine sb2 ?_ ?_ <;> intro hb <;> try exact cls)) | ((with_reducible refine isRet ?_); (refine ret_pick [0] rfl rfl rfl ⟨rfl, ?_⟩)) | refine sP ?_ | (refine sE ?_; intro x hx) | (refine sL ?_; intro hlen) | (refine sH ?_; clear hn he hr Q')))
  · refine ⟨k + 1, by omega, by omega, ?_⟩
    refine weak_to rfl rfl ?_ ⟨rfl, rfl, rfl, trivial⟩
    rw [← fill_set _ _ _ hx]
    rfl
  · have h2 : k = a.length := by omega
    subst h2
    rw [← fill_all encI zInt64 a]
    rfl
theorem c_eqInt64S (a b : List (Int)) : FnC Tryz.prog 41 G0 0 [] [.sl 1 (a.map encI), .sl 1 (b.map encI)] (fun d os => d = .bool (eqL eqI a b) ∧ os = []) := by
  refine fn_rule Tryz.func41 rfl (by decide +kernel) rfl (fun w0 F0 lent β0 => ?_)
  repeat' (first | refine sC ?_ | ((with_reducible refine isAwp ?_); first | (refine sS ?_; intro Q' hn he hr) | refine sA ?_) | (refine sH ?_; clear hn he hr Q') | ((conv => whnf); first | refine sK ?_ | (refine sB ?_; repeat' (refine sb2 ?_ ?_ <;> intro hb <;> try exact cls)) | (refine sL ?_; intro hlen) | (refine ret_pick [] rfl rfl rfl ⟨?_, rfl⟩; conv => lhs; whnf)))
  · rw [eqL_len hb]
  · refine loop_env (fun k : Nat => [(0,.sl 1 (a.map encI)),(1,.sl 1 (b.map encI)),(5,.int .i64 k)]) (fun _ => []) (fun k => k ≤ a.length ∧ eqTo eqI a b k) (fun k => a.length - k) 0 ⟨by omega, eqTo_zero⟩ (by refine weak_to rfl rfl rfl ?_; ((repeat' (first | exact trivial | refine And.intro ?_ ?_)) <;> (first | rfl | (conv => rhs; whnf) <;> (first | rfl | (refine congrArg (D.int _) ?_; omega))))) (fun k hk Q' hn he hr => ?_)
    repeat' (first | refine sC ?_ | ((with_reducible refine isAwp ?_); first | (refine sS ?_; intro Q' hn he hr) | refine sA ?_) | (refine sH ?_; clear hn he hr Q') | refine sO ?_ | ((conv => whnf); first | refine sK ?_ | (refine sB ?_; repeat' (refine sb2 ?_ ?_ <;> intro hb <;> try exact cls)) | refine sP ?_ | (refine sE ?_; intro x hx) | (refine sL ?_; intro hlen) | refine sD ?_ | (refine ret_pick [] rfl rfl rfl ⟨?_, rfl⟩; conv => lhs; whnf) | (refine sH ?_; clear hn he hr Q')))
    · rw [eqL_at ‹a[k]? = some _› ‹b[k]? = some _› (by simpa [eqI, eqStr] using hb)]
    · exact ⟨k + 1, ⟨by omega, eqTo_succ hk.2 ‹a[k]? = some _› ‹b[k]? = some _› (by simpa [eqI, eqStr] using hb)⟩, by omega, (by refine weak_to rfl rfl rfl ?_; ((repeat' (first | exact trivial | refine And.intro ?_ ?_)) <;> (first | rfl | (conv => rhs; whnf) <;> (first | rfl | (refine congrArg (D.int _) ?_; omega)))))⟩
    · rw [eqL_all (by omega) (fun j x y h => hk.2 j x y (by omega))]
end Go.Eng
