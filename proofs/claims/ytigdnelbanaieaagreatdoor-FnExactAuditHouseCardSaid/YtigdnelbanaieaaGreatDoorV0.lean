/-
  Names: the contracts of the program's function and of the reference's.
  No conditions.
-/
import Derived.Test.YtigdnelbanaieaaGreatDoorED
import Derived.Test.YtigdnelbanaieaaGreatDoorEC
import Derived.Test.YtigdnelbanaieaaGreatDoorProg
set_option linter.unusedVariables false
set_option linter.unusedSimpArgs false
set_option maxHeartbeats 4000000
namespace Go.Eng
open Go Go.RowKit Go.Proofs
set_option maxRecDepth 100000

def smallB (c : UInt8) : Bool := decide (97 ≤ c.toNat) && decide (c.toNat ≤ 122)
def digitB (c : UInt8) : Bool := decide (48 ≤ c.toNat) && decide (c.toNat ≤ 57)
def headB (l : List UInt8) : Bool := match l with
  | [] => false
  | c :: _ => smallB c
def nameB (l : List UInt8) : Bool := decide (1 ≤ l.length) && (decide (l.length ≤ 10) && (headB l && l.all fun c => smallB c || digitB c))

theorem c_spec_l01Small (c : UInt8) : FnC Tryz.prog 174 G0 0 [] [.int .u8 c.toNat] (fun d os => d = .bool (smallB c) ∧ os = []) := by
  refine fn_rule Tryz.func174 rfl (by decide +kernel) rfl (fun w0 F0 lent β0 => ?_)
  repeat' (first | refine sC ?_ | ((with_reducible refine isAwp ?_); first | (refine sS ?_; intro Q' hn he hr) | refine sA ?_) | (refine sH ?_; clear hn he hr Q') | ((conv => whnf); first | refine sK ?_ | (refine sB ?_; repeat' (first | refine sb0 ?_ | (refine sb2 ?_ ?_ <;> intro hb <;> try exact cls))) | (refine ret_pick [] rfl rfl rfl ⟨?_, rfl⟩; conv => lhs; whnf)))
  all_goals (refine congrArg D.bool ?_; rw [Bool.eq_iff_iff]; simp only [smallB, Bool.and_eq_true, Bool.or_eq_true, decide_eq_true_eq, Bool.not_eq_true', decide_eq_false_iff_not, cond_true, cond_false, Bool.true_and, Bool.false_and, Bool.and_true, Bool.and_false, Bool.false_or, Bool.or_false, Bool.true_or, Bool.or_true, reduceCtorEq, true_iff, false_iff, iff_true, iff_false]; omega)
theorem c_spec_l01Digit (c : UInt8) : FnC Tryz.prog 175 G0 0 [] [.int .u8 c.toNat] (fun d os => d = .bool (digitB c) ∧ os = []) := by
  refine fn_rule Tryz.func175 rfl (by decide +kernel) rfl (fun w0 F0 lent β0 => ?_)
  repeat' (first | refine sC ?_ | ((with_reducible refine isAwp ?_); first | (refine sS ?_; intro Q' hn he hr) | refine sA ?_) | (refine sH ?_; clear hn he hr Q') | ((conv => whnf); first | refine sK ?_ | (refine sB ?_; repeat' (first | refine sb0 ?_ | (refine sb2 ?_ ?_ <;> intro hb <;> try exact cls))) | (refine ret_pick [] rfl rfl rfl ⟨?_, rfl⟩; conv => lhs; whnf)))
  all_goals (refine congrArg D.bool ?_; rw [Bool.eq_iff_iff]; simp only [digitB, Bool.and_eq_true, Bool.or_eq_true, decide_eq_true_eq, Bool.not_eq_true', decide_eq_false_iff_not, cond_true, cond_false, Bool.true_and, Bool.false_and, Bool.and_true, Bool.and_false, Bool.false_or, Bool.or_false, Bool.true_or, Bool.or_true, reduceCtorEq, true_iff, false_iff, iff_true, iff_false]; omega)
theorem c_impl_IsName (l : List UInt8) : FnC Tryz.prog 146 G0 0 [] [.str l] (fun d os => d = .bool (nameB l) ∧ os = []) := by
  refine fn_rule Tryz.func146 rfl (by decide +kernel) rfl (fun w0 F0 lent β0 => ?_)
  cases l with
  | nil =>
    have hl0 : ([] : List UInt8).length = 0 := rfl
    repeat' (first | refine sC ?_ | ((with_reducible refine isAwp ?_); first | (refine sS ?_; intro Q' hn he hr) | refine sA ?_) | (refine sH ?_; clear hn he hr Q') | ((conv => whnf); first | refine sK ?_ | (refine sB ?_; repeat' (first | refine sb0 ?_ | (refine sb2 ?_ ?_ <;> intro hb <;> try exact cls))) | refine sP ?_ | (refine ret_pick [] rfl rfl rfl ⟨?_, rfl⟩; conv => lhs; whnf)))
    all_goals rfl
  | cons c r =>
    have hl1 : (c :: r).length = r.length + 1 := List.length_cons
    repeat' (first | refine sC ?_ | ((with_reducible refine isAwp ?_); first | (refine sS ?_; intro Q' hn he hr) | refine sA ?_) | (refine sH ?_; clear hn he hr Q') | ((conv => whnf); first | refine sK ?_ | (refine sB ?_; repeat' (first | refine sb0 ?_ | (refine sb2 ?_ ?_ <;> intro hb <;> try exact cls))) | (refine ByteS.lit 0 rfl rfl ?_) | (refine sL ?_; intro hlen) | (refine ret_pick [] rfl rfl rfl ⟨?_, rfl⟩; conv => lhs; whnf)))
    · simp [nameB]; omega
    · simp [nameB, headB, smallB]; omega
    · simp [nameB, headB, smallB]; omega
    · refine loop_env (fun k : Nat => [(0,.str (c :: r)),(3,.int .i64 k)]) (fun _ => []) (fun k => k ≤ (c :: r).length ∧ allTo (fun c => smallB c || digitB c) (c :: r) k) (fun k => (c :: r).length - k) 0 ⟨by omega, allTo_zero⟩ (by refine weak_to rfl rfl rfl ?_; ((repeat' (first | exact trivial | refine And.intro ?_ ?_)) <;> (first | rfl | (conv => rhs; whnf) <;> (first | rfl | (refine congrArg (D.int _) ?_; omega))))) (fun k hk Q' hn he hr => ?_)
      repeat' (first | refine sC ?_ | ((with_reducible refine isAwp ?_); first | (refine sS ?_; intro Q' hn he hr) | refine sA ?_) | (refine sH ?_; clear hn he hr Q') | ((conv => whnf); first | refine sK ?_ | (refine sB ?_; repeat' (first | refine sb0 ?_ | (refine sb2 ?_ ?_ <;> intro hb <;> try exact cls))) | refine sP ?_ | (refine sE ?_; intro x hx) | (refine sL ?_; intro hlen) | (refine ret_pick [] rfl rfl rfl ⟨?_, rfl⟩; conv => lhs; whnf) | (refine sH ?_; clear hn he hr Q')))
      all_goals first
        | exact ⟨k + 1, ⟨by omega, allTo_succ hk.2 ‹(c :: r)[k]? = some _› (by simp [smallB, digitB]; omega)⟩, by omega, (by refine weak_to rfl rfl rfl ?_; ((repeat' (first | exact trivial | refine And.intro ?_ ?_)) <;> (first | rfl | (conv => rhs; whnf) <;> (first | rfl | (refine congrArg (D.int _) ?_; omega)))))⟩
        | (have h9 := all_not_at (p := fun c => smallB c || digitB c) ‹(c :: r)[k]? = some _› (by simp [smallB, digitB]; omega); simp [nameB, h9]; done)
        | (have h9 := all_of_allTo hk.2 (by omega); rw [nameB, h9]; simp [headB, smallB]; omega)

theorem c_spec_l01Name (l : List UInt8) : FnC Tryz.prog 118 G0 0 [] [.str l] (fun d os => d = .bool (nameB l) ∧ os = []) := by
  refine fn_rule Tryz.func118 rfl (by decide +kernel) rfl (fun w0 F0 lent β0 => ?_)
  cases l with
  | nil =>
    have hl0 : ([] : List UInt8).length = 0 := rfl
    repeat' (first | refine sC ?_ | ((with_reducible refine isAwp ?_); first | (refine sS ?_; intro Q' hn he hr) | refine sA ?_) | (refine sH ?_; clear hn he hr Q') | ((conv => whnf); first | refine sK ?_ | (refine sB ?_; repeat' (first | refine sb0 ?_ | (refine sb2 ?_ ?_ <;> intro hb <;> try exact cls))) | (refine ret_pick [] rfl rfl rfl ⟨?_, rfl⟩; conv => lhs; whnf)))
    all_goals rfl
  | cons c r =>
    have hl1 : (c :: r).length = r.length + 1 := List.length_cons
    repeat' (first | refine sC ?_ | ((with_reducible refine isAwp ?_); first | (refine sS ?_; intro Q' hn he hr) | refine sA ?_) | (refine sH ?_; clear hn he hr Q') | ((conv => whnf); first | refine sK ?_ | (refine sB ?_; repeat' (first | refine sb0 ?_ | (refine sb2 ?_ ?_ <;> intro hb <;> try exact cls))) | (refine ByteS.lit 0 rfl rfl ?_) | ((with_reducible refine isCall ?_); (refine call_pure (c_spec_l01Small _) rfl rfl ?_)) | (refine sL ?_; intro hlen) | (refine ret_pick [] rfl rfl rfl ⟨?_, rfl⟩; conv => lhs; whnf)))
    · simp [nameB]; omega
    · simp [nameB, headB, hb]
    · refine loop_env (fun k : Nat => [(0,.str (c :: r)),(3,.int .i64 k)]) (fun _ => []) (fun k => k ≤ (c :: r).length ∧ allTo (fun c => smallB c || digitB c) (c :: r) k) (fun k => (c :: r).length - k) 0 ⟨by omega, allTo_zero⟩ (by refine weak_to rfl rfl rfl ?_; ((repeat' (first | exact trivial | refine And.intro ?_ ?_)) <;> (first | rfl | (conv => rhs; whnf) <;> (first | rfl | (refine congrArg (D.int _) ?_; omega))))) (fun k hk Q' hn he hr => ?_)
      repeat' (first | refine sC ?_ | ((with_reducible refine isAwp ?_); first | (refine sS ?_; intro Q' hn he hr) | refine sA ?_) | (refine sH ?_; clear hn he hr Q') | ((conv => whnf); first | refine sK ?_ | (refine sB ?_; repeat' (first | refine sb0 ?_ | (refine sb2 ?_ ?_ <;> intro hb <;> try exact cls))) | ((with_reducible refine isCall ?_); first | (refine call_pure (c_spec_l01Small _) rfl rfl ?_) | (refine call_pure (c_spec_l01Digit _) rfl rfl ?_)) | refine sP ?_ | (refine sE ?_; intro x hx) | (refine sL ?_; intro hlen) | (refine ret_pick [] rfl rfl rfl ⟨?_, rfl⟩; conv => lhs; whnf) | (refine sH ?_; clear hn he hr Q')))
      all_goals first
        | exact ⟨k + 1, ⟨by omega, allTo_succ hk.2 ‹(c :: r)[k]? = some _› (by simp [*])⟩, by omega, (by refine weak_to rfl rfl rfl ?_; ((repeat' (first | exact trivial | refine And.intro ?_ ?_)) <;> (first | rfl | (conv => rhs; whnf) <;> (first | rfl | (refine congrArg (D.int _) ?_; omega)))))⟩
        | (have h9 := all_not_at (p := fun c => smallB c || digitB c) ‹(c :: r)[k]? = some _› (by simp [*]); simp [nameB, h9]; done)
        | (have h9 := all_of_allTo hk.2 (by omega); rw [nameB, h9]; simp [headB, *]; omega)
end Go.Eng
