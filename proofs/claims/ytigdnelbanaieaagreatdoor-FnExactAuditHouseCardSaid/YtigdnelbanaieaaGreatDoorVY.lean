/-
  Contracts of functions of the program and of the reference, and plain laws: a bundle of texts.
  No conditions.
-/
import Derived.Test.YtigdnelbanaieaaGreatDoorED
import Derived.Test.YtigdnelbanaieaaGreatDoorEC
import Derived.Test.YtigdnelbanaieaaGreatDoorTX
import Derived.Test.YtigdnelbanaieaaGreatDoorV0
import Derived.Test.YtigdnelbanaieaaGreatDoorW1
import Derived.Test.YtigdnelbanaieaaGreatDoorVX
set_option linter.unusedVariables false
set_option linter.unusedSimpArgs false
set_option maxHeartbeats 4000000
namespace Go.Eng
open Go Go.RowKit Go.Proofs
set_option maxRecDepth 100000
def validM (m : TMedia) : Bool := nameB m.fName && inB m.fSize 1 100000
def ltMedia (a b : TMedia) : Bool := Op.bytesLess a.fName b.fName
def validMs (a : List TMedia) : Bool := decide (a.length ≤ 16) && listOk validM ltMedia a
theorem validMs_long {a : List TMedia} (h : ¬ a.length ≤ 16) : validMs a = false := by simp [validMs, h]
set_option maxHeartbeats 4000000 in
theorem c_impl_validFile (m : TMedia) : FnC Tryz.prog 201 G0 0 [] [.agg (encMedia m)] (fun d os => d = .bool (validM m) ∧ os = []) := by
  refine fn_rule Tryz.func201 rfl (by decide +kernel) rfl (fun w0 F0 lent β0 => ?_)
  repeat' (first | refine sC ?_ | ((with_reducible refine isAwp ?_); first | (refine sS ?_; intro Q' hn he hr) | refine sA ?_) | (refine sH ?_; clear hn he hr Q') | ((conv => whnf); first | refine sK ?_ | (refine sB ?_; repeat' (first | refine sb0 ?_ | (refine sb2 ?_ ?_ <;> intro hb <;> try exact cls))) | ((with_reducible refine isCall ?_); first | (refine call_pure (c_impl_IsName _) rfl rfl ?_) | (refine call_pure (c_within _ _ _) rfl rfl ?_)) | (refine ret_pick [] rfl rfl rfl ⟨?_, rfl⟩; conv => lhs; whnf)))
  all_goals simp [validM, *]
set_option maxHeartbeats 4000000 in
theorem c_spec_l25One (m : TMedia) : FnC Tryz.prog 130 G0 0 [] [.rp (encMedia m)] (fun d os => d = .bool (validM m) ∧ os = []) := by
  refine fn_rule Tryz.func130 rfl (by decide +kernel) rfl (fun w0 F0 lent β0 => ?_)
  repeat' (first | refine sC ?_ | ((with_reducible refine isAwp ?_); first | (refine sS ?_; intro Q' hn he hr) | refine sA ?_) | (refine sH ?_; clear hn he hr Q') | ((conv => whnf); first | refine sK ?_ | (refine sB ?_; repeat' (first | refine sb0 ?_ | (refine sb2 ?_ ?_ <;> intro hb <;> try exact cls))) | ((with_reducible refine isCall ?_); first | (refine call_pure (c_spec_l01Name _) rfl rfl ?_) | (refine call_pure (c_l00In _ _ _) rfl rfl ?_)) | (refine ret_pick [] rfl rfl rfl ⟨?_, rfl⟩; conv => lhs; whnf)))
  all_goals simp [validM, *]
set_option maxHeartbeats 4000000 in
theorem c_impl_ValidMedia (a : List TMedia) : FnC Tryz.prog 154 G0 0 [] [.sl 2 (a.map encMedia)] (fun d os => d = .bool (validMs a) ∧ os = []) := by
  refine fn_rule Tryz.func154 rfl (by decide +kernel) rfl (fun w0 F0 lent β0 => ?_)
  repeat' (first | refine sC ?_ | ((with_reducible refine isAwp ?_); first | (refine sS ?_; intro Q' hn he hr) | refine sA ?_) | (refine sH ?_; clear hn he hr Q') | ((conv => whnf); first | refine sK ?_ | (refine sB ?_; repeat' (refine sb2 ?_ ?_ <;> intro hb <;> try exact cls)) | (refine sL ?_; intro hlen) | (refine ret_pick [] rfl rfl rfl ⟨?_, rfl⟩; conv => lhs; whnf)))
  · rw [validMs_long (by omega)]
  · refine loop_env (fun k : Nat => [(2,.bool false),(8,.sl 2 (a.map encMedia)),(0,.sl 2 (a.map encMedia)),(9,.int .i64 a.length),(10,.int .i64 k)]) (fun _ => []) (fun k => k ≤ a.length ∧ okTo validM ltMedia a k) (fun k => a.length - k) 0 ⟨by omega, okTo_zero⟩ (by refine weak_to rfl rfl rfl ?_; ((repeat' (first | exact trivial | refine And.intro ?_ ?_)) <;> (first | rfl | (conv => rhs; whnf) <;> (first | rfl | (refine congrArg (D.int _) ?_; omega))))) (fun k hk Q' hn he hr => ?_)
    repeat' (first | refine sC ?_ | ((with_reducible refine isAwp ?_); first | (refine sS ?_; intro Q' hn he hr) | refine sA ?_) | (refine sH ?_; clear hn he hr Q') | refine sO ?_ | ((conv => whnf); first | refine sK ?_ | (refine sB ?_; repeat' (first | refine sb0 ?_ | (refine sb2 ?_ ?_ <;> intro hb <;> try exact cls))) | ((with_reducible refine isCallQ ?_); (refine callQ_pure (c_impl_validFile _) rfl rfl ?_)) | refine sP ?_ | (refine sE ?_; intro x hx) | (refine sF ?_; intro i y hi hy) | refine sD ?_ | (refine ret_pick [] rfl rfl rfl ⟨?_, rfl⟩; conv => lhs; whnf) | (refine sH ?_; clear hn he hr Q')))
    all_goals first
      | (have h9 := listOk_bad (p := validM) (lt := ltMedia) hx (by assumption); simp [validMs, h9]; done)
      | (have h9 := listOk_unrising (p := validM) (lt := ltMedia) hx (by omega) hy (by assumption); simp [validMs, h9]; done)
      | (refine ⟨k + 1, ⟨by omega, okTo_succ hk.2 hx (by assumption) (fun i' y' hi' hy' => ?_)⟩, by omega, (by refine weak_to rfl rfl rfl ?_; ((repeat' (first | exact trivial | refine And.intro ?_ ?_)) <;> (first | rfl | (conv => rhs; whnf) <;> (first | rfl | (refine congrArg (D.int _) ?_; omega)))))⟩; first | (exfalso; omega) | (obtain rfl : i' = i := (by omega); rw [hy] at hy'; cases hy'; assumption))
      | (have h9 := listOk_of hk.2 (by omega); simp [validMs, h9]; done)
      | (have h9 := listOk_of hk.2 (by omega); simp [validMs, h9]; omega)
set_option maxHeartbeats 4000000 in
theorem c_spec_l25Ok (a : List TMedia) : FnC Tryz.prog 72 G0 0 [] [.sl 2 (a.map encMedia)] (fun d os => d = .bool (validMs a) ∧ os = []) := by
  refine fn_rule Tryz.func72 rfl (by decide +kernel) rfl (fun w0 F0 lent β0 => ?_)
  repeat' (first | refine sC ?_ | ((with_reducible refine isAwp ?_); first | (refine sS ?_; intro Q' hn he hr) | refine sA ?_) | (refine sH ?_; clear hn he hr Q') | ((conv => whnf); refine sK ?_))
  refine loop_env (fun k : Nat => [(2,.bool false),(0,.sl 2 (a.map encMedia)),(3,.int .i64 k)]) (fun _ => []) (fun k => k ≤ a.length ∧ okTo validM ltMedia a k) (fun k => a.length - k) 0 ⟨by omega, okTo_zero⟩ (by refine weak_to rfl rfl rfl ?_; ((repeat' (first | exact trivial | refine And.intro ?_ ?_)) <;> (first | rfl | (conv => rhs; whnf) <;> (first | rfl | (refine congrArg (D.int _) ?_; omega))))) (fun k hk Q' hn he hr => ?_)
  repeat' (first | refine sC ?_ | ((with_reducible refine isAwp ?_); first | (refine sS ?_; intro Q' hn he hr) | refine sA ?_) | (refine sH ?_; clear hn he hr Q') | refine sO ?_ | ((conv => whnf); first | refine sK ?_ | (refine sB ?_; repeat' (first | refine sb0 ?_ | (refine sb2 ?_ ?_ <;> intro hb <;> try exact cls))) | ((with_reducible refine isCallQ ?_); (refine callQ_look (c_spec_l25One _) rfl ?_)) | refine sP ?_ | (refine sE ?_; intro x hx) | (refine sF ?_; intro i y hi hy) | (refine sL ?_; intro hlen) | refine sD ?_ | (refine ret_pick [] rfl rfl rfl ⟨?_, rfl⟩; conv => lhs; whnf) | (refine sH ?_; clear hn he hr Q')))
  all_goals first
    | (have h9 := listOk_bad (p := validM) (lt := ltMedia) hx (by assumption); simp [validMs, h9]; done)
    | (have h9 := listOk_unrising (p := validM) (lt := ltMedia) hx (by omega) hy (by assumption); simp [validMs, h9]; done)
    | (refine ⟨k + 1, ⟨by omega, okTo_succ hk.2 hx (by assumption) (fun i' y' hi' hy' => ?_)⟩, by omega, (by refine weak_to rfl rfl rfl ?_; ((repeat' (first | exact trivial | refine And.intro ?_ ?_)) <;> (first | rfl | (conv => rhs; whnf) <;> (first | rfl | (refine congrArg (D.int _) ?_; omega)))))⟩; first | (exfalso; omega) | (obtain rfl : i' = i := (by omega); rw [hy] at hy'; cases hy'; assumption))
    | (have h9 := listOk_of hk.2 (by omega); simp [validMs, h9]; done)
    | (have h9 := listOk_of hk.2 (by omega); simp [validMs, h9]; omega)
/-- The size of the first file with a name, or 0. -/
def sizeM (a : List TMedia) (n : List UInt8) : Int := match a[firstAt (fun m => m.fName == n) a]? with
  | some m => m.fSize
  | none => 0
theorem sizeM_here {a : List TMedia} {n : List UInt8} {k : Nat} {x : TMedia} (h : noneTo (fun m => m.fName == n) a k) (hx : a[k]? = some x) (hq : (x.fName == n) = true) : sizeM a n = x.fSize := by
  unfold sizeM
  rw [firstAt_here h hx hq, hx]
theorem sizeM_none {a : List TMedia} {n : List UInt8} {k : Nat} (h : noneTo (fun m => m.fName == n) a k) (hk : a.length ≤ k) : sizeM a n = 0 := by
  unfold sizeM
  rw [firstAt_none h hk, List.getElem?_eq_none (Nat.le_refl _)]
set_option maxHeartbeats 4000000 in
theorem c_impl_sizeOf (a : List TMedia) (n : List UInt8) : FnC Tryz.prog 155 G0 0 [] [.sl 2 (a.map encMedia), .str n] (fun d os => d = .int .i64 (sizeM a n) ∧ os = []) := by
  refine fn_rule Tryz.func155 rfl (by decide +kernel) rfl (fun w0 F0 lent β0 => ?_)
  repeat' (first | refine sC ?_ | ((with_reducible refine isAwp ?_); first | (refine sS ?_; intro Q' hn he hr) | refine sA ?_) | (refine sH ?_; clear hn he hr Q') | ((conv => whnf); first | refine sK ?_ | (refine sL ?_; intro hlen)))
  refine loop_env (fun k : Nat => [(7,.sl 2 (a.map encMedia)),(1,.str n),(8,.int .i64 a.length),(9,.int .i64 k)]) (fun _ => []) (fun k => k ≤ a.length ∧ noneTo (fun m : TMedia => m.fName == n) a k) (fun k => a.length - k) 0 ⟨by omega, noneTo_zero⟩ (by refine weak_to rfl rfl rfl ?_; ((repeat' (first | exact trivial | refine And.intro ?_ ?_)) <;> (first | rfl | (conv => rhs; whnf) <;> (first | rfl | (refine congrArg (D.int _) ?_; omega))))) (fun k hk Q' hn he hr => ?_)
  repeat' (first | refine sC ?_ | ((with_reducible refine isAwp ?_); first | (refine sS ?_; intro Q' hn he hr) | refine sA ?_) | (refine sH ?_; clear hn he hr Q') | ((conv => whnf); first | refine sK ?_ | (refine sB ?_; repeat' (refine sb2 ?_ ?_ <;> intro hb <;> try exact cls)) | refine sP ?_ | (refine sE ?_; intro x hx) | (refine ret_pick [] rfl rfl rfl ⟨?_, rfl⟩; conv => lhs; whnf) | (refine sH ?_; clear hn he hr Q')))
  · rw [sizeM_here hk.2 hx (by simp [*])]
  · exact ⟨k + 1, ⟨by omega, noneTo_succ hk.2 hx (by simp [*])⟩, by omega, (by refine weak_to rfl rfl rfl ?_; ((repeat' (first | exact trivial | refine And.intro ?_ ?_)) <;> (first | rfl | (conv => rhs; whnf) <;> (first | rfl | (refine congrArg (D.int _) ?_; omega)))))⟩
  · rw [sizeM_none hk.2 (by omega)]
set_option maxHeartbeats 4000000 in
theorem c_spec_l25Size (a : List TMedia) (n : List UInt8) : FnC Tryz.prog 131 G0 0 [] [.sl 2 (a.map encMedia), .str n] (fun d os => d = .int .i64 (sizeM a n) ∧ os = []) := by
  refine fn_rule Tryz.func131 rfl (by decide +kernel) rfl (fun w0 F0 lent β0 => ?_)
  repeat' (first | refine sC ?_ | ((with_reducible refine isAwp ?_); first | (refine sS ?_; intro Q' hn he hr) | refine sA ?_) | (refine sH ?_; clear hn he hr Q') | ((conv => whnf); refine sK ?_))
  refine loop_env (fun k : Nat => [(0,.sl 2 (a.map encMedia)),(1,.str n),(5,.int .i64 k)]) (fun _ => []) (fun k => k ≤ a.length ∧ noneTo (fun m : TMedia => m.fName == n) a k) (fun k => a.length - k) 0 ⟨by omega, noneTo_zero⟩ (by refine weak_to rfl rfl rfl ?_; ((repeat' (first | exact trivial | refine And.intro ?_ ?_)) <;> (first | rfl | (conv => rhs; whnf) <;> (first | rfl | (refine congrArg (D.int _) ?_; omega))))) (fun k hk Q' hn he hr => ?_)
  repeat' (first | refine sC ?_ | ((with_reducible refine isAwp ?_); first | (refine sS ?_; intro Q' hn he hr) | refine sA ?_) | (refine sH ?_; clear hn he hr Q') | ((conv => whnf); first | refine sK ?_ | (refine sB ?_; repeat' (refine sb2 ?_ ?_ <;> intro hb <;> try exact cls)) | refine sP ?_ | (refine sE ?_; intro x hx) | (refine sL ?_; intro hlen) | (refine ret_pick [] rfl rfl rfl ⟨?_, rfl⟩; conv => lhs; whnf) | (refine sH ?_; clear hn he hr Q')))
  · rw [sizeM_here hk.2 hx (by simp [*])]
  · exact ⟨k + 1, ⟨by omega, noneTo_succ hk.2 hx (by simp [*])⟩, by omega, (by refine weak_to rfl rfl rfl ?_; ((repeat' (first | exact trivial | refine And.intro ?_ ?_)) <;> (first | rfl | (conv => rhs; whnf) <;> (first | rfl | (refine congrArg (D.int _) ?_; omega)))))⟩
  · rw [sizeM_none hk.2 (by omega)]
end Go.Eng

namespace Go.Eng
open Go Go.RowKit Go.Proofs
set_option maxRecDepth 100000
def leNeed (y x : TNeed) : Bool := decide (y.fTime ≤ x.fTime)
def sameN (x y : TNeed) : Bool := y.fName == x.fName
def needP (M : List TMedia) (a : List TNeed) (k : Nat) (x : TNeed) : Bool := !decide (sizeM M x.fName = 0) && (inB x.fTime 0 7200000 && (prevB leNeed a k x && noneB (sameN x) a k))
def needsQ (M : List TMedia) (a : List TNeed) : Bool := decide (a.length ≤ 16) && allI (needP M a) a
theorem needsQ_long {M : List TMedia} {a : List TNeed} (h : ¬ a.length ≤ 16) : needsQ M a = false := by simp [needsQ, h]
theorem needsQ_bad {M : List TMedia} {a : List TNeed} {k : Nat} {x : TNeed} (hx : a[k]? = some x) (h : needP M a k x = false) : needsQ M a = false := by
  unfold needsQ
  rw [allI_bad hx h, Bool.and_false]
theorem needP_size {M : List TMedia} {a : List TNeed} {k : Nat} {x : TNeed} (h : sizeM M x.fName = 0) : needP M a k x = false := by simp [needP, h]
theorem needP_time {M : List TMedia} {a : List TNeed} {k : Nat} {x : TNeed} (h : inB x.fTime 0 7200000 = false) : needP M a k x = false := by simp [needP, h]
theorem needP_prev {M : List TMedia} {a : List TNeed} {k i : Nat} {x y : TNeed} (hi : i + 1 = k) (hy : a[i]? = some y) (h : x.fTime < y.fTime) : needP M a k x = false := by
  have h2 : ¬ y.fTime ≤ x.fTime := by omega
  simp [needP, prevB_at hi hy, leNeed, h2]
theorem needP_dup {M : List TMedia} {a : List TNeed} {k : Nat} {x : TNeed} (h : noneB (sameN x) a k = false) : needP M a k x = false := by simp [needP, h]
theorem needP_yes {M : List TMedia} {a : List TNeed} {k : Nat} {x : TNeed} (h1 : ¬ sizeM M x.fName = 0) (h2 : inB x.fTime 0 7200000 = true) (h3 : prevB leNeed a k x = true) (h4 : noneB (sameN x) a k = true) : needP M a k x = true := by simp [needP, h1, h2, h3, h4]
theorem none_of_neg' {α : Type} {q : α → Bool} {a : List α} {k : Nat} (hk : k ≤ a.length) (h : idxQ q (a.take k) < 0) : noneB q a k = true := by
  cases h8 : noneB q a k with
  | true => rfl
  | false => exact absurd ((idxQ_take hk).2 h8) (by omega)
theorem c_impl_ValidNeeds1 (y x : TNeed) : FnC Tryz.prog 157 G0 0 [] [.agg (encNeed y), .rp (encNeed x)] (fun d os => d = .bool (sameN x y) ∧ os = []) := by
  refine fn_rule Tryz.func157 rfl (by decide +kernel) rfl (fun w0 F0 lent β0 => ?_)
  repeat' (first | refine sC ?_ | ((with_reducible refine isAwp ?_); first | (refine sS ?_; intro Q' hn he hr) | refine sA ?_) | (refine sH ?_; clear hn he hr Q') | ((conv => whnf); first | refine sK ?_ | (refine ret_pick [] rfl rfl rfl ⟨?_, rfl⟩; conv => lhs; whnf)))
  all_goals (refine congrArg D.bool ?_; simp [sameN, *])
theorem c_slices_IndexNeed (a : List TNeed) (x0 : TNeed) : FnC Tryz.prog 202 G0 0 [] [.sl 2 (a.map encNeed), .clo (.func 157) [.rp (encNeed x0)]] (fun d os => d = .int .i64 (idxQ (sameN x0) a) ∧ os = []) := by
  refine fn_rule Tryz.func202 rfl (by decide +kernel) rfl (fun w0 F0 lent β0 => ?_)
  repeat' (first | refine sC ?_ | ((with_reducible refine isAwp ?_); first | (refine sS ?_; intro Q' hn he hr) | refine sA ?_) | (refine sH ?_; clear hn he hr Q') | ((conv => whnf); first | refine sK ?_ | (refine sL ?_; intro hlen)))
  refine loop_env (fun k : Nat => [(0,.sl 2 (a.map encNeed)),(1,.clo (.func 157) [.rp (encNeed x0)]),(6,.sl 2 (a.map encNeed)),(7,.int .i64 a.length),(8,.int .i64 k)]) (fun _ => []) (fun k => k ≤ a.length ∧ noneTo (sameN x0) a k) (fun k => a.length - k) 0 ⟨by omega, noneTo_zero⟩ (by refine weak_to rfl rfl rfl ?_; ((repeat' (first | exact trivial | refine And.intro ?_ ?_)) <;> (first | rfl | (conv => rhs; whnf) <;> (first | rfl | (refine congrArg (D.int _) ?_; omega))))) (fun k hk Q' hn he hr => ?_)
  repeat' (first | refine sC ?_ | ((with_reducible refine isAwp ?_); first | (refine sS ?_; intro Q' hn he hr) | refine sA ?_) | (refine sH ?_; clear hn he hr Q') | ((conv => whnf); first | refine sK ?_ | (refine sB ?_; repeat' (refine sb2 ?_ ?_ <;> intro hb <;> try exact cls)) | ((with_reducible refine isCall ?_); (refine call_look (c_impl_ValidNeeds1 x x0) rfl ?_)) | refine sP ?_ | (refine sE ?_; intro x hx) | (refine ret_pick [] rfl rfl rfl ⟨?_, rfl⟩; conv => lhs; whnf) | (refine sH ?_; clear hn he hr Q')))
  · rw [idxQ_here hk.2 hx hb]
  · exact ⟨k + 1, ⟨by omega, noneTo_succ hk.2 hx hb⟩, by omega, (by refine weak_to rfl rfl rfl ?_; ((repeat' (first | exact trivial | refine And.intro ?_ ?_)) <;> (first | rfl | (conv => rhs; whnf) <;> (first | rfl | (refine congrArg (D.int _) ?_; omega)))))⟩
  · rw [idxQ_none hk.2 (by omega)]
theorem c_slices_ContainsNeed (a : List TNeed) (x0 : TNeed) : FnC Tryz.prog 156 G0 0 [] [.sl 2 (a.map encNeed), .clo (.func 157) [.rp (encNeed x0)]] (fun d os => d = .bool (decide (0 ≤ idxQ (sameN x0) a)) ∧ os = []) := by
  refine fn_rule Tryz.func156 rfl (by decide +kernel) rfl (fun w0 F0 lent β0 => ?_)
  repeat' (first | refine sC ?_ | ((with_reducible refine isAwp ?_); first | (refine sS ?_; intro Q' hn he hr) | refine sA ?_) | (refine sH ?_; clear hn he hr Q') | ((conv => whnf); first | refine sK ?_ | ((with_reducible refine isCall ?_); (refine call_look (c_slices_IndexNeed a x0) rfl ?_)) | (refine ret_pick [] rfl rfl rfl ⟨?_, rfl⟩; conv => lhs; whnf)))
theorem c_slices_ContainsNeed_cut (a : List TNeed) (k : Nat) (x0 : TNeed) : FnC Tryz.prog 156 G0 0 [] [.sl 2 (cutL (a.map encNeed) none (some k)), .clo (.func 157) [.rp (encNeed x0)]] (fun d os => d = .bool (decide (0 ≤ idxQ (sameN x0) (a.take k))) ∧ os = []) := by
  have h := c_slices_ContainsNeed (a.take k) x0
  rwa [cutT_sl] at h
theorem c_impl_ValidNeeds (M : List TMedia) (a : List TNeed) : FnC Tryz.prog 94 G0 0 [] [.sl 2 (M.map encMedia), .sl 2 (a.map encNeed)] (fun d os => d = .bool (validMs M && needsQ M a) ∧ os = []) := by
  refine fn_rule Tryz.func94 rfl (by decide +kernel) rfl (fun w0 F0 lent β0 => ?_)
  repeat' (first | refine sC ?_ | ((with_reducible refine isAwp ?_); first | (refine sS ?_; intro Q' hn he hr) | refine sA ?_) | (refine sH ?_; clear hn he hr Q') | ((conv => whnf); first | refine sK ?_ | (refine sB ?_; repeat' (first | refine sb0 ?_ | (refine sb2 ?_ ?_ <;> intro hb <;> try exact cls))) | ((with_reducible refine isCall ?_); (refine call_pure (c_impl_ValidMedia M) rfl rfl ?_)) | (refine sL ?_; intro hlen) | (refine ret_pick [] rfl rfl rfl ⟨?_, rfl⟩; conv => lhs; whnf)))
  · rw [hb]; rfl
  · rw [needsQ_long (by omega), Bool.and_false]
  · have hvm : validMs M = true := by assumption
    have hq : (validMs M && needsQ M a) = needsQ M a := by rw [hvm, Bool.true_and]
    refine loop_env (fun k : Nat => [(0,.sl 2 (M.map encMedia)),(1,.sl 2 (a.map encNeed)),(15,.sl 2 (a.map encNeed)),(16,.int .i64 a.length),(17,.int .i64 k)]) (fun _ => []) (fun k => k ≤ a.length ∧ allIto (needP M a) a k) (fun k => a.length - k) 0 ⟨by omega, allIto_zero⟩ (by refine weak_to rfl rfl rfl ?_; ((repeat' (first | exact trivial | refine And.intro ?_ ?_)) <;> (first | rfl | (conv => rhs; whnf) <;> (first | rfl | (refine congrArg (D.int _) ?_; omega))))) (fun k hk Q' hn he hr => ?_)
    repeat' (first | refine sC ?_ | ((with_reducible refine isAwp ?_); first | (refine sS ?_; intro Q' hn he hr) | refine sA ?_) | (refine sH ?_; clear hn he hr Q') | refine sO ?_ | ((conv => whnf); first | refine sK ?_ | (refine sB ?_; repeat' (first | refine sb0 ?_ | (refine sb2 ?_ ?_ <;> intro hb <;> try exact cls))) | ((with_reducible refine isCall ?_); (refine call_look (c_slices_ContainsNeed_cut a k x) rfl ?_)) | ((with_reducible refine isCallQ ?_); first | (refine callQ_pure (c_impl_sizeOf M _) rfl rfl ?_) | (refine callQ_pure (c_within _ _ _) rfl rfl ?_)) | refine sP ?_ | (refine sE ?_; intro x hx) | (refine sF ?_; intro i y hi hy) | refine sD ?_ | (refine ret_pick [] rfl rfl rfl ⟨?_, rfl⟩; conv => lhs; whnf) | (refine sH ?_; clear hn he hr Q')))
    all_goals first
      | (have h9 := allI_of hk.2 (by omega); have h8 : a.length ≤ 16 := (by omega); simp [hvm, needsQ, h9, h8]; done)
      | (rw [hq, needsQ_bad hx (needP_size hb)]; done)
      | (rw [hq, needsQ_bad hx (needP_time hb)]; done)
      | (rw [hq, needsQ_bad hx (needP_prev (show i + 1 = k by omega) hy hb)]; done)
      | (rw [hq, needsQ_bad hx (needP_dup ((idxQ_take (by omega)).1 hb))]; done)
      | (refine ⟨k + 1, ⟨by omega, allIto_succ hk.2 hx (needP_yes (by assumption) (by assumption) ?_ (none_of_neg' (by omega) (by omega)))⟩, by omega, (by refine weak_to rfl rfl rfl ?_; ((repeat' (first | exact trivial | refine And.intro ?_ ?_)) <;> (first | rfl | (conv => rhs; whnf) <;> (first | rfl | (refine congrArg (D.int _) ?_; omega)))))⟩
         first
           | exact prevB_first (by omega)
           | (rw [prevB_at (lt := leNeed) (x := x) (show i + 1 = k by omega) hy]; exact decide_eq_true (by assumption)))
theorem c_spec_l13Time' (n : Int) : FnC Tryz.prog 132 G0 0 [] [.int .i64 n] (fun d os => d = .bool (inB n 0 7200000) ∧ os = []) := by
  refine fn_rule Tryz.func132 rfl (by decide +kernel) rfl (fun w0 F0 lent β0 => ?_)
  repeat' (first | refine sC ?_ | ((with_reducible refine isAwp ?_); first | (refine sS ?_; intro Q' hn he hr) | refine sA ?_) | (refine sH ?_; clear hn he hr Q') | ((conv => whnf); first | refine sK ?_ | ((with_reducible refine isCall ?_); (refine call_pure (c_l00In _ _ _) rfl rfl ?_)) | (refine ret_pick [] rfl rfl rfl ⟨?_, rfl⟩; conv => lhs; whnf)))
theorem c_spec_l25Needs (M : List TMedia) (a : List TNeed) : FnC Tryz.prog 73 G0 0 [] [.sl 2 (M.map encMedia), .sl 2 (a.map encNeed)] (fun d os => d = .bool (needsQ M a) ∧ os = []) := by
  refine fn_rule Tryz.func73 rfl (by decide +kernel) rfl (fun w0 F0 lent β0 => ?_)
  repeat' (first | refine sC ?_ | ((with_reducible refine isAwp ?_); first | (refine sS ?_; intro Q' hn he hr) | refine sA ?_) | (refine sH ?_; clear hn he hr Q') | ((conv => whnf); refine sK ?_))
  refine loop_env (fun k : Nat => [(0,.sl 2 (M.map encMedia)),(1,.sl 2 (a.map encNeed)),(5,.int .i64 k)]) (fun _ => []) (fun k => k ≤ a.length ∧ allIto (needP M a) a k) (fun k => a.length - k) 0 ⟨by omega, allIto_zero⟩ (by refine weak_to rfl rfl rfl ?_; ((repeat' (first | exact trivial | refine And.intro ?_ ?_)) <;> (first | rfl | (conv => rhs; whnf) <;> (first | rfl | (refine congrArg (D.int _) ?_; omega))))) (fun k hk Q' hn he hr => ?_)
  repeat' (first | refine sC ?_ | ((with_reducible refine isAwp ?_); first | (refine sS ?_; intro Q' hn he hr) | refine sA ?_) | (refine sH ?_; clear hn he hr Q') | refine sO ?_ | ((conv => whnf); first | refine sK ?_ | (refine sB ?_; repeat' (first | refine sb0 ?_ | (refine sb2 ?_ ?_ <;> intro hb <;> try exact cls))) | ((with_reducible refine isCallQ ?_); first | (refine callQ_pure (c_spec_l25Size M _) rfl rfl ?_) | (refine callQ_pure (c_spec_l13Time' _) rfl rfl ?_)) | refine sP ?_ | (refine sE ?_; intro x hx) | (refine sF ?_; intro i y hi hy) | (refine sL ?_; intro hlen) | refine sD ?_ | (refine ret_pick [] rfl rfl rfl ⟨?_, rfl⟩; conv => lhs; whnf) | (refine sH ?_; clear hn he hr Q')))
  all_goals first
    | (rw [needsQ_bad hx (needP_size hb)]; done)
    | (rw [needsQ_bad hx (needP_time hb)]; done)
    | (rw [needsQ_bad hx (needP_prev (show i + 1 = k by omega) hy hb)]; done)
    | (have h9 := allI_of hk.2 (by omega); simp [needsQ, h9]; try omega; done)
    | skip
  iterate 2
    · have hs : ¬ sizeM M x.fName = 0 := by assumption
      have ht : inB x.fTime 0 7200000 = true := by assumption
      have hx0 := hx
      have hpv : prevB leNeed a k x = true := by
        first
          | exact prevB_first (by omega)
          | (rw [prevB_at (lt := leNeed) (x := x) (show i + 1 = k by omega) hy]; exact decide_eq_true (by assumption))
      refine loop_env (fun j : Nat => [(0,.sl 2 (M.map encMedia)),(1,.sl 2 (a.map encNeed)),(5,.int .i64 k),(6,.int .i64 j)]) (fun _ => []) (fun j => j ≤ k ∧ noneTo (sameN x) a j) (fun j => k - j) 0 ⟨by omega, noneTo_zero⟩ (by refine weak_to rfl rfl rfl ?_; ((repeat' (first | exact trivial | refine And.intro ?_ ?_)) <;> (first | rfl | (conv => rhs; whnf) <;> (first | rfl | (refine congrArg (D.int _) ?_; omega))))) (fun j hj Q' hn he hr => ?_)
      by_cases hjk : j < k
      · obtain ⟨z, hz⟩ : ∃ z, a[j]? = some z := ⟨_, List.getElem?_eq_getElem (by omega)⟩
        repeat' (first | refine sC ?_ | ((with_reducible refine isAwp ?_); first | (refine sS ?_; intro Q' hn he hr) | refine sA ?_) | (refine sH ?_; clear hn he hr Q') | refine sO ?_ | ((conv => whnf); first | refine sK ?_ | (refine sB ?_; repeat' (refine sb2 ?_ ?_ <;> intro hb <;> try exact cls)) | (refine ElemS.the hz ?_) | (refine ElemS.the hx0 ?_) | refine sP ?_ | refine sD ?_ | (refine ret_pick [] rfl rfl rfl ⟨?_, rfl⟩; conv => lhs; whnf)))
        all_goals first
          | (rw [needsQ_bad hx0 (needP_dup (noneB_bad hz hjk (by simp [sameN, hb])))]; done)
          | exact ⟨j + 1, ⟨by omega, noneTo_succ hj.2 hz (by simp [sameN, hb])⟩, by omega, (by refine weak_to rfl rfl rfl ?_; ((repeat' (first | exact trivial | refine And.intro ?_ ?_)) <;> (first | rfl | (conv => rhs; whnf) <;> (first | rfl | (refine congrArg (D.int _) ?_; omega)))))⟩
      · repeat' (first | refine sC ?_ | ((with_reducible refine isAwp ?_); first | (refine sS ?_; intro Q' hn he hr) | refine sA ?_) | (refine sH ?_; clear hn he hr Q') | ((conv => whnf); first | refine sK ?_ | (refine sB ?_; repeat' (refine sb2 ?_ ?_ <;> intro hb <;> try exact cls)) | refine sP ?_ | (refine sH ?_; clear hn he hr Q')))
        exact ⟨k + 1, ⟨by omega, allIto_succ hk.2 hx0 (needP_yes hs ht hpv (noneB_of fun i' y' hi' hy' => hj.2 i' y' (by omega) hy'))⟩, by omega, (by refine weak_to rfl rfl rfl ?_; ((repeat' (first | exact trivial | refine And.intro ?_ ?_)) <;> (first | rfl | (conv => rhs; whnf) <;> (first | rfl | (refine congrArg (D.int _) ?_; omega)))))⟩
end Go.Eng

namespace Go.Eng
open Go Go.RowKit Go.Proofs
set_option maxRecDepth 100000
def houseB (h : THouse) : Bool := domB h.fDome && (projsB h.fProjectors && (ringsB h.fRings && (idxsB (sumC h.fRings) h.fBooked && (fixsB h.fFixtures && (cuesB h.fCues && (scrsB h.fScript && (validMs h.fMedia && (needsQ h.fMedia h.fNeeds && (inB h.fStep 10000 90000 && (inB h.fLeast 0 1000 && (inB h.fBudget 1 20000 && inB h.fBandwidth 1 100000)))))))))))
set_option maxHeartbeats 4000000 in
theorem c_impl_ValidHouse (h : THouse) : FnC Tryz.prog 33 G0 0 [] [.agg (encHouse h)] (fun d os => d = .bool (houseB h) ∧ os = []) := by
  refine fn_rule Tryz.func33 rfl (by decide +kernel) rfl (fun w0 F0 lent β0 => ?_)
  cases hv : ringsB h.fRings with
  | false =>
    repeat' (first | refine sC ?_ | ((with_reducible refine isAwp ?_); first | (refine sS ?_; intro Q' hn he hr) | refine sA ?_) | (refine sH ?_; clear hn he hr Q') | refine sO ?_ | ((conv => whnf); first | refine sK ?_ | (refine sB ?_; repeat' (first | refine sb0 ?_ | (refine sb2 ?_ ?_ <;> intro hb <;> try exact cls))) | ((with_reducible refine isCallQ ?_); first | (refine callQ_pure (c_impl_ValidDome h.fDome) rfl rfl ?_) | (refine callQ_pure (c_impl_ValidProjectors h.fProjectors) rfl rfl ?_) | (refine callQ_pure (c_impl_ValidRings h.fRings) rfl rfl ?_)) | refine sD ?_ | (refine ret_pick [] rfl rfl rfl ⟨?_, rfl⟩; conv => lhs; whnf)))
    all_goals (simp_all [houseB]; done)
  | true =>
    obtain ⟨h1, h2, h3, h4⟩ := ringsB_all hv
    repeat' (first | refine sC ?_ | ((with_reducible refine isAwp ?_); first | (refine sS ?_; intro Q' hn he hr) | refine sA ?_) | (refine sH ?_; clear hn he hr Q') | refine sO ?_ | ((conv => whnf); first | refine sK ?_ | (refine sB ?_; repeat' (first | refine sb0 ?_ | (refine sb2 ?_ ?_ <;> intro hb <;> try exact cls))) | ((with_reducible refine isCallQ ?_); first | (refine callQ_pure (c_impl_ValidDome h.fDome) rfl rfl ?_) | (refine callQ_pure (c_impl_ValidProjectors h.fProjectors) rfl rfl ?_) | (refine callQ_pure (c_impl_ValidRings h.fRings) rfl rfl ?_) | (refine callQ_pure (c_impl_seatCount h.fRings h1 h2) rfl rfl ?_) | (refine callQ_pure (c_impl_areIndices h.fBooked (sumC h.fRings) (by omega)) rfl rfl ?_) | (refine callQ_pure (c_impl_ValidFixtures h.fFixtures) rfl rfl ?_) | (refine callQ_pure (c_impl_ValidCues h.fCues) rfl rfl ?_) | (refine callQ_pure (c_impl_ValidScript h.fScript) rfl rfl ?_) | (refine callQ_pure (c_impl_ValidNeeds h.fMedia h.fNeeds) rfl rfl ?_) | (refine callQ_pure (c_within _ _ _) rfl rfl ?_)) | refine sD ?_ | (refine ret_pick [] rfl rfl rfl ⟨?_, rfl⟩; conv => lhs; whnf)))
    all_goals (simp_all [houseB]; done)
end Go.Eng

namespace Go.Eng
open Go Go.RowKit Go.Proofs
set_option maxRecDepth 100000
theorem c_spec_l10Step (n : Int) : FnC Tryz.prog 66 G0 0 [] [.int .i64 n] (fun d os => d = .bool (inB n 10000 90000) ∧ os = []) := by
  refine fn_rule Tryz.func66 rfl (by decide +kernel) rfl (fun w0 F0 lent β0 => ?_)
  repeat' (first | refine sC ?_ | ((with_reducible refine isAwp ?_); first | (refine sS ?_; intro Q' hn he hr) | refine sA ?_) | (refine sH ?_; clear hn he hr Q') | ((conv => whnf); first | refine sK ?_ | ((with_reducible refine isCall ?_); (refine call_pure (c_l00In _ _ _) rfl rfl ?_)) | (refine ret_pick [] rfl rfl rfl ⟨?_, rfl⟩; conv => lhs; whnf)))
theorem c_spec_l25Bandwidth (n : Int) : FnC Tryz.prog 74 G0 0 [] [.int .i64 n] (fun d os => d = .bool (inB n 1 100000) ∧ os = []) := by
  refine fn_rule Tryz.func74 rfl (by decide +kernel) rfl (fun w0 F0 lent β0 => ?_)
  repeat' (first | refine sC ?_ | ((with_reducible refine isAwp ?_); first | (refine sS ?_; intro Q' hn he hr) | refine sA ?_) | (refine sH ?_; clear hn he hr Q') | ((conv => whnf); first | refine sK ?_ | ((with_reducible refine isCall ?_); (refine call_pure (c_l00In _ _ _) rfl rfl ?_)) | (refine ret_pick [] rfl rfl rfl ⟨?_, rfl⟩; conv => lhs; whnf)))
theorem houseB_booked {h : THouse} (hv : (ringsB h.fRings && idxsB (sumC h.fRings) h.fBooked) = false) : houseB h = false := by
  unfold houseB
  cases h1 : ringsB h.fRings with
  | false => simp
  | true =>
    rw [h1, Bool.true_and] at hv
    simp [hv]
set_option maxHeartbeats 4000000 in
theorem c_spec_l31Ok (h : THouse) (r : List D) : FnC Tryz.prog 22 G0 0 [] [.rp (encHouseR h r)] (fun d os => d = .bool (houseB h) ∧ os = []) := by
  have hbk := c_spec_l23Booked h.fRings h.fBooked
  cases hv : (ringsB h.fRings && idxsB (sumC h.fRings) h.fBooked) with
  | false =>
    rw [houseB_booked hv]
    rw [hv] at hbk
    refine fn_rule Tryz.func22 rfl (by decide +kernel) rfl (fun w0 F0 lent β0 => ?_)
    repeat' (first | refine sC ?_ | ((with_reducible refine isAwp ?_); first | (refine sS ?_; intro Q' hn he hr) | refine sA ?_) | (refine sH ?_; clear hn he hr Q') | refine sO ?_ | ((conv => whnf); first | refine sK ?_ | (refine sB ?_; repeat' (first | refine sb0 ?_ | (refine sb2 ?_ ?_ <;> intro hb <;> try exact cls))) | ((with_reducible refine isCallQ ?_); first | (refine callQ_pure (c_spec_l09Ok h.fDome _) rfl rfl ?_) | (refine callQ_pure (c_spec_l10Ok h.fProjectors) rfl rfl ?_) | (refine callQ_pure (c_spec_l10Step _) rfl rfl ?_) | (refine callQ_pure (hbk) rfl rfl ?_)) | refine sD ?_ | (refine ret_pick [] rfl rfl rfl ⟨?_, rfl⟩; conv => lhs; whnf)))
  | true =>
    rw [hv] at hbk
    refine fn_rule Tryz.func22 rfl (by decide +kernel) rfl (fun w0 F0 lent β0 => ?_)
    repeat' (first | refine sC ?_ | ((with_reducible refine isAwp ?_); first | (refine sS ?_; intro Q' hn he hr) | refine sA ?_) | (refine sH ?_; clear hn he hr Q') | refine sO ?_ | ((conv => whnf); first | refine sK ?_ | (refine sB ?_; repeat' (first | refine sb0 ?_ | (refine sb2 ?_ ?_ <;> intro hb <;> try exact cls))) | ((with_reducible refine isCall ?_); first | (refine call_pure (c_l00In _ _ _) rfl rfl ?_) | (refine call_pure (c_spec_l20Ok h.fFixtures) rfl rfl ?_) | (refine call_pure (c_spec_l13Ok h.fCues) rfl rfl ?_) | (refine call_pure (c_spec_l15Ok h.fScript) rfl rfl ?_)) | ((with_reducible refine isCallQ ?_); first | (refine callQ_pure (c_spec_l09Ok h.fDome _) rfl rfl ?_) | (refine callQ_pure (c_spec_l10Ok h.fProjectors) rfl rfl ?_) | (refine callQ_pure (c_spec_l10Step _) rfl rfl ?_) | (refine callQ_pure (hbk) rfl rfl ?_) | (refine callQ_pure (c_l00In _ _ _) rfl rfl ?_) | (refine callQ_pure (c_spec_l25Ok h.fMedia) rfl rfl ?_) | (refine callQ_pure (c_spec_l25Needs h.fMedia h.fNeeds) rfl rfl ?_) | (refine callQ_pure (c_spec_l25Bandwidth _) rfl rfl ?_)) | refine sD ?_ | (refine ret_pick [] rfl rfl rfl ⟨?_, rfl⟩; conv => lhs; whnf)))
    all_goals (simp_all [houseB]; done)
end Go.Eng
