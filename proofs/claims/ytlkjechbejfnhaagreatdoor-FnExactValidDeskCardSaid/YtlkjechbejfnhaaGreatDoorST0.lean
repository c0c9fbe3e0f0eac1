/-
  Stars: validity, texts, blocks of stars.
  No conditions.
-/
import Derived.Test.YtlkjechbejfnhaaGreatDoorED
import Derived.Test.YtlkjechbejfnhaaGreatDoorW1
import Derived.Test.YtlkjechbejfnhaaGreatDoorD1
import Derived.Test.YtlkjechbejfnhaaGreatDoorV0
import Derived.Test.YtlkjechbejfnhaaGreatDoorTB
set_option linter.unusedVariables false
set_option linter.unusedSimpArgs false
set_option maxHeartbeats 4000000
namespace Go.Eng
open Go Go.RowKit Go.Proofs
set_option maxRecDepth 100000
structure TStar where
  fId : List UInt8
  fRight : Int
  fDeclination : Int
  fMagnitude : Int
  fColour : Int
def encStar (x : TStar) : List D := [.str x.fId, .int .i64 x.fRight, .int .i64 x.fDeclination, .int .i64 x.fMagnitude, .int .i64 x.fColour]
def TStar.sz (x : TStar) : Nat := x.fId.length
def eqTStar (a b : TStar) : Bool := eqStr a.fId b.fId && (eqI a.fRight b.fRight && (eqI a.fDeclination b.fDeclination && (eqI a.fMagnitude b.fMagnitude && (eqI a.fColour b.fColour))))
theorem eqTStar_refl (x : TStar) : eqTStar x x = true := by simp [eqTStar, eqI, eqStr, eqBo]
def dirB (r d : Int) : Bool := inB r 0 359999 && inB d (-90000) 90000
theorem c_validDirection (r d : Int) : FnC Tryz.prog 225 G0 0 [] [.int .i64 r, .int .i64 d] (fun e os => e = .bool (dirB r d) ∧ os = []) := by
  refine fn_rule Tryz.func225 rfl (by decide +kernel) rfl (fun w0 F0 lent β0 => ?_)
  repeat' (first | refine sC ?_ | ((with_reducible refine isAwp ?_); first | (refine sS ?_; intro Q' hn he hr) | refine sA ?_) | (refine sH ?_; clear hn he hr Q') | refine sO ?_ | ((conv => whnf); first | refine sK ?_ | (refine sB ?_; repeat' (first | refine sb0 ?_ | (refine sb2 ?_ ?_ <;> intro hb <;> try exact cls))) | ((with_reducible refine isCall ?_); first | (refine call_pure (c_within _ _ _) rfl rfl ?_)) | ((with_reducible refine isCallQ ?_); first | (refine callQ_pure (c_within _ _ _) rfl rfl ?_)) | refine sP ?_ | (refine sE ?_; intro x hx) | (refine sF ?_; intro i y hi hy) | (refine sI ?_; intro i hi) | (refine sL ?_; intro hlen) | (refine sQ ?_; intro c hc hcm; try simp only [lnM, lnA, lnC, lnN] at hc) | (refine sX ?_; intro i1 i2 hi1 hi2 hj1 hj2; try simp only [cutL, lnM, lnA, lnC, lnN, lnT, lnD, lnR] at hi1 hi2 hj2) | refine sD ?_ | (refine ret_pick [] rfl rfl rfl ⟨?_, rfl⟩; conv => lhs; whnf) | (refine ret_pick [0] rfl rfl rfl ⟨rfl, ?_⟩) | (refine sH ?_; clear hn he hr Q')))
  all_goals simp_all [dirB]
theorem c_l03Angle (r : Int) : FnC Tryz.prog 312 G0 0 [] [.int .i64 r] (fun e os => e = .bool (inB r 0 359999) ∧ os = []) := by
  refine fn_rule Tryz.func312 rfl (by decide +kernel) rfl (fun w0 F0 lent β0 => ?_)
  repeat' (first | refine sC ?_ | ((with_reducible refine isAwp ?_); first | (refine sS ?_; intro Q' hn he hr) | refine sA ?_) | (refine sH ?_; clear hn he hr Q') | refine sO ?_ | ((conv => whnf); first | refine sK ?_ | (refine sB ?_; repeat' (first | refine sb0 ?_ | (refine sb2 ?_ ?_ <;> intro hb <;> try exact cls))) | ((with_reducible refine isCall ?_); first | (refine call_pure (c_l00In _ _ _) rfl rfl ?_)) | ((with_reducible refine isCallQ ?_); first | (refine callQ_pure (c_l00In _ _ _) rfl rfl ?_)) | refine sP ?_ | (refine sE ?_; intro x hx) | (refine sF ?_; intro i y hi hy) | (refine sI ?_; intro i hi) | (refine sL ?_; intro hlen) | (refine sQ ?_; intro c hc hcm; try simp only [lnM, lnA, lnC, lnN] at hc) | (refine sX ?_; intro i1 i2 hi1 hi2 hj1 hj2; try simp only [cutL, lnM, lnA, lnC, lnN, lnT, lnD, lnR] at hi1 hi2 hj2) | refine sD ?_ | (refine ret_pick [] rfl rfl rfl ⟨?_, rfl⟩; conv => lhs; whnf) | (refine ret_pick [0] rfl rfl rfl ⟨rfl, ?_⟩) | (refine sH ?_; clear hn he hr Q')))
theorem c_l05Direction (r d : Int) : FnC Tryz.prog 273 G0 0 [] [.int .i64 r, .int .i64 d] (fun e os => e = .bool (dirB r d) ∧ os = []) := by
  refine fn_rule Tryz.func273 rfl (by decide +kernel) rfl (fun w0 F0 lent β0 => ?_)
  repeat' (first | refine sC ?_ | ((with_reducible refine isAwp ?_); first | (refine sS ?_; intro Q' hn he hr) | refine sA ?_) | (refine sH ?_; clear hn he hr Q') | refine sO ?_ | ((conv => whnf); first | refine sK ?_ | (refine sB ?_; repeat' (first | refine sb0 ?_ | (refine sb2 ?_ ?_ <;> intro hb <;> try exact cls))) | ((with_reducible refine isCall ?_); first | (refine call_pure (c_l03Angle _) rfl rfl ?_) | (refine call_pure (c_l00In _ _ _) rfl rfl ?_)) | ((with_reducible refine isCallQ ?_); first | (refine callQ_pure (c_l03Angle _) rfl rfl ?_) | (refine callQ_pure (c_l00In _ _ _) rfl rfl ?_)) | refine sP ?_ | (refine sE ?_; intro x hx) | (refine sF ?_; intro i y hi hy) | (refine sI ?_; intro i hi) | (refine sL ?_; intro hlen) | (refine sQ ?_; intro c hc hcm; try simp only [lnM, lnA, lnC, lnN] at hc) | (refine sX ?_; intro i1 i2 hi1 hi2 hj1 hj2; try simp only [cutL, lnM, lnA, lnC, lnN, lnT, lnD, lnR] at hi1 hi2 hj2) | refine sD ?_ | (refine ret_pick [] rfl rfl rfl ⟨?_, rfl⟩; conv => lhs; whnf) | (refine ret_pick [0] rfl rfl rfl ⟨rfl, ?_⟩) | (refine sH ?_; clear hn he hr Q')))
  all_goals simp_all [dirB]
def starB (x : TStar) : Bool := nameB x.fId && (dirB x.fRight x.fDeclination && (inB x.fMagnitude (-200) 800 && inB x.fColour (-50) 250))
theorem c_impl_ValidStar (x : TStar) : FnC Tryz.prog 168 G0 0 [] [.agg (encStar x)] (fun e os => e = .bool (starB x) ∧ os = []) := by
  refine fn_rule Tryz.func168 rfl (by decide +kernel) rfl (fun w0 F0 lent β0 => ?_)
  repeat' (first | refine sC ?_ | ((with_reducible refine isAwp ?_); first | (refine sS ?_; intro Q' hn he hr) | refine sA ?_) | (refine sH ?_; clear hn he hr Q') | refine sO ?_ | ((conv => whnf); first | refine sK ?_ | (refine sB ?_; repeat' (first | refine sb0 ?_ | (refine sb2 ?_ ?_ <;> intro hb <;> try exact cls))) | ((with_reducible refine isCall ?_); first | (refine call_pure (c_impl_IsName _) rfl rfl ?_) | (refine call_pure (c_validDirection _ _) rfl rfl ?_) | (refine call_pure (c_within _ _ _) rfl rfl ?_)) | ((with_reducible refine isCallQ ?_); first | (refine callQ_pure (c_impl_IsName _) rfl rfl ?_) | (refine callQ_pure (c_validDirection _ _) rfl rfl ?_) | (refine callQ_pure (c_within _ _ _) rfl rfl ?_)) | refine sP ?_ | (refine sE ?_; intro x hx) | (refine sF ?_; intro i y hi hy) | (refine sI ?_; intro i hi) | (refine sL ?_; intro hlen) | (refine sQ ?_; intro c hc hcm; try simp only [lnM, lnA, lnC, lnN] at hc) | (refine sX ?_; intro i1 i2 hi1 hi2 hj1 hj2; try simp only [cutL, lnM, lnA, lnC, lnN, lnT, lnD, lnR] at hi1 hi2 hj2) | refine sD ?_ | (refine ret_pick [] rfl rfl rfl ⟨?_, rfl⟩; conv => lhs; whnf) | (refine ret_pick [0] rfl rfl rfl ⟨rfl, ?_⟩) | (refine sH ?_; clear hn he hr Q')))
  all_goals simp_all [starB]
theorem c_spec_l05One (x : TStar) : FnC Tryz.prog 222 G0 0 [] [.rp (encStar x)] (fun e os => e = .bool (starB x) ∧ os = []) := by
  refine fn_rule Tryz.func222 rfl (by decide +kernel) rfl (fun w0 F0 lent β0 => ?_)
  repeat' (first | refine sC ?_ | ((with_reducible refine isAwp ?_); first | (refine sS ?_; intro Q' hn he hr) | refine sA ?_) | (refine sH ?_; clear hn he hr Q') | refine sO ?_ | ((conv => whnf); first | refine sK ?_ | (refine sB ?_; repeat' (first | refine sb0 ?_ | (refine sb2 ?_ ?_ <;> intro hb <;> try exact cls))) | ((with_reducible refine isCall ?_); first | (refine call_pure (c_spec_l01Name _) rfl rfl ?_) | (refine call_pure (c_l05Direction _ _) rfl rfl ?_) | (refine call_pure (c_l00In _ _ _) rfl rfl ?_)) | ((with_reducible refine isCallQ ?_); first | (refine callQ_pure (c_spec_l01Name _) rfl rfl ?_) | (refine callQ_pure (c_l05Direction _ _) rfl rfl ?_) | (refine callQ_pure (c_l00In _ _ _) rfl rfl ?_)) | refine sP ?_ | (refine sE ?_; intro x hx) | (refine sF ?_; intro i y hi hy) | (refine sI ?_; intro i hi) | (refine sL ?_; intro hlen) | (refine sQ ?_; intro c hc hcm; try simp only [lnM, lnA, lnC, lnN] at hc) | (refine sX ?_; intro i1 i2 hi1 hi2 hj1 hj2; try simp only [cutL, lnM, lnA, lnC, lnN, lnT, lnD, lnR] at hi1 hi2 hj2) | refine sD ?_ | (refine ret_pick [] rfl rfl rfl ⟨?_, rfl⟩; conv => lhs; whnf) | (refine ret_pick [0] rfl rfl rfl ⟨rfl, ?_⟩) | (refine sH ?_; clear hn he hr Q')))
  all_goals simp_all [starB]
def ltStar (a b : TStar) : Bool := Op.bytesLess a.fId b.fId
def starsB (a : List TStar) : Bool := decide (a.length ≤ 24) && listOk starB ltStar a
theorem starsB_long {a : List TStar} (h : ¬ a.length ≤ 24) : starsB a = false := by simp [starsB, h]
theorem c_impl_ValidStars (a : List TStar) : FnC Tryz.prog 96 G0 0 [] [.sl 5 (a.map encStar)] (fun d os => d = .bool (starsB a) ∧ os = []) := by
  refine fn_rule Tryz.func96 rfl (by decide +kernel) rfl (fun w0 F0 lent β0 => ?_)
  repeat' (first | refine sC ?_ | ((with_reducible refine isAwp ?_); first | (refine sS ?_; intro Q' hn he hr) | refine sA ?_) | (refine sH ?_; clear hn he hr Q') | refine sO ?_ | ((conv => whnf); first | refine sK ?_ | (refine sB ?_; repeat' (first | refine sb0 ?_ | (refine sb2 ?_ ?_ <;> intro hb <;> try exact cls))) | refine sP ?_ | (refine sE ?_; intro x hx) | (refine sF ?_; intro i y hi hy) | (refine sI ?_; intro i hi) | (refine sL ?_; intro hlen) | (refine sQ ?_; intro c hc hcm; try simp only [lnM, lnA, lnC, lnN] at hc) | (refine sX ?_; intro i1 i2 hi1 hi2 hj1 hj2; try simp only [cutL, lnM, lnA, lnC, lnN, lnT, lnD, lnR] at hi1 hi2 hj2) | refine sD ?_ | (refine ret_pick [] rfl rfl rfl ⟨?_, rfl⟩; conv => lhs; whnf) | (refine ret_pick [0] rfl rfl rfl ⟨rfl, ?_⟩) | (refine sH ?_; clear hn he hr Q')))
  · rw [starsB_long (by omega)]
  · refine loop_env (fun k : Nat => [(2,.bool false),(8,.sl 5 (a.map encStar)),(5,.sl 5 (a.map encStar)),(0,.sl 5 (a.map encStar)),(9,.int .i64 a.length),(10,.int .i64 k)]) (fun _ => []) (fun k => k ≤ a.length ∧ okTo starB ltStar a k) (fun k => a.length - k) 0 ⟨by omega, okTo_zero⟩ (by refine weak_to rfl rfl rfl ?_; ((repeat' (first | exact trivial | refine And.intro ?_ ?_)) <;> (first | rfl | (conv => rhs; whnf) <;> (first | rfl | (refine congrArg (D.int _) ?_; omega))))) (fun k hk Q' hn he hr => ?_)
    repeat' (first | refine sC ?_ | ((with_reducible refine isAwp ?_); first | (refine sS ?_; intro Q' hn he hr) | refine sA ?_) | (refine sH ?_; clear hn he hr Q') | refine sO ?_ | ((conv => whnf); first | refine sK ?_ | (refine sB ?_; repeat' (first | refine sb0 ?_ | (refine sb2 ?_ ?_ <;> intro hb <;> try exact cls))) | ((with_reducible refine isCall ?_); first | (refine call_pure (c_impl_ValidStar _) rfl rfl ?_)) | ((with_reducible refine isCallQ ?_); first | (refine callQ_pure (c_impl_ValidStar _) rfl rfl ?_)) | refine sP ?_ | (refine sE ?_; intro x hx) | (refine sF ?_; intro i y hi hy) | (refine sI ?_; intro i hi) | (refine sL ?_; intro hlen) | (refine sQ ?_; intro c hc hcm; try simp only [lnM, lnA, lnC, lnN] at hc) | (refine sX ?_; intro i1 i2 hi1 hi2 hj1 hj2; try simp only [cutL, lnM, lnA, lnC, lnN, lnT, lnD, lnR] at hi1 hi2 hj2) | refine sD ?_ | (refine ret_pick [] rfl rfl rfl ⟨?_, rfl⟩; conv => lhs; whnf) | (refine ret_pick [0] rfl rfl rfl ⟨rfl, ?_⟩) | (refine sH ?_; clear hn he hr Q')))
    all_goals first
      | (have h9 := listOk_bad (p := starB) (lt := ltStar) hx (by assumption); simp [starsB, h9]; done)
      | (have h9 := listOk_unrising (p := starB) (lt := ltStar) hx (by omega) hy (by assumption); simp [starsB, h9]; done)
      | (refine ⟨k + 1, ⟨by omega, okTo_succ hk.2 hx (by assumption) (fun i' y' hi' hy' => ?_)⟩, by omega, (by refine weak_to rfl rfl rfl ?_; ((repeat' (first | exact trivial | refine And.intro ?_ ?_)) <;> (first | rfl | (conv => rhs; whnf) <;> (first | rfl | (refine congrArg (D.int _) ?_; omega)))))⟩; first | (exfalso; omega) | (obtain rfl : i' = i := (by omega); rw [hy] at hy'; cases hy'; assumption))
      | (have h9 := listOk_of hk.2 (by omega); simp [starsB, h9]; done)
      | (have h9 := listOk_of hk.2 (by omega); simp [starsB, h9]; omega)
theorem c_spec_l05Ok (a : List TStar) : FnC Tryz.prog 160 G0 0 [] [.sl 5 (a.map encStar)] (fun d os => d = .bool (starsB a) ∧ os = []) := by
  refine fn_rule Tryz.func160 rfl (by decide +kernel) rfl (fun w0 F0 lent β0 => ?_)
  repeat' (first | refine sC ?_ | ((with_reducible refine isAwp ?_); first | (refine sS ?_; intro Q' hn he hr) | refine sA ?_) | (refine sH ?_; clear hn he hr Q') | refine sO ?_ | ((conv => whnf); first | refine sK ?_ | (refine sB ?_; repeat' (first | refine sb0 ?_ | (refine sb2 ?_ ?_ <;> intro hb <;> try exact cls))) | refine sP ?_ | (refine sE ?_; intro x hx) | (refine sF ?_; intro i y hi hy) | (refine sI ?_; intro i hi) | (refine sL ?_; intro hlen) | (refine sQ ?_; intro c hc hcm; try simp only [lnM, lnA, lnC, lnN] at hc) | (refine sX ?_; intro i1 i2 hi1 hi2 hj1 hj2; try simp only [cutL, lnM, lnA, lnC, lnN, lnT, lnD, lnR] at hi1 hi2 hj2) | refine sD ?_ | (refine ret_pick [] rfl rfl rfl ⟨?_, rfl⟩; conv => lhs; whnf) | (refine ret_pick [0] rfl rfl rfl ⟨rfl, ?_⟩) | (refine sH ?_; clear hn he hr Q')))
  refine loop_env (fun k : Nat => [(2,.bool false),(0,.sl 5 (a.map encStar)),(3,.int .i64 k)]) (fun _ => []) (fun k => k ≤ a.length ∧ okTo starB ltStar a k) (fun k => a.length - k) 0 ⟨by omega, okTo_zero⟩ (by refine weak_to rfl rfl rfl ?_; ((repeat' (first | exact trivial | refine And.intro ?_ ?_)) <;> (first | rfl | (conv => rhs; whnf) <;> (first | rfl | (refine congrArg (D.int _) ?_; omega))))) (fun k hk Q' hn he hr => ?_)
  repeat' (first | refine sC ?_ | ((with_reducible refine isAwp ?_); first | (refine sS ?_; intro Q' hn he hr) | refine sA ?_) | (refine sH ?_; clear hn he hr Q') | refine sO ?_ | ((conv => whnf); first | refine sK ?_ | (refine sB ?_; repeat' (first | refine sb0 ?_ | (refine sb2 ?_ ?_ <;> intro hb <;> try exact cls))) | ((with_reducible refine isCall ?_); first | (refine call_look (c_spec_l05One _) rfl ?_)) | ((with_reducible refine isCallQ ?_); first | (refine callQ_look (c_spec_l05One _) rfl ?_)) | refine sP ?_ | (refine sE ?_; intro x hx) | (refine sF ?_; intro i y hi hy) | (refine sI ?_; intro i hi) | (refine sL ?_; intro hlen) | (refine sQ ?_; intro c hc hcm; try simp only [lnM, lnA, lnC, lnN] at hc) | (refine sX ?_; intro i1 i2 hi1 hi2 hj1 hj2; try simp only [cutL, lnM, lnA, lnC, lnN, lnT, lnD, lnR] at hi1 hi2 hj2) | refine sD ?_ | (refine ret_pick [] rfl rfl rfl ⟨?_, rfl⟩; conv => lhs; whnf) | (refine ret_pick [0] rfl rfl rfl ⟨rfl, ?_⟩) | (refine sH ?_; clear hn he hr Q')))
  all_goals first
    | (have h9 := listOk_bad (p := starB) (lt := ltStar) hx (by assumption); simp [starsB, h9]; done)
    | (have h9 := listOk_unrising (p := starB) (lt := ltStar) hx (by omega) hy (by assumption); simp [starsB, h9]; done)
    | (refine ⟨k + 1, ⟨by omega, okTo_succ hk.2 hx (by assumption) (fun i' y' hi' hy' => ?_)⟩, by omega, (by refine weak_to rfl rfl rfl ?_; ((repeat' (first | exact trivial | refine And.intro ?_ ?_)) <;> (first | rfl | (conv => rhs; whnf) <;> (first | rfl | (refine congrArg (D.int _) ?_; omega)))))⟩; first | (exfalso; omega) | (obtain rfl : i' = i := (by omega); rw [hy] at hy'; cases hy'; assumption))
    | (have h9 := listOk_of hk.2 (by omega); simp [starsB, h9]; done)
    | (have h9 := listOk_of hk.2 (by omega); simp [starsB, h9]; omega)
def starText (x : TStar) : List UInt8 := x.fId ++ [32] ++ Lib.itoa x.fRight ++ [32] ++ Lib.itoa x.fDeclination ++ [32] ++ Lib.itoa x.fMagnitude ++ [32] ++ Lib.itoa x.fColour
theorem starB_facts {x : TStar} (h : starB x = true) : x.fId.length ≤ 10 ∧ (0 ≤ x.fRight ∧ x.fRight ≤ 359999) ∧ (-90000 ≤ x.fDeclination ∧ x.fDeclination ≤ 90000) ∧ (-200 ≤ x.fMagnitude ∧ x.fMagnitude ≤ 800) ∧ (-50 ≤ x.fColour ∧ x.fColour ≤ 250) := by
  simp only [starB, nameB, dirB, inB, Bool.and_eq_true, decide_eq_true_eq] at h
  exact ⟨h.1.2.1, h.2.1.1, h.2.1.2, h.2.2.1, h.2.2.2⟩
theorem itoa_len {n : Int} (h : -1000000 ≤ n ∧ n ≤ 1000000) : (Lib.itoa n).length ≤ 21 := Lib.itoa_length_le n (by omega) (by omega)
theorem itoa_sign {n : Int} (h : n < 0) : [45] ++ Lib.itoa (-n) = Lib.itoa n := by
  rw [Lib.itoa, Lib.itoa, if_pos h, if_neg (by omega)]
  have : (-n).toNat = n.natAbs := by omega
  rw [this]
  rfl
def starBlk (x : TStar) : TBlock := ⟨[115, 116, 97, 114], x.fId, starText x⟩
def starBlks (a : List TStar) (k : Nat) : List TBlock := (a.take k).map starBlk
theorem starBlks_succ {a : List TStar} {k : Nat} {x : TStar} (hx : a[k]? = some x) : starBlks a (k + 1) = starBlks a k ++ [starBlk x] := by
  rw [starBlks, List.take_add_one, hx, starBlks]
  simp
theorem starBlks_len (a : List TStar) (k : Nat) : (starBlks a k).length ≤ a.length := by
  simp only [starBlks, List.length_map, List.length_take]
  omega
theorem starsB_at {a : List TStar} (h : starsB a = true) {k : Nat} {x : TStar} (hx : a[k]? = some x) : starB x = true := by
  simp only [starsB, Bool.and_eq_true] at h
  exact listOk_at h.2 hx
theorem starsB_len {a : List TStar} (h : starsB a = true) : a.length ≤ 24 := by
  simp only [starsB, Bool.and_eq_true, decide_eq_true_eq] at h
  exact h.1
end Go.Eng
