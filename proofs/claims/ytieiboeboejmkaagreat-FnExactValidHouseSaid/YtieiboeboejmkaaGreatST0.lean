/-
  Stars: validity, texts, blocks of stars.
  No conditions.
-/
import Derived.Test.YtieiboeboejmkaaGreatED
import Derived.Test.YtieiboeboejmkaaGreatW1
import Derived.Test.YtieiboeboejmkaaGreatD1
import Derived.Test.YtieiboeboejmkaaGreatV0
import Derived.Test.YtieiboeboejmkaaGreatTX
set_option linter.unusedVariables false
set_option linter.unusedSimpArgs false
set_option maxHeartbeats 4000000
namespace Go.Eng
open Go Go.RowKit Go.Proofs
set_option maxRecDepth 100000
structure TStar where
  fId : List UInt8
  fRight : Int
  fDeclination : Int
  fMagnitude : Int
  fColour : Int
def encStar (x : TStar) : List D := [.str x.fId, .int .i64 x.fRight, .int .i64 x.fDeclination, .int .i64 x.fMagnitude, .int .i64 x.fColour]
def TStar.sz (x : TStar) : Nat := x.fId.length
def eqTStar (a b : TStar) : Bool := eqStr a.fId b.fId && (eqI a.fRight b.fRight && (eqI a.fDeclination b.fDeclination && (eqI a.fMagnitude b.fMagnitude && (eqI a.fColour b.fColour))))
theorem eqTStar_refl (x : TStar) : eqTStar x x = true := by simp [eqTStar, eqI, eqStr, eqBo]
def dirB (r d : Int) : Bool := inB r 0 359999 && inB d (-90000) 90000
theorem c_validDirection (r d : Int) : FnC Tryz.prog 106 G0 0 [] [.int .i64 r, .int .i64 d] (fun e os => e = .bool (dirB r d) ∧ os = []) := by
  refine fn_rule Tryz.func106 rfl (by decide +kernel) rfl (fun w0 F0 lent β0 => ?_)
  repeat' (first | refine sC ?_ | ((with_reducible refine isAwp ?_); first | (refine sS ?_; intro Q' hn he hr) | refine sA ?_) | (refine sH ?_; clear hn he hr Q') | ((conv => whnf); first | refine sK ?_ | (refine sB ?_; repeat' (first | refine sb0 ?_ | (refine sb2 ?_ ?_ <;> intro hb <;> try exact cls))) | ((with_reducible refine isCall ?_); (refine call_pure (c_within _ _ _) rfl rfl ?_)) | (refine ret_pick [] rfl rfl rfl ⟨?_, rfl⟩; conv => lhs; whnf)))
  all_goals simp_all [dirB]
theorem c_l03Angle (r : Int) : FnC Tryz.prog 127 G0 0 [] [.int .i64 r] (fun e os => e = .bool (inB r 0 359999) ∧ os = []) := by
  refine fn_rule Tryz.func127 rfl (by decide +kernel) rfl (fun w0 F0 lent β0 => ?_)
  repeat' (first | refine sC ?_ | ((with_reducible refine isAwp ?_); first | (refine sS ?_; intro Q' hn he hr) | refine sA ?_) | (refine sH ?_; clear hn he hr Q') | ((conv => whnf); first | refine sK ?_ | ((with_reducible refine isCall ?_); (refine call_pure (c_l00In _ _ _) rfl rfl ?_)) | (refine ret_pick [] rfl rfl rfl ⟨?_, rfl⟩; conv => lhs; whnf)))
def starB (x : TStar) : Bool := nameB x.fId && (dirB x.fRight x.fDeclination && (inB x.fMagnitude (-200) 800 && inB x.fColour (-50) 250))
def ltStar (a b : TStar) : Bool := Op.bytesLess a.fId b.fId
def starsB (a : List TStar) : Bool := decide (a.length ≤ 24) && listOk starB ltStar a
theorem starsB_long {a : List TStar} (h : ¬ a.length ≤ 24) : starsB a = false := by simp [starsB, h]
def starText (x : TStar) : List UInt8 := x.fId ++ [32] ++ Lib.itoa x.fRight ++ [32] ++ Lib.itoa x.fDeclination ++ [32] ++ Lib.itoa x.fMagnitude ++ [32] ++ Lib.itoa x.fColour
theorem starB_facts {x : TStar} (h : starB x = true) : x.fId.length ≤ 10 ∧ (0 ≤ x.fRight ∧ x.fRight ≤ 359999) ∧ (-90000 ≤ x.fDeclination ∧ x.fDeclination ≤ 90000) ∧ (-200 ≤ x.fMagnitude ∧ x.fMagnitude ≤ 800) ∧ (-50 ≤ x.fColour ∧ x.fColour ≤ 250) := by
  simp only [starB, nameB, dirB, inB, Bool.and_eq_true, decide_eq_true_eq] at h
  exact ⟨h.1.2.1, h.2.1.1, h.2.1.2, h.2.2.1, h.2.2.2⟩
theorem itoa_len {n : Int} (h : -1000000 ≤ n ∧ n ≤ 1000000) : (Lib.itoa n).length ≤ 21 := Lib.itoa_length_le n (by omega) (by omega)
theorem itoa_sign {n : Int} (h : n < 0) : [45] ++ Lib.itoa (-n) = Lib.itoa n := by
  rw [Lib.itoa, Lib.itoa, if_pos h, if_neg (by omega)]
  have : (-n).toNat = n.natAbs := by omega
  rw [this]
  rfl
def starBlk (x : TStar) : TBlock := ⟨[115, 116, 97, 114], x.fId, starText x⟩
def starBlks (a : List TStar) (k : Nat) : List TBlock := (a.take k).map starBlk
theorem starBlks_succ {a : List TStar} {k : Nat} {x : TStar} (hx : a[k]? = some x) : starBlks a (k + 1) = starBlks a k ++ [starBlk x] := by
  rw [starBlks, List.take_add_one, hx, starBlks]
  simp
theorem starBlks_len (a : List TStar) (k : Nat) : (starBlks a k).length ≤ a.length := by
  simp only [starBlks, List.length_map, List.length_take]
  omega
theorem starsB_at {a : List TStar} (h : starsB a = true) {k : Nat} {x : TStar} (hx : a[k]? = some x) : starB x = true := by
  simp only [starsB, Bool.and_eq_true] at h
  exact listOk_at h.2 hx
theorem starsB_len {a : List TStar} (h : starsB a = true) : a.length ≤ 24 := by
  simp only [starsB, Bool.and_eq_true, decide_eq_true_eq] at h
  exact h.1
end Go.Eng
