/-
  Contracts of functions of the program and of the reference, and plain laws: a bundle of texts.
  No conditions.
-/
import Derived.Test.YtigdnelbanaieaaGreatDoorED
import Derived.Test.YtigdnelbanaieaaGreatDoorEC
import Derived.Test.YtigdnelbanaieaaGreatDoorHT
import Derived.Test.YtigdnelbanaieaaGreatDoorW1
import Derived.Test.YtigdnelbanaieaaGreatDoorV0
import Derived.Test.YtigdnelbanaieaaGreatDoorBA
set_option linter.unusedVariables false
set_option linter.unusedSimpArgs false
set_option maxHeartbeats 4000000
namespace Go.Eng
open Go Go.RowKit
def allI {α : Type} (p : Nat → α → Bool) (a : List α) : Bool := (List.range a.length).all fun k => match a[k]? with
  | some x => p k x
  | none => true
def allIto {α : Type} (p : Nat → α → Bool) (a : List α) (k : Nat) : Prop := ∀ j x, j < k → a[j]? = some x → p j x = true
theorem allIto_zero {α : Type} {p : Nat → α → Bool} {a : List α} : allIto p a 0 := fun _ _ h => absurd h (Nat.not_lt_zero _)
theorem allIto_succ {α : Type} {p : Nat → α → Bool} {a : List α} {k : Nat} {x : α} (h : allIto p a k) (hx : a[k]? = some x) (hp : p k x = true) : allIto p a (k + 1) := by
  intro j y hj hy
  by_cases e : j = k
  · subst e; rw [hx] at hy; cases hy; exact hp
  · exact h j y (by omega) hy
theorem allI_of {α : Type} {p : Nat → α → Bool} {a : List α} {k : Nat} (h : allIto p a k) (hk : a.length ≤ k) : allI p a = true := by
  unfold allI
  rw [List.all_eq_true]
  intro j hj
  have hj := List.mem_range.1 hj
  have hx : a[j]? = some a[j] := List.getElem?_eq_getElem hj
  rw [hx]
  exact h j _ (by omega) hx
theorem allI_bad {α : Type} {p : Nat → α → Bool} {a : List α} {k : Nat} {x : α} (hx : a[k]? = some x) (hp : p k x = false) : allI p a = false := by
  unfold allI
  rw [List.all_eq_false]
  refine ⟨k, List.mem_range.2 (List.getElem?_eq_some_iff.1 hx).1, ?_⟩
  rw [hx]
  simp [hp]
theorem allI_at {α : Type} {p : Nat → α → Bool} {a : List α} (h : allI p a = true) {k : Nat} {x : α} (hx : a[k]? = some x) : p k x = true := by
  unfold allI at h
  have := List.all_eq_true.1 h k (List.mem_range.2 (List.getElem?_eq_some_iff.1 hx).1)
  rw [hx] at this
  exact this
def prevB {α : Type} (lt : α → α → Bool) (a : List α) (k : Nat) (x : α) : Bool := match k with
  | 0 => true
  | j + 1 => match a[j]? with
    | some y => lt y x
    | none => true
theorem prevB_at {α : Type} {lt : α → α → Bool} {a : List α} {k i : Nat} {x y : α} (hi : i + 1 = k) (hy : a[i]? = some y) : prevB lt a k x = lt y x := by
  subst hi
  simp [prevB, hy]
theorem prevB_first {α : Type} {lt : α → α → Bool} {a : List α} {k : Nat} {x : α} (hk : ¬ 0 < k) : prevB lt a k x = true := by
  obtain rfl : k = 0 := by omega
  rfl
def noneB {α : Type} (q : α → Bool) (a : List α) (k : Nat) : Bool := (a.take k).all fun y => !q y
theorem noneB_bad {α : Type} {q : α → Bool} {a : List α} {k i : Nat} {y : α} (hy : a[i]? = some y) (hi : i < k) (hq : q y = true) : noneB q a k = false := by
  unfold noneB
  rw [List.all_eq_false]
  refine ⟨y, List.mem_of_getElem? (i := i) (by rw [List.getElem?_take, if_pos hi, hy]), by simp [hq]⟩
theorem noneB_of {α : Type} {q : α → Bool} {a : List α} {k : Nat} (h : noneTo q a k) : noneB q a k = true := by
  unfold noneB
  rw [List.all_eq_true]
  intro y hy
  obtain ⟨i, hi⟩ := List.getElem?_of_mem hy
  rw [List.getElem?_take] at hi
  split at hi
  · rename_i hik
    rw [h i y hik hi]
    rfl
  · cases hi
theorem noneB_first {α : Type} {q : α → Bool} {a : List α} {k : Nat} (hk : k ≤ a.length) : noneB q a k = decide (k ≤ firstAt q a) := by
  cases h : noneB q a k with
  | true =>
    symm
    rw [decide_eq_true_eq]
    apply Classical.byContradiction
    intro hc
    have h1 := (firstAt_spec q a).2 a[firstAt q a] (List.getElem?_eq_getElem (by omega))
    rw [noneB_bad (List.getElem?_eq_getElem (by omega)) (by omega) h1] at h
    cases h
  | false =>
    symm
    rw [decide_eq_false_iff_not]
    intro hc
    rw [noneB_of fun j x hj hx => (firstAt_spec q a).1 j x (by omega) hx] at h
    cases h
theorem firstAt_take {α : Type} {q : α → Bool} {a : List α} {k : Nat} (hk : k ≤ a.length) : (firstAt q (a.take k) < (a.take k).length) ↔ noneB q a k = false := by
  have hl : (a.take k).length = k := by rw [List.length_take]; omega
  rw [hl]
  constructor
  · intro h
    have h1 := (firstAt_spec q (a.take k)).2 (a.take k)[firstAt q (a.take k)] (List.getElem?_eq_getElem (by omega))
    refine noneB_bad (i := firstAt q (a.take k)) (y := (a.take k)[firstAt q (a.take k)]) ?_ h h1
    have h2 : (a.take k)[firstAt q (a.take k)]? = some (a.take k)[firstAt q (a.take k)] := List.getElem?_eq_getElem (by omega)
    rwa [List.getElem?_take, if_pos h] at h2
  · intro h
    apply Classical.byContradiction
    intro hc
    have h1 := firstAt_le q (a.take k)
    rw [noneB_of fun j x hj hx => (firstAt_spec q (a.take k)).1 j x (by omega) (by rw [List.getElem?_take, if_pos hj, hx])] at h
    cases h
/-- An index, or -1. -/
def idxQ {α : Type} (q : α → Bool) (a : List α) : Int := if firstAt q a < a.length then firstAt q a else -1
theorem idxQ_lt {α : Type} {q : α → Bool} {a : List α} {k : Nat} {x : α} (hx : a[k]? = some x) (hq : q x = true) : idxQ q a = firstAt q a ∧ firstAt q a ≤ k := by
  have h1 := (List.getElem?_eq_some_iff.1 hx).1
  have h2 : firstAt q a ≤ k := by
    apply Classical.byContradiction
    intro hc
    rw [(firstAt_spec q a).1 k x (by omega) hx] at hq
    cases hq
  unfold idxQ
  rw [if_pos (by omega)]
  exact ⟨rfl, h2⟩
theorem idxQ_take {α : Type} {q : α → Bool} {a : List α} {k : Nat} (hk : k ≤ a.length) : (0 ≤ idxQ q (a.take k)) ↔ noneB q a k = false := by
  rw [← firstAt_take hk]
  unfold idxQ
  have hl : (a.take k).length = k := by rw [List.length_take]; omega
  split
  · exact ⟨fun _ => by assumption, fun _ => by omega⟩
  · exact ⟨fun h => by omega, fun h => absurd h (by assumption)⟩
theorem idxQ_here {α : Type} {q : α → Bool} {a : List α} {k : Nat} {x : α} (h : noneTo q a k) (hx : a[k]? = some x) (hq : q x = true) : idxQ q a = k := by
  have := firstAt_here h hx hq
  unfold idxQ
  rw [this, if_pos (List.getElem?_eq_some_iff.1 hx).1]
theorem idxQ_none {α : Type} {q : α → Bool} {a : List α} {k : Nat} (h : noneTo q a k) (hk : a.length ≤ k) : idxQ q a = -1 := by
  unfold idxQ
  rw [firstAt_none h hk, if_neg (by omega)]
theorem cutT_sl {α : Type} {enc : α → List D} {a : List α} {k s : Nat} : D.sl s ((a.take k).map enc) = D.sl s (cutL (a.map enc) none (some k)) := by
  simp [cutL, List.map_take]
theorem cutT_len {α : Type} {enc : α → List D} {a : List α} {k : Nat} (h : k ≤ a.length) : D.int .i64 (k : Int) = D.int .i64 ((cutL (a.map enc) none (some k)).length : Int) := by
  refine congrArg (D.int _) ?_
  simp [cutL]
  omega
theorem take_at {α : Type} {a : List α} {k j : Nat} {x : α} (h : (a.take k)[j]? = some x) : a[j]? = some x := by
  rw [List.getElem?_take] at h
  split at h
  · exact h
  · cases h
end Go.Eng

namespace Go.Eng
open Go Go.RowKit Go.Proofs
set_option maxRecDepth 100000
theorem c_spec_l06Turn' (n : Int) : FnC Tryz.prog 176 G0 0 [] [.int .i64 n] (fun d os => d = .bool (inB n 0 359999) ∧ os = []) := by
  refine fn_rule Tryz.func176 rfl (by decide +kernel) rfl (fun w0 F0 lent β0 => ?_)
  repeat' (first | refine sC ?_ | ((with_reducible refine isAwp ?_); first | (refine sS ?_; intro Q' hn he hr) | refine sA ?_) | (refine sH ?_; clear hn he hr Q') | ((conv => whnf); first | refine sK ?_ | ((with_reducible refine isCall ?_); (refine call_pure (c_l00In _ _ _) rfl rfl ?_)) | (refine ret_pick [] rfl rfl rfl ⟨?_, rfl⟩; conv => lhs; whnf)))
theorem c_spec_l06Latitude (n : Int) : FnC Tryz.prog 177 G0 0 [] [.int .i64 n] (fun d os => d = .bool (inB n (-90000) 90000) ∧ os = []) := by
  refine fn_rule Tryz.func177 rfl (by decide +kernel) rfl (fun w0 F0 lent β0 => ?_)
  repeat' (first | refine sC ?_ | ((with_reducible refine isAwp ?_); first | (refine sS ?_; intro Q' hn he hr) | refine sA ?_) | (refine sH ?_; clear hn he hr Q') | ((conv => whnf); first | refine sK ?_ | ((with_reducible refine isCall ?_); (refine call_pure (c_l00In _ _ _) rfl rfl ?_)) | (refine ret_pick [] rfl rfl rfl ⟨?_, rfl⟩; conv => lhs; whnf)))
theorem inB_le3 {n l h : Int} (hb : inB n l h = true) : l ≤ n ∧ n ≤ h := by simpa [inB] using hb
def domB (d : TDome) : Bool := nameB d.fName && (inB d.fRadius 1000 30000 && inB d.fTilt 0 45000)
theorem c_impl_ValidDome (d : TDome) : FnC Tryz.prog 86 G0 0 [] [.agg (encDome d)] (fun e os => e = .bool (domB d) ∧ os = []) := by
  refine fn_rule Tryz.func86 rfl (by decide +kernel) rfl (fun w0 F0 lent β0 => ?_)
  repeat' (first | refine sC ?_ | ((with_reducible refine isAwp ?_); first | (refine sS ?_; intro Q' hn he hr) | refine sA ?_) | (refine sH ?_; clear hn he hr Q') | ((conv => whnf); first | refine sK ?_ | (refine sB ?_; repeat' (first | refine sb0 ?_ | (refine sb2 ?_ ?_ <;> intro hb <;> try exact cls))) | ((with_reducible refine isCall ?_); first | (refine call_pure (c_impl_IsName _) rfl rfl ?_) | (refine call_pure (c_within _ _ _) rfl rfl ?_)) | (refine ret_pick [] rfl rfl rfl ⟨?_, rfl⟩; conv => lhs; whnf)))
  all_goals simp [domB, *]
theorem c_spec_l09Ok (d : TDome) (r : List D) : FnC Tryz.prog 64 G0 0 [] [.rp (encDome d ++ r)] (fun e os => e = .bool (domB d) ∧ os = []) := by
  refine fn_rule Tryz.func64 rfl (by decide +kernel) rfl (fun w0 F0 lent β0 => ?_)
  repeat' (first | refine sC ?_ | ((with_reducible refine isAwp ?_); first | (refine sS ?_; intro Q' hn he hr) | refine sA ?_) | (refine sH ?_; clear hn he hr Q') | ((conv => whnf); first | refine sK ?_ | (refine sB ?_; repeat' (first | refine sb0 ?_ | (refine sb2 ?_ ?_ <;> intro hb <;> try exact cls))) | ((with_reducible refine isCall ?_); first | (refine call_pure (c_spec_l01Name _) rfl rfl ?_) | (refine call_pure (c_l00In _ _ _) rfl rfl ?_)) | (refine ret_pick [] rfl rfl rfl ⟨?_, rfl⟩; conv => lhs; whnf)))
  all_goals simp [domB, *]
def projB (p : TProjector) : Bool := nameB p.fName && (dirB p.fAzimuth p.fAltitude && (inB p.fField 5000 120000 && inB p.fPower 1 1000))
def ltProj (a b : TProjector) : Bool := Op.bytesLess a.fName b.fName
def projsB (a : List TProjector) : Bool := decide (a.length ≤ 6) && listOk projB ltProj a
theorem projsB_long {a : List TProjector} (h : ¬ a.length ≤ 6) : projsB a = false := by simp [projsB, h]
theorem c_impl_validProjector (p : TProjector) : FnC Tryz.prog 147 G0 0 [] [.agg (encProjector p)] (fun e os => e = .bool (projB p) ∧ os = []) := by
  refine fn_rule Tryz.func147 rfl (by decide +kernel) rfl (fun w0 F0 lent β0 => ?_)
  repeat' (first | refine sC ?_ | ((with_reducible refine isAwp ?_); first | (refine sS ?_; intro Q' hn he hr) | refine sA ?_) | (refine sH ?_; clear hn he hr Q') | ((conv => whnf); first | refine sK ?_ | (refine sB ?_; repeat' (first | refine sb0 ?_ | (refine sb2 ?_ ?_ <;> intro hb <;> try exact cls))) | ((with_reducible refine isCall ?_); first | (refine call_pure (c_impl_IsName _) rfl rfl ?_) | (refine call_pure (c_validDirection _ _) rfl rfl ?_) | (refine call_pure (c_within _ _ _) rfl rfl ?_)) | (refine ret_pick [] rfl rfl rfl ⟨?_, rfl⟩; conv => lhs; whnf)))
  all_goals simp [projB, *]
theorem c_spec_l10One (p : TProjector) : FnC Tryz.prog 119 G0 0 [] [.rp (encProjector p)] (fun e os => e = .bool (projB p) ∧ os = []) := by
  refine fn_rule Tryz.func119 rfl (by decide +kernel) rfl (fun w0 F0 lent β0 => ?_)
  repeat' (first | refine sC ?_ | ((with_reducible refine isAwp ?_); first | (refine sS ?_; intro Q' hn he hr) | refine sA ?_) | (refine sH ?_; clear hn he hr Q') | ((conv => whnf); first | refine sK ?_ | (refine sB ?_; repeat' (first | refine sb0 ?_ | (refine sb2 ?_ ?_ <;> intro hb <;> try exact cls))) | ((with_reducible refine isCall ?_); first | (refine call_pure (c_spec_l01Name _) rfl rfl ?_) | (refine call_pure (c_spec_l06Turn' _) rfl rfl ?_) | (refine call_pure (c_spec_l06Latitude _) rfl rfl ?_) | (refine call_pure (c_l00In _ _ _) rfl rfl ?_)) | (refine ret_pick [] rfl rfl rfl ⟨?_, rfl⟩; conv => lhs; whnf)))
  all_goals simp [projB, dirB, *]
theorem c_impl_ValidProjectors (a : List TProjector) : FnC Tryz.prog 87 G0 0 [] [.sl 5 (a.map encProjector)] (fun d os => d = .bool (projsB a) ∧ os = []) := by
  refine fn_rule Tryz.func87 rfl (by decide +kernel) rfl (fun w0 F0 lent β0 => ?_)
  repeat' (first | refine sC ?_ | ((with_reducible refine isAwp ?_); first | (refine sS ?_; intro Q' hn he hr) | refine sA ?_) | (refine sH ?_; clear hn he hr Q') | ((conv => whnf); first | refine sK ?_ | (refine sB ?_; repeat' (refine sb2 ?_ ?_ <;> intro hb <;> try exact cls)) | (refine sL ?_; intro hlen) | (refine ret_pick [] rfl rfl rfl ⟨?_, rfl⟩; conv => lhs; whnf)))
  · rw [projsB_long (by omega)]
  · refine loop_env (fun k : Nat => [(2,.bool false),(8,.sl 5 (a.map encProjector)),(0,.sl 5 (a.map encProjector)),(9,.int .i64 a.length),(10,.int .i64 k)]) (fun _ => []) (fun k => k ≤ a.length ∧ okTo projB ltProj a k) (fun k => a.length - k) 0 ⟨by omega, okTo_zero⟩ (by refine weak_to rfl rfl rfl ?_; ((repeat' (first | exact trivial | refine And.intro ?_ ?_)) <;> (first | rfl | (conv => rhs; whnf) <;> (first | rfl | (refine congrArg (D.int _) ?_; omega))))) (fun k hk Q' hn he hr => ?_)
    repeat' (first | refine sC ?_ | ((with_reducible refine isAwp ?_); first | (refine sS ?_; intro Q' hn he hr) | refine sA ?_) | (refine sH ?_; clear hn he hr Q') | refine sO ?_ | ((conv => whnf); first | refine sK ?_ | (refine sB ?_; repeat' (first | refine sb0 ?_ | (refine sb2 ?_ ?_ <;> intro hb <;> try exact cls))) | ((with_reducible refine isCallQ ?_); (refine callQ_pure (c_impl_validProjector _) rfl rfl ?_)) | refine sP ?_ | (refine sE ?_; intro x hx) | (refine sF ?_; intro i y hi hy) | refine sD ?_ | (refine ret_pick [] rfl rfl rfl ⟨?_, rfl⟩; conv => lhs; whnf) | (refine sH ?_; clear hn he hr Q')))
    all_goals first
      | (have h9 := listOk_bad (p := projB) (lt := ltProj) hx (by assumption); simp [projsB, h9]; done)
      | (have h9 := listOk_unrising (p := projB) (lt := ltProj) hx (by omega) hy (by assumption); simp [projsB, h9]; done)
      | (refine ⟨k + 1, ⟨by omega, okTo_succ hk.2 hx (by assumption) (fun i' y' hi' hy' => ?_)⟩, by omega, (by refine weak_to rfl rfl rfl ?_; ((repeat' (first | exact trivial | refine And.intro ?_ ?_)) <;> (first | rfl | (conv => rhs; whnf) <;> (first | rfl | (refine congrArg (D.int _) ?_; omega)))))⟩; first | (exfalso; omega) | (obtain rfl : i' = i := (by omega); rw [hy] at hy'; cases hy'; assumption))
      | (have h9 := listOk_of hk.2 (by omega); simp [projsB, h9]; done)
      | (have h9 := listOk_of hk.2 (by omega); simp [projsB, h9]; omega)
theorem c_spec_l10Ok (a : List TProjector) : FnC Tryz.prog 65 G0 0 [] [.sl 5 (a.map encProjector)] (fun d os => d = .bool (projsB a) ∧ os = []) := by
  refine fn_rule Tryz.func65 rfl (by decide +kernel) rfl (fun w0 F0 lent β0 => ?_)
  repeat' (first | refine sC ?_ | ((with_reducible refine isAwp ?_); first | (refine sS ?_; intro Q' hn he hr) | refine sA ?_) | (refine sH ?_; clear hn he hr Q') | ((conv => whnf); refine sK ?_))
  refine loop_env (fun k : Nat => [(2,.bool false),(0,.sl 5 (a.map encProjector)),(3,.int .i64 k)]) (fun _ => []) (fun k => k ≤ a.length ∧ okTo projB ltProj a k) (fun k => a.length - k) 0 ⟨by omega, okTo_zero⟩ (by refine weak_to rfl rfl rfl ?_; ((repeat' (first | exact trivial | refine And.intro ?_ ?_)) <;> (first | rfl | (conv => rhs; whnf) <;> (first | rfl | (refine congrArg (D.int _) ?_; omega))))) (fun k hk Q' hn he hr => ?_)
  repeat' (first | refine sC ?_ | ((with_reducible refine isAwp ?_); first | (refine sS ?_; intro Q' hn he hr) | refine sA ?_) | (refine sH ?_; clear hn he hr Q') | refine sO ?_ | ((conv => whnf); first | refine sK ?_ | (refine sB ?_; repeat' (first | refine sb0 ?_ | (refine sb2 ?_ ?_ <;> intro hb <;> try exact cls))) | ((with_reducible refine isCallQ ?_); (refine callQ_look (c_spec_l10One _) rfl ?_)) | refine sP ?_ | (refine sE ?_; intro x hx) | (refine sF ?_; intro i y hi hy) | (refine sL ?_; intro hlen) | refine sD ?_ | (refine ret_pick [] rfl rfl rfl ⟨?_, rfl⟩; conv => lhs; whnf) | (refine sH ?_; clear hn he hr Q')))
  all_goals first
    | (have h9 := listOk_bad (p := projB) (lt := ltProj) hx (by assumption); simp [projsB, h9]; done)
    | (have h9 := listOk_unrising (p := projB) (lt := ltProj) hx (by omega) hy (by assumption); simp [projsB, h9]; done)
    | (refine ⟨k + 1, ⟨by omega, okTo_succ hk.2 hx (by assumption) (fun i' y' hi' hy' => ?_)⟩, by omega, (by refine weak_to rfl rfl rfl ?_; ((repeat' (first | exact trivial | refine And.intro ?_ ?_)) <;> (first | rfl | (conv => rhs; whnf) <;> (first | rfl | (refine congrArg (D.int _) ?_; omega)))))⟩; first | (exfalso; omega) | (obtain rfl : i' = i := (by omega); rw [hy] at hy'; cases hy'; assumption))
    | (have h9 := listOk_of hk.2 (by omega); simp [projsB, h9]; done)
    | (have h9 := listOk_of hk.2 (by omega); simp [projsB, h9]; omega)
def ringB (r : TRing) : Bool := inB r.fRadius 500 30000 && (inB r.fCount 1 60 && (inB r.fFrom 0 359999 && (inB r.fStep 1000 90000 && (inB r.fPrice 0 10000 && decide (r.fCount * r.fStep ≤ 360000)))))
def ltRing (a b : TRing) : Bool := decide (a.fRadius < b.fRadius)
def sumC (a : List TRing) : Int := (a.map (·.fCount)).sum
def ringsB (a : List TRing) : Bool := decide (a.length ≤ 6) && (listOk ringB ltRing a && decide (sumC a ≤ 120))
theorem ringB_mul {r : TRing} (h1 : inB r.fCount 1 60 = true) (h2 : inB r.fStep 1000 90000 = true) : 0 ≤ r.fCount * r.fStep ∧ r.fCount * r.fStep ≤ 5400000 := by
  simp only [inB, decide_eq_true_eq] at h1 h2
  refine ⟨Int.mul_nonneg (by omega) (by omega), ?_⟩
  have := Int.mul_le_mul h1.2 h2.2 (by omega) (by omega)
  omega
theorem c_impl_validRing (r : TRing) : FnC Tryz.prog 148 G0 0 [] [.agg (encRing r)] (fun e os => e = .bool (ringB r) ∧ os = []) := by
  refine fn_rule Tryz.func148 rfl (by decide +kernel) rfl (fun w0 F0 lent β0 => ?_)
  repeat' (first | refine sC ?_ | ((with_reducible refine isAwp ?_); first | (refine sS ?_; intro Q' hn he hr) | refine sA ?_) | (refine sH ?_; clear hn he hr Q') | ((conv => whnf); first | refine sK ?_ | (refine sB ?_; repeat' (first | refine sb0 ?_ | (refine sb2 ?_ ?_ <;> intro hb <;> try exact cls))) | (refine ArithS.in64 (by have h9 := ringB_mul (r := r) (by assumption) (by assumption); omega) ?_) | ((with_reducible refine isCall ?_); (refine call_pure (c_within _ _ _) rfl rfl ?_)) | (refine ret_pick [] rfl rfl rfl ⟨?_, rfl⟩; conv => lhs; whnf)))
  all_goals (simp [ringB, *] <;> done)
theorem c_spec_l03Angle' (n : Int) : FnC Tryz.prog 217 G0 0 [] [.int .i64 n] (fun d os => d = .bool (inB n 0 359999) ∧ os = []) := by
  refine fn_rule Tryz.func217 rfl (by decide +kernel) rfl (fun w0 F0 lent β0 => ?_)
  repeat' (first | refine sC ?_ | ((with_reducible refine isAwp ?_); first | (refine sS ?_; intro Q' hn he hr) | refine sA ?_) | (refine sH ?_; clear hn he hr Q') | ((conv => whnf); first | refine sK ?_ | ((with_reducible refine isCall ?_); (refine call_pure (c_l00In _ _ _) rfl rfl ?_)) | (refine ret_pick [] rfl rfl rfl ⟨?_, rfl⟩; conv => lhs; whnf)))
theorem c_spec_l23One (r : TRing) : FnC Tryz.prog 178 G0 0 [] [.rp (encRing r)] (fun e os => e = .bool (ringB r) ∧ os = []) := by
  refine fn_rule Tryz.func178 rfl (by decide +kernel) rfl (fun w0 F0 lent β0 => ?_)
  repeat' (first | refine sC ?_ | ((with_reducible refine isAwp ?_); first | (refine sS ?_; intro Q' hn he hr) | refine sA ?_) | (refine sH ?_; clear hn he hr Q') | refine sO ?_ | ((conv => whnf); first | refine sK ?_ | (refine sB ?_; repeat' (first | refine sb0 ?_ | (refine sb2 ?_ ?_ <;> intro hb <;> try exact cls))) | (refine ArithS.in64 (by have h9 := ringB_mul (r := r) (by assumption) (by assumption); omega) ?_) | ((with_reducible refine isCallQ ?_); first | (refine callQ_pure (c_l00In _ _ _) rfl rfl ?_) | (refine callQ_pure (c_spec_l03Angle' _) rfl rfl ?_)) | refine sD ?_ | (refine ret_pick [] rfl rfl rfl ⟨?_, rfl⟩; conv => lhs; whnf)))
  all_goals (simp [ringB, *] <;> done)
theorem sumC_take {a : List TRing} {k : Nat} {x : TRing} (h : a[k]? = some x) : sumC (a.take (k + 1)) = sumC (a.take k) + x.fCount := by
  unfold sumC
  rw [List.take_add_one, h]
  simp
theorem ringB_count {r : TRing} (h : ringB r = true) : 1 ≤ r.fCount ∧ r.fCount ≤ 60 := by
  simp only [ringB, inB, Bool.and_eq_true, decide_eq_true_eq] at h
  exact h.2.1
theorem sumC_bound {a : List TRing} (h : ∀ (k : Nat) x, a[k]? = some x → ringB x = true) : (0 ≤ sumC a ∧ sumC a ≤ 60 * a.length) := by
  induction a with
  | nil => simp [sumC]
  | cons m r ih =>
    have h1 := ringB_count (h 0 m rfl)
    have h2 := ih fun k x hx => h (k + 1) x (by simpa using hx)
    unfold sumC at *
    rw [List.map_cons, List.sum_cons, List.length_cons]
    omega
theorem sumC_to {a : List TRing} (h : ∀ (k : Nat) x, a[k]? = some x → ringB x = true) (k : Nat) : 0 ≤ sumC (a.take k) ∧ sumC (a.take k) ≤ 60 * a.length := by
  have h1 := sumC_bound (a := a.take k) fun j x hx => by
    rw [List.getElem?_take] at hx
    split at hx
    · exact h j x hx
    · cases hx
  have h2 : (a.take k).length ≤ a.length := by rw [List.length_take]; omega
  omega
theorem c_impl_seatCount (a : List TRing) (h : ∀ (k : Nat) x, a[k]? = some x → ringB x = true) (hl : a.length ≤ 6) : FnC Tryz.prog 90 G0 0 [] [.sl 5 (a.map encRing)] (fun d os => d = .int .i64 (sumC a) ∧ os = []) := by
  refine fn_rule Tryz.func90 rfl (by decide +kernel) rfl (fun w0 F0 lent β0 => ?_)
  repeat' (first | refine sC ?_ | ((with_reducible refine isAwp ?_); first | (refine sS ?_; intro Q' hn he hr) | refine sA ?_) | (refine sH ?_; clear hn he hr Q') | ((conv => whnf); first | refine sK ?_ | (refine sL ?_; intro hlen)))
  refine loop_env (fun k : Nat => [(0,.sl 5 (a.map encRing)),(3,.int .i64 (sumC (a.take k))),(6,.sl 5 (a.map encRing)),(7,.int .i64 a.length),(8,.int .i64 k)]) (fun _ => []) (fun k => k ≤ a.length) (fun k => a.length - k) 0 (by omega) (by refine weak_to rfl rfl rfl ?_; ((repeat' (first | exact trivial | refine And.intro ?_ ?_)) <;> (first | rfl | (conv => rhs; whnf) <;> (first | rfl | (refine congrArg (D.int _) ?_; omega))))) (fun k hk Q' hn he hr => ?_)
  have hsb := sumC_to h k
  repeat' (first | refine sC ?_ | ((with_reducible refine isAwp ?_); first | (refine sS ?_; intro Q' hn he hr) | refine sA ?_) | (refine sH ?_; clear hn he hr Q') | ((conv => whnf); first | refine sK ?_ | (refine sB ?_; repeat' (refine sb2 ?_ ?_ <;> intro hb <;> try exact cls)) | (refine ArithS.in64 (by have h9 := ringB_count (h _ _ hx); omega) ?_) | (refine sE ?_; intro x hx) | (refine ret_pick [] rfl rfl rfl ⟨?_, rfl⟩; conv => lhs; whnf) | (refine sH ?_; clear hn he hr Q')))
  · refine ⟨k + 1, by omega, by omega, ?_⟩
    rw [sumC_take hx]
    exact (by refine weak_to rfl rfl rfl ?_; ((repeat' (first | exact trivial | refine And.intro ?_ ?_)) <;> (first | rfl | (conv => rhs; whnf) <;> (first | rfl | (refine congrArg (D.int _) ?_; omega)))))
  · obtain rfl : k = a.length := by omega
    rw [List.take_length]
theorem c_spec_l23All (a : List TRing) (h : ∀ (k : Nat) x, a[k]? = some x → ringB x = true) (hl : a.length ≤ 6) : FnC Tryz.prog 122 G0 0 [] [.sl 5 (a.map encRing)] (fun d os => d = .int .i64 (sumC a) ∧ os = []) := by
  refine fn_rule Tryz.func122 rfl (by decide +kernel) rfl (fun w0 F0 lent β0 => ?_)
  repeat' (first | refine sC ?_ | ((with_reducible refine isAwp ?_); first | (refine sS ?_; intro Q' hn he hr) | refine sA ?_) | (refine sH ?_; clear hn he hr Q') | ((conv => whnf); refine sK ?_))
  refine loop_env (fun k : Nat => [(0,.sl 5 (a.map encRing)),(3,.int .i64 (sumC (a.take k))),(4,.int .i64 k)]) (fun _ => []) (fun k => k ≤ a.length) (fun k => a.length - k) 0 (by omega) (by refine weak_to rfl rfl rfl ?_; ((repeat' (first | exact trivial | refine And.intro ?_ ?_)) <;> (first | rfl | (conv => rhs; whnf) <;> (first | rfl | (refine congrArg (D.int _) ?_; omega))))) (fun k hk Q' hn he hr => ?_)
  have hsb := sumC_to h k
  repeat' (first | refine sC ?_ | ((with_reducible refine isAwp ?_); first | (refine sS ?_; intro Q' hn he hr) | refine sA ?_) | (refine sH ?_; clear hn he hr Q') | ((conv => whnf); first | refine sK ?_ | (refine sB ?_; repeat' (refine sb2 ?_ ?_ <;> intro hb <;> try exact cls)) | (refine ArithS.in64 (by have h9 := ringB_count (h _ _ hx); omega) ?_) | (refine sE ?_; intro x hx) | (refine sL ?_; intro hlen) | (refine ret_pick [] rfl rfl rfl ⟨?_, rfl⟩; conv => lhs; whnf) | (refine sH ?_; clear hn he hr Q')))
  · refine ⟨k + 1, by omega, by omega, ?_⟩
    rw [sumC_take hx]
    exact (by refine weak_to rfl rfl rfl ?_; ((repeat' (first | exact trivial | refine And.intro ?_ ?_)) <;> (first | rfl | (conv => rhs; whnf) <;> (first | rfl | (refine congrArg (D.int _) ?_; omega)))))
  · obtain rfl : k = a.length := by omega
    rw [List.take_length]
theorem ringsB_long {a : List TRing} (h : ¬ a.length ≤ 6) : ringsB a = false := by simp [ringsB, h]
theorem ringsB_iff {a : List TRing} : ringsB a = true ↔ a.length ≤ 6 ∧ listOk ringB ltRing a = true ∧ sumC a ≤ 120 := by simp [ringsB]
theorem ringsB_all {a : List TRing} (h : ringsB a = true) : (∀ (k : Nat) x, a[k]? = some x → ringB x = true) ∧ a.length ≤ 6 ∧ 0 ≤ sumC a ∧ sumC a ≤ 120 := by
  obtain ⟨h1, h2, h3⟩ := ringsB_iff.1 h
  have h4 : ∀ (k : Nat) x, a[k]? = some x → ringB x = true := fun k x hx => listOk_at h2 hx
  exact ⟨h4, h1, (sumC_bound h4).1, h3⟩
theorem okTo_all {α : Type} {p : α → Bool} {lt : α → α → Bool} {a : List α} {k : Nat} (h : okTo p lt a k) (hk : a.length ≤ k) : ∀ (j : Nat) x, a[j]? = some x → p x = true := fun j x hx => (h j x (by have := (List.getElem?_eq_some_iff.1 hx).1; omega) hx).1
theorem c_impl_ValidRings (a : List TRing) : FnC Tryz.prog 88 G0 0 [] [.sl 5 (a.map encRing)] (fun d os => d = .bool (ringsB a) ∧ os = []) := by
  refine fn_rule Tryz.func88 rfl (by decide +kernel) rfl (fun w0 F0 lent β0 => ?_)
  repeat' (first | refine sC ?_ | ((with_reducible refine isAwp ?_); first | (refine sS ?_; intro Q' hn he hr) | refine sA ?_) | (refine sH ?_; clear hn he hr Q') | ((conv => whnf); first | refine sK ?_ | (refine sB ?_; repeat' (refine sb2 ?_ ?_ <;> intro hb <;> try exact cls)) | (refine sL ?_; intro hlen) | (refine ret_pick [] rfl rfl rfl ⟨?_, rfl⟩; conv => lhs; whnf)))
  · rw [ringsB_long (by omega)]
  · refine loop_env (fun k : Nat => [(2,.bool false),(8,.sl 5 (a.map encRing)),(0,.sl 5 (a.map encRing)),(9,.int .i64 a.length),(10,.int .i64 k)]) (fun _ => []) (fun k => k ≤ a.length ∧ okTo ringB ltRing a k) (fun k => a.length - k) 0 ⟨by omega, okTo_zero⟩ (by refine weak_to rfl rfl rfl ?_; ((repeat' (first | exact trivial | refine And.intro ?_ ?_)) <;> (first | rfl | (conv => rhs; whnf) <;> (first | rfl | (refine congrArg (D.int _) ?_; omega))))) (fun k hk Q' hn he hr => ?_)
    repeat' (first | refine sC ?_ | ((with_reducible refine isAwp ?_); first | (refine sS ?_; intro Q' hn he hr) | refine sA ?_) | (refine sH ?_; clear hn he hr Q') | refine sO ?_ | ((conv => whnf); first | refine sK ?_ | (refine sB ?_; repeat' (first | refine sb0 ?_ | (refine sb2 ?_ ?_ <;> intro hb <;> try exact cls))) | ((with_reducible refine isCall ?_); (refine call_pure (c_impl_seatCount a (okTo_all hk.2 (by omega)) (by omega)) rfl rfl ?_)) | ((with_reducible refine isCallQ ?_); (refine callQ_pure (c_impl_validRing _) rfl rfl ?_)) | refine sP ?_ | (refine sE ?_; intro x hx) | (refine sF ?_; intro i y hi hy) | refine sD ?_ | (refine ret_pick [] rfl rfl rfl ⟨?_, rfl⟩; conv => lhs; whnf) | (refine sH ?_; clear hn he hr Q')))
    all_goals first
      | (have h9 := listOk_bad (lt := ltRing) hx (by assumption); simp [ringsB, h9]; done)
      | (have h9 := listOk_unrising (p := ringB) (lt := ltRing) hx (by omega) hy (by simp [ltRing]; omega); simp [ringsB, h9]; done)
      | (refine ⟨k + 1, ⟨by omega, okTo_succ hk.2 hx (by assumption) (fun i' y' hi' hy' => ?_)⟩, by omega, (by refine weak_to rfl rfl rfl ?_; ((repeat' (first | exact trivial | refine And.intro ?_ ?_)) <;> (first | rfl | (conv => rhs; whnf) <;> (first | rfl | (refine congrArg (D.int _) ?_; omega)))))⟩; first | (exfalso; omega) | (obtain rfl : i' = i := (by omega); rw [hy] at hy'; cases hy'; simp [ltRing]; omega))
      | (have h9 := listOk_of hk.2 (by omega); have h8 : a.length ≤ 6 := (by omega); simp [ringsB, h9, h8]; done)
theorem c_spec_l23Ok (a : List TRing) : FnC Tryz.prog 120 G0 0 [] [.sl 5 (a.map encRing)] (fun d os => d = .bool (ringsB a) ∧ os = []) := by
  refine fn_rule Tryz.func120 rfl (by decide +kernel) rfl (fun w0 F0 lent β0 => ?_)
  repeat' (first | refine sC ?_ | ((with_reducible refine isAwp ?_); first | (refine sS ?_; intro Q' hn he hr) | refine sA ?_) | (refine sH ?_; clear hn he hr Q') | ((conv => whnf); refine sK ?_))
  refine loop_env (fun k : Nat => [(2,.bool false),(0,.sl 5 (a.map encRing)),(3,.int .i64 k)]) (fun _ => []) (fun k => k ≤ a.length ∧ okTo ringB ltRing a k) (fun k => a.length - k) 0 ⟨by omega, okTo_zero⟩ (by refine weak_to rfl rfl rfl ?_; ((repeat' (first | exact trivial | refine And.intro ?_ ?_)) <;> (first | rfl | (conv => rhs; whnf) <;> (first | rfl | (refine congrArg (D.int _) ?_; omega))))) (fun k hk Q' hn he hr => ?_)
  repeat' (first | refine sC ?_ | ((with_reducible refine isAwp ?_); first | (refine sS ?_; intro Q' hn he hr) | refine sA ?_) | (refine sH ?_; clear hn he hr Q') | refine sO ?_ | ((conv => whnf); first | refine sK ?_ | (refine sB ?_; repeat' (first | refine sb0 ?_ | (refine sb2 ?_ ?_ <;> intro hb <;> try exact cls))) | ((with_reducible refine isCall ?_); (refine call_pure (c_spec_l23All a (okTo_all hk.2 (by omega)) (by omega)) rfl rfl ?_)) | ((with_reducible refine isCallQ ?_); (refine callQ_look (c_spec_l23One _) rfl ?_)) | refine sP ?_ | (refine sE ?_; intro x hx) | (refine sF ?_; intro i y hi hy) | (refine sL ?_; intro hlen) | refine sD ?_ | (refine ret_pick [] rfl rfl rfl ⟨?_, rfl⟩; conv => lhs; whnf) | (refine sH ?_; clear hn he hr Q')))
  all_goals first
    | (have h9 := listOk_bad (lt := ltRing) hx (by assumption); simp [ringsB, h9]; done)
    | (have h9 := listOk_unrising (p := ringB) (lt := ltRing) hx (by omega) hy (by simp [ltRing]; omega); simp [ringsB, h9]; done)
    | (refine ⟨k + 1, ⟨by omega, okTo_succ hk.2 hx (by assumption) (fun i' y' hi' hy' => ?_)⟩, by omega, (by refine weak_to rfl rfl rfl ?_; ((repeat' (first | exact trivial | refine And.intro ?_ ?_)) <;> (first | rfl | (conv => rhs; whnf) <;> (first | rfl | (refine congrArg (D.int _) ?_; omega)))))⟩; first | (exfalso; omega) | (obtain rfl : i' = i := (by omega); rw [hy] at hy'; cases hy'; simp [ltRing]; omega))
    | (have h9 := listOk_of hk.2 (by omega); have h8 : a.length ≤ 6 := (by omega); simp [ringsB, h9, h8]; done)
    | (rw [ringsB_long (by omega)])
def ltI (a b : Int) : Bool := decide (a < b)
def idxsB (n : Int) (a : List Int) : Bool := listOk (fun k => inB k 0 (n - 1)) ltI a
theorem c_impl_areIndices (a : List Int) (n : Int) (hn0 : 0 ≤ n ∧ n ≤ 1000000) : FnC Tryz.prog 89 G0 0 [] [.sl 1 (a.map encI), .int .i64 n] (fun d os => d = .bool (idxsB n a) ∧ os = []) := by
  refine fn_rule Tryz.func89 rfl (by decide +kernel) rfl (fun w0 F0 lent β0 => ?_)
  repeat' (first | refine sC ?_ | ((with_reducible refine isAwp ?_); first | (refine sS ?_; intro Q' hn he hr) | refine sA ?_) | (refine sH ?_; clear hn he hr Q') | ((conv => whnf); first | refine sK ?_ | (refine sL ?_; intro hlen)))
  refine loop_env (fun k : Nat => [(0,.sl 1 (a.map encI)),(1,.int .i64 n),(7,.sl 1 (a.map encI)),(8,.int .i64 a.length),(9,.int .i64 k)]) (fun _ => []) (fun k => k ≤ a.length ∧ okTo (fun k => inB k 0 (n - 1)) ltI a k) (fun k => a.length - k) 0 ⟨by omega, okTo_zero⟩ (by refine weak_to rfl rfl rfl ?_; ((repeat' (first | exact trivial | refine And.intro ?_ ?_)) <;> (first | rfl | (conv => rhs; whnf) <;> (first | rfl | (refine congrArg (D.int _) ?_; omega))))) (fun k hk Q' hn he hr => ?_)
  repeat' (first | refine sC ?_ | ((with_reducible refine isAwp ?_); first | (refine sS ?_; intro Q' hn he hr) | refine sA ?_) | (refine sH ?_; clear hn he hr Q') | ((conv => whnf); first | refine sK ?_ | (refine sB ?_; repeat' (first | refine sb0 ?_ | (refine sb2 ?_ ?_ <;> intro hb <;> try exact cls))) | ((with_reducible refine isCall ?_); (refine call_pure (c_within _ _ _) rfl rfl ?_)) | refine sP ?_ | (refine sE ?_; intro x hx) | (refine sF ?_; intro i y hi hy) | (refine ret_pick [] rfl rfl rfl ⟨?_, rfl⟩; conv => lhs; whnf) | (refine sH ?_; clear hn he hr Q')))
  all_goals first
    | (have h9 := listOk_bad (p := fun k => inB k 0 (n - 1)) (lt := ltI) hx (by assumption); simp [idxsB, h9]; done)
    | (have h9 := listOk_unrising (p := fun k => inB k 0 (n - 1)) (lt := ltI) hx (by omega) hy (by simp [ltI]; omega); simp [idxsB, h9]; done)
    | (refine ⟨k + 1, ⟨by omega, okTo_succ hk.2 hx (by assumption) (fun i' y' hi' hy' => ?_)⟩, by omega, (by refine weak_to rfl rfl rfl ?_; ((repeat' (first | exact trivial | refine And.intro ?_ ?_)) <;> (first | rfl | (conv => rhs; whnf) <;> (first | rfl | (refine congrArg (D.int _) ?_; omega)))))⟩; first | (exfalso; omega) | (obtain rfl : i' = i := (by omega); rw [hy] at hy'; cases hy'; simp [ltI]; omega))
    | (have h9 := listOk_of hk.2 (by omega); simp [idxsB, h9]; done)
theorem c_spec_l00Rises (a : List Int) (n : Int) : FnC Tryz.prog 121 G0 0 [] [.sl 1 (a.map encI), .int .i64 0, .int .i64 (n - 1)] (fun d os => d = .bool (idxsB n a) ∧ os = []) := by
  refine fn_rule Tryz.func121 rfl (by decide +kernel) rfl (fun w0 F0 lent β0 => ?_)
  repeat' (first | refine sC ?_ | ((with_reducible refine isAwp ?_); first | (refine sS ?_; intro Q' hn he hr) | refine sA ?_) | (refine sH ?_; clear hn he hr Q') | ((conv => whnf); refine sK ?_))
  refine loop_env (fun k : Nat => [(0,.sl 1 (a.map encI)),(1,.int .i64 0),(2,.int .i64 (n - 1)),(7,.int .i64 k)]) (fun _ => []) (fun k => k ≤ a.length ∧ okTo (fun k => inB k 0 (n - 1)) ltI a k) (fun k => a.length - k) 0 ⟨by omega, okTo_zero⟩ (by refine weak_to rfl rfl rfl ?_; ((repeat' (first | exact trivial | refine And.intro ?_ ?_)) <;> (first | rfl | (conv => rhs; whnf) <;> (first | rfl | (refine congrArg (D.int _) ?_; omega))))) (fun k hk Q' hn he hr => ?_)
  repeat' (first | refine sC ?_ | ((with_reducible refine isAwp ?_); first | (refine sS ?_; intro Q' hn he hr) | refine sA ?_) | (refine sH ?_; clear hn he hr Q') | refine sO ?_ | ((conv => whnf); first | refine sK ?_ | (refine sB ?_; repeat' (first | refine sb0 ?_ | (refine sb2 ?_ ?_ <;> intro hb <;> try exact cls))) | ((with_reducible refine isCallQ ?_); (refine callQ_pure (c_l00In _ _ _) rfl rfl ?_)) | refine sP ?_ | (refine sE ?_; intro x hx) | (refine sF ?_; intro i y hi hy) | (refine sL ?_; intro hlen) | refine sD ?_ | (refine ret_pick [] rfl rfl rfl ⟨?_, rfl⟩; conv => lhs; whnf) | (refine sH ?_; clear hn he hr Q')))
  all_goals first
    | (have h9 := listOk_bad (p := fun k => inB k 0 (n - 1)) (lt := ltI) hx (by assumption); simp [idxsB, h9]; done)
    | (have h9 := listOk_unrising (p := fun k => inB k 0 (n - 1)) (lt := ltI) hx (by omega) hy (by simp [ltI]; omega); simp [idxsB, h9]; done)
    | (refine ⟨k + 1, ⟨by omega, okTo_succ hk.2 hx (by assumption) (fun i' y' hi' hy' => ?_)⟩, by omega, (by refine weak_to rfl rfl rfl ?_; ((repeat' (first | exact trivial | refine And.intro ?_ ?_)) <;> (first | rfl | (conv => rhs; whnf) <;> (first | rfl | (refine congrArg (D.int _) ?_; omega)))))⟩; first | (exfalso; omega) | (obtain rfl : i' = i := (by omega); rw [hy] at hy'; cases hy'; simp [ltI]; omega))
    | (have h9 := listOk_of hk.2 (by omega); simp [idxsB, h9]; done)
theorem c_spec_l23Booked (a : List TRing) (b : List Int) : FnC Tryz.prog 67 G0 0 [] [.sl 5 (a.map encRing), .sl 1 (b.map encI)] (fun d os => d = .int .i64 (bif ringsB a && idxsB (sumC a) b then 0 else 1) ∧ os = []) := by
  refine fn_rule Tryz.func67 rfl (by decide +kernel) rfl (fun w0 F0 lent β0 => ?_)
  cases hv : ringsB a with
  | false =>
    repeat' (first | refine sC ?_ | ((with_reducible refine isAwp ?_); first | (refine sS ?_; intro Q' hn he hr) | refine sA ?_) | (refine sH ?_; clear hn he hr Q') | ((conv => whnf); first | refine sK ?_ | (refine sB ?_; repeat' (first | refine sb0 ?_ | (refine sb2 ?_ ?_ <;> intro hb <;> try exact cls))) | ((with_reducible refine isCall ?_); (refine call_pure (c_spec_l23Ok a) rfl rfl ?_)) | (refine ret_pick [] rfl rfl rfl ⟨?_, rfl⟩; conv => lhs; whnf)))
    all_goals simp [*]
  | true =>
    obtain ⟨h1, h2, h3, h4⟩ := ringsB_all hv
    repeat' (first | refine sC ?_ | ((with_reducible refine isAwp ?_); first | (refine sS ?_; intro Q' hn he hr) | refine sA ?_) | (refine sH ?_; clear hn he hr Q') | ((conv => whnf); first | refine sK ?_ | (refine sB ?_; repeat' (first | refine sb0 ?_ | (refine sb2 ?_ ?_ <;> intro hb <;> try exact cls))) | ((with_reducible refine isCall ?_); first | (refine call_pure (c_spec_l23Ok a) rfl rfl ?_) | (refine call_pure (c_spec_l23All a h1 h2) rfl rfl ?_) | (refine call_pure (c_spec_l00Rises b (sumC a)) rfl rfl ?_)) | refine sP ?_ | (refine ret_pick [] rfl rfl rfl ⟨?_, rfl⟩; conv => lhs; whnf)))
    all_goals simp [*]
end Go.Eng

namespace Go.Eng
open Go Go.RowKit Go.Proofs
set_option maxRecDepth 100000
def fixB (f : TFixture) : Bool := nameB f.fName && (inB f.fUniverse 1 8 && (inB f.fWidth 1 64 && inB f.fAddress 1 (513 - f.fWidth)))
theorem fixB_facts {f : TFixture} (h : fixB f = true) : (1 ≤ f.fWidth ∧ f.fWidth ≤ 64) ∧ (1 ≤ f.fAddress ∧ f.fAddress ≤ 512) := by
  simp only [fixB, inB, Bool.and_eq_true, decide_eq_true_eq] at h
  omega
theorem inB_le {n l h : Int} (hb : inB n l h = true) : l ≤ n ∧ n ≤ h := by simpa [inB] using hb
def shareF (a b : TFixture) : Int := if a.fUniverse = b.fUniverse then max 0 (min (a.fAddress + a.fWidth) (b.fAddress + b.fWidth) - max a.fAddress b.fAddress) else 0
theorem c_impl_ValidFixture (f : TFixture) : FnC Tryz.prog 149 G0 0 [] [.agg (encFixture f)] (fun e os => e = .bool (fixB f) ∧ os = []) := by
  refine fn_rule Tryz.func149 rfl (by decide +kernel) rfl (fun w0 F0 lent β0 => ?_)
  repeat' (first | refine sC ?_ | ((with_reducible refine isAwp ?_); first | (refine sS ?_; intro Q' hn he hr) | refine sA ?_) | (refine sH ?_; clear hn he hr Q') | ((conv => whnf); first | refine sK ?_ | (refine sB ?_; repeat' (first | refine sb0 ?_ | (refine sb2 ?_ ?_ <;> intro hb <;> try exact cls))) | (refine ArithS.in64 (by have h9 := inB_le (n := f.fWidth) (l := 1) (h := 64) (by assumption); omega) ?_) | ((with_reducible refine isCall ?_); first | (refine call_pure (c_impl_IsName _) rfl rfl ?_) | (refine call_pure (c_within _ _ _) rfl rfl ?_)) | (refine ret_pick [] rfl rfl rfl ⟨?_, rfl⟩; conv => lhs; whnf)))
  all_goals simp [fixB, *]
theorem c_spec_l20Universe (n : Int) : FnC Tryz.prog 179 G0 0 [] [.int .i64 n] (fun d os => d = .bool (inB n 1 8) ∧ os = []) := by
  refine fn_rule Tryz.func179 rfl (by decide +kernel) rfl (fun w0 F0 lent β0 => ?_)
  repeat' (first | refine sC ?_ | ((with_reducible refine isAwp ?_); first | (refine sS ?_; intro Q' hn he hr) | refine sA ?_) | (refine sH ?_; clear hn he hr Q') | ((conv => whnf); first | refine sK ?_ | ((with_reducible refine isCall ?_); (refine call_pure (c_l00In _ _ _) rfl rfl ?_)) | (refine ret_pick [] rfl rfl rfl ⟨?_, rfl⟩; conv => lhs; whnf)))
theorem c_spec_l20Width (n : Int) : FnC Tryz.prog 180 G0 0 [] [.int .i64 n] (fun d os => d = .bool (inB n 1 64) ∧ os = []) := by
  refine fn_rule Tryz.func180 rfl (by decide +kernel) rfl (fun w0 F0 lent β0 => ?_)
  repeat' (first | refine sC ?_ | ((with_reducible refine isAwp ?_); first | (refine sS ?_; intro Q' hn he hr) | refine sA ?_) | (refine sH ?_; clear hn he hr Q') | ((conv => whnf); first | refine sK ?_ | ((with_reducible refine isCall ?_); (refine call_pure (c_l00In _ _ _) rfl rfl ?_)) | (refine ret_pick [] rfl rfl rfl ⟨?_, rfl⟩; conv => lhs; whnf)))
theorem c_spec_l20One (f : TFixture) : FnC Tryz.prog 123 G0 0 [] [.rp (encFixture f)] (fun e os => e = .bool (fixB f) ∧ os = []) := by
  refine fn_rule Tryz.func123 rfl (by decide +kernel) rfl (fun w0 F0 lent β0 => ?_)
  repeat' (first | refine sC ?_ | ((with_reducible refine isAwp ?_); first | (refine sS ?_; intro Q' hn he hr) | refine sA ?_) | (refine sH ?_; clear hn he hr Q') | refine sO ?_ | ((conv => whnf); first | refine sK ?_ | (refine sB ?_; repeat' (first | refine sb0 ?_ | (refine sb2 ?_ ?_ <;> intro hb <;> try exact cls))) | (refine ArithS.in64 (by have h9 := inB_le (n := f.fWidth) (l := 1) (h := 64) (by assumption); omega) ?_) | ((with_reducible refine isCallQ ?_); first | (refine callQ_pure (c_spec_l01Name _) rfl rfl ?_) | (refine callQ_pure (c_spec_l20Universe _) rfl rfl ?_) | (refine callQ_pure (c_spec_l20Width _) rfl rfl ?_) | (refine callQ_pure (c_l00In _ _ _) rfl rfl ?_)) | refine sD ?_ | (refine ret_pick [] rfl rfl rfl ⟨?_, rfl⟩; conv => lhs; whnf)))
  all_goals simp [fixB, *]
theorem c_impl_sharedAddresses (a b : TFixture) (ha : fixB a = true) (hb0 : fixB b = true) : FnC Tryz.prog 150 G0 0 [] [.agg (encFixture a), .agg (encFixture b)] (fun d os => d = .int .i64 (shareF a b) ∧ os = []) := by
  have h1 := fixB_facts ha
  have h2 := fixB_facts hb0
  refine fn_rule Tryz.func150 rfl (by decide +kernel) rfl (fun w0 F0 lent β0 => ?_)
  repeat' (first | refine sC ?_ | ((with_reducible refine isAwp ?_); first | (refine sS ?_; intro Q' hn he hr) | refine sA ?_) | (refine sH ?_; clear hn he hr Q') | ((conv => whnf); first | refine sK ?_ | (refine sB ?_; repeat' (refine sb2 ?_ ?_ <;> intro hb <;> try exact cls)) | (refine ArithS.in64 (by simp only [cond_true, cond_false]; constructor <;> (repeat' split) <;> omega) ?_) | refine sP ?_ | (refine ret_pick [] rfl rfl rfl ⟨?_, rfl⟩; conv => lhs; whnf)))
  all_goals (refine congrArg (D.int _) ?_; unfold shareF; first | (rw [if_pos hb]; simp only [cond_true, cond_false]; (repeat' split) <;> omega) | (rw [if_neg hb]; done) | (split <;> omega) | skip)
theorem c_spec_l20Shared (a b : TFixture) (ha : fixB a = true) (hb0 : fixB b = true) : FnC Tryz.prog 124 G0 0 [] [.rp (encFixture a), .rp (encFixture b)] (fun d os => d = .int .i64 (shareF a b) ∧ os = []) := by
  have h1 := fixB_facts ha
  have h2 := fixB_facts hb0
  refine fn_rule Tryz.func124 rfl (by decide +kernel) rfl (fun w0 F0 lent β0 => ?_)
  repeat' (first | refine sC ?_ | ((with_reducible refine isAwp ?_); first | (refine sS ?_; intro Q' hn he hr) | refine sA ?_) | (refine sH ?_; clear hn he hr Q') | refine sO ?_ | ((conv => whnf); first | refine sK ?_ | (refine sB ?_; repeat' (refine sb2 ?_ ?_ <;> intro hb <;> try exact cls)) | ((with_reducible refine isCallQ ?_); first | (refine callQ_pure (c_l00Min _ _) rfl rfl ?_) | (refine callQ_pure (c_l00Max _ _) rfl rfl ?_)) | refine sP ?_ | refine sD ?_ | (refine ret_pick [] rfl rfl rfl ⟨?_, rfl⟩; conv => lhs; whnf)))
  all_goals (refine congrArg (D.int _) ?_; unfold shareF; first | (rw [if_pos hb]; (repeat' split) <;> omega) | (rw [if_neg hb]; done) | (split <;> omega) | skip)
theorem shareF_comm (a b : TFixture) : shareF a b = shareF b a := by
  unfold shareF
  split <;> split <;> omega
def ltFix (a b : TFixture) : Bool := Op.bytesLess a.fName b.fName
def metF (x y : TFixture) : Bool := decide (0 < shareF x y)
def fixP (a : List TFixture) (k : Nat) (x : TFixture) : Bool := fixB x && (prevB ltFix a k x && noneB (metF x) a k)
def fixsB (a : List TFixture) : Bool := decide (a.length ≤ 16) && allI (fixP a) a
theorem fixsB_long {a : List TFixture} (h : ¬ a.length ≤ 16) : fixsB a = false := by simp [fixsB, h]
theorem fixsB_bad {a : List TFixture} {k : Nat} {x : TFixture} (hx : a[k]? = some x) (h : fixP a k x = false) : fixsB a = false := by
  unfold fixsB
  rw [allI_bad hx h, Bool.and_false]
theorem fixTo_valid {a : List TFixture} {k : Nat} (h : allIto (fixP a) a k) {i : Nat} {y : TFixture} (hi : i < k) (hy : a[i]? = some y) : fixB y = true := by
  have := h i y hi hy
  simp only [fixP, Bool.and_eq_true] at this
  exact this.1
theorem c_impl_ValidFixtures (a : List TFixture) : FnC Tryz.prog 91 G0 0 [] [.sl 4 (a.map encFixture)] (fun d os => d = .bool (fixsB a) ∧ os = []) := by
  refine fn_rule Tryz.func91 rfl (by decide +kernel) rfl (fun w0 F0 lent β0 => ?_)
  repeat' (first | refine sC ?_ | ((with_reducible refine isAwp ?_); first | (refine sS ?_; intro Q' hn he hr) | refine sA ?_) | (refine sH ?_; clear hn he hr Q') | ((conv => whnf); first | refine sK ?_ | (refine sB ?_; repeat' (refine sb2 ?_ ?_ <;> intro hb <;> try exact cls)) | (refine sL ?_; intro hlen) | (refine ret_pick [] rfl rfl rfl ⟨?_, rfl⟩; conv => lhs; whnf)))
  · rw [fixsB_long (by omega)]
  · refine loop_env (fun k : Nat => [(0,.sl 4 (a.map encFixture)),(10,.sl 4 (a.map encFixture)),(11,.int .i64 a.length),(12,.int .i64 k)]) (fun _ => []) (fun k => k ≤ a.length ∧ allIto (fixP a) a k) (fun k => a.length - k) 0 ⟨by omega, allIto_zero⟩ (by refine weak_to rfl rfl rfl ?_; ((repeat' (first | exact trivial | refine And.intro ?_ ?_)) <;> (first | rfl | (conv => rhs; whnf) <;> (first | rfl | (refine congrArg (D.int _) ?_; omega))))) (fun k hk Q' hn he hr => ?_)
    repeat' (first | refine sC ?_ | ((with_reducible refine isAwp ?_); first | (refine sS ?_; intro Q' hn he hr) | refine sA ?_) | (refine sH ?_; clear hn he hr Q') | refine sO ?_ | ((conv => whnf); first | refine sK ?_ | (refine sB ?_; repeat' (first | refine sb0 ?_ | (refine sb2 ?_ ?_ <;> intro hb <;> try exact cls))) | ((with_reducible refine isCallQ ?_); (refine callQ_pure (c_impl_ValidFixture _) rfl rfl ?_)) | refine sP ?_ | (refine sE ?_; intro x hx) | (refine sF ?_; intro i y hi hy) | (refine sL ?_; intro hlen) | refine sD ?_ | (refine ret_pick [] rfl rfl rfl ⟨?_, rfl⟩; conv => lhs; whnf) | (refine sH ?_; clear hn he hr Q')))
    · rw [fixsB_bad hx (by simp [fixP, hb])]
    · rw [fixsB_bad hx (by simp [fixP, prevB_at (lt := ltFix) (x := x) (show i + 1 = k by omega) hy, ltFix, hb])]
    iterate 2
      · have hfx : fixB x = true := by assumption
        have hx0 := hx
        have hpv : prevB ltFix a k x = true := by
          first
            | (rw [prevB_at (lt := ltFix) (x := x) (show i + 1 = k by omega) hy]; exact hb)
            | exact prevB_first (by omega)
        refine loop_env (fun j : Nat => [(0,.sl 4 (a.map encFixture)),(3,.int .i64 k),(4,.hp 0 0),(10,.sl 4 (a.map encFixture)),(11,.int .i64 a.length),(12,.int .i64 k),(37,.sl 4 ((a.take k).map encFixture)),(38,.int .i64 k),(39,.int .i64 j)]) (fun _ => [.box (encFixture x)]) (fun j => j ≤ k ∧ noneTo (metF x) a j) (fun j => k - j) 0 ⟨by omega, noneTo_zero⟩ (by refine weak_to rfl rfl rfl ?_; ((repeat' (first | exact trivial | refine And.intro ?_ ?_)) <;> (first | rfl | (conv => rhs; whnf) <;> (first | rfl | exact cutT_sl | exact cutT_len (by omega) | (refine congrArg (D.int _) ?_; omega))))) (fun j hj Q' hn he hr => ?_)
        have htl : (a.take k).length = k := by rw [List.length_take]; omega
        repeat' (first | refine sC ?_ | ((with_reducible refine isAwp ?_); first | (refine sS ?_; intro Q' hn he hr) | refine sA ?_) | (refine sH ?_; clear hn he hr Q') | ((conv => whnf); first | refine sK ?_ | (refine sB ?_; repeat' (refine sb2 ?_ ?_ <;> intro hb <;> try exact cls)) | ((with_reducible refine isCall ?_); (refine call_pure (c_impl_sharedAddresses _ _ hfx (fixTo_valid hk.2 (by omega) (take_at hx))) rfl rfl ?_)) | refine sP ?_ | (refine sE ?_; intro x hx) | (refine ret_pick [] rfl rfl rfl ⟨?_, rfl⟩; conv => lhs; whnf) | (refine sH ?_; clear hn he hr Q')))
        all_goals first
          | (refine ⟨k + 1, ⟨by omega, allIto_succ hk.2 hx0 ?_⟩, by omega, (by refine weak_to rfl rfl rfl ?_; ((repeat' (first | exact trivial | refine And.intro ?_ ?_)) <;> (first | rfl | (conv => rhs; whnf) <;> (first | rfl | (refine congrArg (D.int _) ?_; omega)))))⟩; have h9 := noneB_of (q := metF x) (a := a) (k := k) (fun i' y' hi' hy' => hj.2 i' y' (by omega) hy'); simp only [fixP, hfx, hpv, h9, Bool.and_self]; done)
          | (rw [fixsB_bad hx0 (by rw [fixP, noneB_bad (q := metF _) (take_at hx) (show j < k by omega) (by simpa [metF] using hb), Bool.and_false, Bool.and_false])]; done)
          | exact ⟨j + 1, ⟨by omega, noneTo_succ hj.2 (take_at hx) (by simp [metF]; omega)⟩, by omega, (by refine weak_to rfl rfl rfl ?_; ((repeat' (first | exact trivial | refine And.intro ?_ ?_)) <;> (first | rfl | (conv => rhs; whnf) <;> (first | rfl | (refine congrArg (D.int _) ?_; omega)))))⟩
    · have h9 := allI_of hk.2 (by omega)
      have h8 : a.length ≤ 16 := by omega
      simp [fixsB, h9, h8]
theorem c_spec_l20Ok (a : List TFixture) : FnC Tryz.prog 69 G0 0 [] [.sl 4 (a.map encFixture)] (fun d os => d = .bool (fixsB a) ∧ os = []) := by
  refine fn_rule Tryz.func69 rfl (by decide +kernel) rfl (fun w0 F0 lent β0 => ?_)
  repeat' (first | refine sC ?_ | ((with_reducible refine isAwp ?_); first | (refine sS ?_; intro Q' hn he hr) | refine sA ?_) | (refine sH ?_; clear hn he hr Q') | ((conv => whnf); refine sK ?_))
  refine loop_env (fun k : Nat => [(0,.sl 4 (a.map encFixture)),(3,.int .i64 k)]) (fun _ => []) (fun k => k ≤ a.length ∧ allIto (fixP a) a k) (fun k => a.length - k) 0 ⟨by omega, allIto_zero⟩ (by refine weak_to rfl rfl rfl ?_; ((repeat' (first | exact trivial | refine And.intro ?_ ?_)) <;> (first | rfl | (conv => rhs; whnf) <;> (first | rfl | (refine congrArg (D.int _) ?_; omega))))) (fun k hk Q' hn he hr => ?_)
  repeat' (first | refine sC ?_ | ((with_reducible refine isAwp ?_); first | (refine sS ?_; intro Q' hn he hr) | refine sA ?_) | (refine sH ?_; clear hn he hr Q') | refine sO ?_ | ((conv => whnf); first | refine sK ?_ | (refine sB ?_; repeat' (first | refine sb0 ?_ | (refine sb2 ?_ ?_ <;> intro hb <;> try exact cls))) | ((with_reducible refine isCallQ ?_); (refine callQ_look (c_spec_l20One _) rfl ?_)) | refine sP ?_ | (refine sE ?_; intro x hx) | (refine sF ?_; intro i y hi hy) | (refine sL ?_; intro hlen) | refine sD ?_ | (refine ret_pick [] rfl rfl rfl ⟨?_, rfl⟩; conv => lhs; whnf) | (refine sH ?_; clear hn he hr Q')))
  · rw [fixsB_bad hx (by simp [fixP, hb])]
  · rw [fixsB_bad hx (by simp [fixP, prevB_at (lt := ltFix) (x := x) (show i + 1 = k by omega) hy, ltFix, hb])]
  iterate 2
    · have hfx : fixB x = true := by assumption
      have hx0 := hx
      have hpv : prevB ltFix a k x = true := by
        first
          | (rw [prevB_at (lt := ltFix) (x := x) (show i + 1 = k by omega) hy]; exact hb)
          | exact prevB_first (by omega)
      refine loop_env (fun j : Nat => [(0,.sl 4 (a.map encFixture)),(3,.int .i64 k),(4,.int .i64 j)]) (fun _ => []) (fun j => j ≤ k ∧ noneTo (metF x) a j) (fun j => k - j) 0 ⟨by omega, noneTo_zero⟩ (by refine weak_to rfl rfl rfl ?_; ((repeat' (first | exact trivial | refine And.intro ?_ ?_)) <;> (first | rfl | (conv => rhs; whnf) <;> (first | rfl | (refine congrArg (D.int _) ?_; omega))))) (fun j hj Q' hn he hr => ?_)
      by_cases hjk : j < k
      · obtain ⟨z, hz⟩ : ∃ z, a[j]? = some z := ⟨_, List.getElem?_eq_getElem (by omega)⟩
        repeat' (first | refine sC ?_ | ((with_reducible refine isAwp ?_); first | (refine sS ?_; intro Q' hn he hr) | refine sA ?_) | (refine sH ?_; clear hn he hr Q') | refine sO ?_ | ((conv => whnf); first | refine sK ?_ | (refine sB ?_; repeat' (refine sb2 ?_ ?_ <;> intro hb <;> try exact cls)) | (refine ElemS.the hz ?_) | (refine ElemS.the hx0 ?_) | ((with_reducible refine isCallQ ?_); (refine callQ_look (c_spec_l20Shared z x (fixTo_valid hk.2 hjk hz) hfx) rfl ?_)) | refine sP ?_ | refine sD ?_ | (refine ret_pick [] rfl rfl rfl ⟨?_, rfl⟩; conv => lhs; whnf)))
        all_goals first
          | (rw [fixsB_bad hx0 (by rw [fixP, noneB_bad (q := metF x) hz hjk (by simpa [metF, shareF_comm x z] using hb), Bool.and_false, Bool.and_false])]; done)
          | exact ⟨j + 1, ⟨by omega, noneTo_succ hj.2 hz (by simp [metF, shareF_comm x z]; omega)⟩, by omega, (by refine weak_to rfl rfl rfl ?_; ((repeat' (first | exact trivial | refine And.intro ?_ ?_)) <;> (first | rfl | (conv => rhs; whnf) <;> (first | rfl | (refine congrArg (D.int _) ?_; omega)))))⟩
      · repeat' (first | refine sC ?_ | ((with_reducible refine isAwp ?_); first | (refine sS ?_; intro Q' hn he hr) | refine sA ?_) | (refine sH ?_; clear hn he hr Q') | ((conv => whnf); first | refine sK ?_ | (refine sB ?_; repeat' (refine sb2 ?_ ?_ <;> intro hb <;> try exact cls)) | refine sP ?_ | (refine sH ?_; clear hn he hr Q')))
        refine ⟨k + 1, ⟨by omega, allIto_succ hk.2 hx0 ?_⟩, by omega, (by refine weak_to rfl rfl rfl ?_; ((repeat' (first | exact trivial | refine And.intro ?_ ?_)) <;> (first | rfl | (conv => rhs; whnf) <;> (first | rfl | (refine congrArg (D.int _) ?_; omega)))))⟩
        have h9 := noneB_of (q := metF x) (a := a) (k := k) (fun i' y' hi' hy' => hj.2 i' y' (by omega) hy')
        simp only [fixP, hfx, hpv, h9, Bool.and_self]
  · have h9 := allI_of hk.2 (by omega)
    simp [fixsB, h9]; omega
end Go.Eng

namespace Go.Eng
open Go Go.RowKit Go.Proofs
set_option maxRecDepth 100000
def cueB (c : TCue) : Bool := nameB c.fId && (nameB c.fTarget && (inB c.fTime 0 7200000 && (inB c.fValue 0 1000 && (if c.fAction = 1 then decide (c.fLength = 0) else if c.fAction = 2 then inB c.fLength 1 (7200000 - c.fTime) else if c.fAction = 3 then decide (c.fLength = 0) && decide (c.fValue = 0) else false))))
theorem c_impl_ValidCue (c : TCue) : FnC Tryz.prog 151 G0 0 [] [.agg (encCue c)] (fun e os => e = .bool (cueB c) ∧ os = []) := by
  refine fn_rule Tryz.func151 rfl (by decide +kernel) rfl (fun w0 F0 lent β0 => ?_)
  repeat' (first | refine sC ?_ | ((with_reducible refine isAwp ?_); first | (refine sS ?_; intro Q' hn he hr) | refine sA ?_) | (refine sH ?_; clear hn he hr Q') | ((conv => whnf); first | refine sK ?_ | (refine sB ?_; repeat' (first | refine sb0 ?_ | (refine sb2 ?_ ?_ <;> intro hb <;> try exact cls))) | (refine ArithS.in64 (by have h9 := inB_le3 (n := c.fTime) (l := 0) (h := 7200000) (by assumption); omega) ?_) | ((with_reducible refine isCall ?_); first | (refine call_pure (c_impl_IsName _) rfl rfl ?_) | (refine call_pure (c_within _ _ _) rfl rfl ?_)) | (refine ret_pick [] rfl rfl rfl ⟨?_, rfl⟩; conv => lhs; whnf)))
  all_goals (simp_all [cueB]; done)
theorem c_spec_l13Time (n : Int) : FnC Tryz.prog 132 G0 0 [] [.int .i64 n] (fun d os => d = .bool (inB n 0 7200000) ∧ os = []) := by
  refine fn_rule Tryz.func132 rfl (by decide +kernel) rfl (fun w0 F0 lent β0 => ?_)
  repeat' (first | refine sC ?_ | ((with_reducible refine isAwp ?_); first | (refine sS ?_; intro Q' hn he hr) | refine sA ?_) | (refine sH ?_; clear hn he hr Q') | ((conv => whnf); first | refine sK ?_ | ((with_reducible refine isCall ?_); (refine call_pure (c_l00In _ _ _) rfl rfl ?_)) | (refine ret_pick [] rfl rfl rfl ⟨?_, rfl⟩; conv => lhs; whnf)))
theorem c_spec_l13One (c : TCue) : FnC Tryz.prog 125 G0 0 [] [.rp (encCue c)] (fun e os => e = .bool (cueB c) ∧ os = []) := by
  refine fn_rule Tryz.func125 rfl (by decide +kernel) rfl (fun w0 F0 lent β0 => ?_)
  repeat' (first | refine sC ?_ | ((with_reducible refine isAwp ?_); first | (refine sS ?_; intro Q' hn he hr) | refine sA ?_) | (refine sH ?_; clear hn he hr Q') | refine sO ?_ | ((conv => whnf); first | refine sK ?_ | (refine sB ?_; repeat' (first | refine sb0 ?_ | (refine sb2 ?_ ?_ <;> intro hb <;> try exact cls))) | (refine ArithS.in64 (by have h9 := inB_le3 (n := c.fTime) (l := 0) (h := 7200000) (by assumption); omega) ?_) | ((with_reducible refine isCall ?_); first | (refine call_pure (c_spec_l01Name _) rfl rfl ?_) | (refine call_pure (c_spec_l13Time _) rfl rfl ?_) | (refine call_pure (c_l00In _ _ _) rfl rfl ?_)) | ((with_reducible refine isCallQ ?_); (refine callQ_pure (c_l00In _ _ _) rfl rfl ?_)) | refine sD ?_ | (refine ret_pick [] rfl rfl rfl ⟨?_, rfl⟩; conv => lhs; whnf)))
  all_goals (simp_all [cueB]; done)
def cmpS (x y : List UInt8) : Int := if Op.bytesLess x y = true then -1 else if Op.bytesLess y x = true then 1 else 0
def cmpJ (x y : Int) : Int := if x < y then -1 else if y < x then 1 else 0
theorem c_isNaNS (x : List UInt8) : FnC Tryz.prog 224 G0 0 [] [.str x] (fun d os => d = .bool false ∧ os = []) := by
  refine fn_rule Tryz.func224 rfl (by decide +kernel) rfl (fun w0 F0 lent β0 => ?_)
  repeat' (first | refine sC ?_ | ((with_reducible refine isAwp ?_); first | (refine sS ?_; intro Q' hn he hr) | refine sA ?_) | (refine sH ?_; clear hn he hr Q') | ((conv => whnf); first | refine sK ?_ | (refine ret_pick [] rfl rfl rfl ⟨?_, rfl⟩; conv => lhs; whnf)))
  all_goals first | rfl | simp_all
theorem c_isNaNJ (x : Int) : FnC Tryz.prog 223 G0 0 [] [.int .i64 x] (fun d os => d = .bool false ∧ os = []) := by
  refine fn_rule Tryz.func223 rfl (by decide +kernel) rfl (fun w0 F0 lent β0 => ?_)
  repeat' (first | refine sC ?_ | ((with_reducible refine isAwp ?_); first | (refine sS ?_; intro Q' hn he hr) | refine sA ?_) | (refine sH ?_; clear hn he hr Q') | ((conv => whnf); first | refine sK ?_ | (refine ret_pick [] rfl rfl rfl ⟨?_, rfl⟩; conv => lhs; whnf)))
  all_goals first | rfl | simp_all
theorem c_cmp_CompareS (x y : List UInt8) : FnC Tryz.prog 198 G0 0 [] [.str x, .str y] (fun d os => d = .int .i64 (cmpS x y) ∧ os = []) := by
  refine fn_rule Tryz.func198 rfl (by decide +kernel) rfl (fun w0 F0 lent β0 => ?_)
  repeat' (first | refine sC ?_ | ((with_reducible refine isAwp ?_); first | (refine sS ?_; intro Q' hn he hr) | refine sA ?_) | (refine sH ?_; clear hn he hr Q') | ((conv => whnf); first | refine sK ?_ | (refine sB ?_; repeat' (first | refine sb0 ?_ | (refine sb2 ?_ ?_ <;> intro hb <;> try exact cls))) | ((with_reducible refine isCall ?_); (refine call_pure (c_isNaNS _) rfl rfl ?_)) | (refine ret_pick [] rfl rfl rfl ⟨?_, rfl⟩; conv => lhs; whnf)))
  all_goals first | (simp_all [cmpS]; done) | (simp_all [cmpS]; exact less_tri (by assumption) (by assumption))
theorem c_cmp_CompareJ (x y : Int) : FnC Tryz.prog 197 G0 0 [] [.int .i64 x, .int .i64 y] (fun d os => d = .int .i64 (cmpJ x y) ∧ os = []) := by
  refine fn_rule Tryz.func197 rfl (by decide +kernel) rfl (fun w0 F0 lent β0 => ?_)
  repeat' (first | refine sC ?_ | ((with_reducible refine isAwp ?_); first | (refine sS ?_; intro Q' hn he hr) | refine sA ?_) | (refine sH ?_; clear hn he hr Q') | ((conv => whnf); first | refine sK ?_ | (refine sB ?_; repeat' (first | refine sb0 ?_ | (refine sb2 ?_ ?_ <;> intro hb <;> try exact cls))) | ((with_reducible refine isCall ?_); (refine call_pure (c_isNaNJ _) rfl rfl ?_)) | (refine ret_pick [] rfl rfl rfl ⟨?_, rfl⟩; conv => lhs; whnf)))
  all_goals (refine congrArg (D.int _) ?_; unfold cmpJ; (repeat' split) <;> omega)
def ltCue (a b : TCue) : Bool := decide (a.fTime < b.fTime) || (decide (a.fTime = b.fTime) && Op.bytesLess a.fId b.fId)
def cmpCue (a b : TCue) : Int := orI [cmpJ a.fTime b.fTime, cmpS a.fId b.fId]
theorem cmpCue_ge (a b : TCue) : decide (0 ≤ cmpCue a b) = !ltCue a b := by
  unfold cmpCue ltCue cmpJ cmpS orI orI orI
  by_cases h1 : a.fTime < b.fTime
  · simp [h1]
  · by_cases h2 : b.fTime < a.fTime
    · have h3 : ¬ a.fTime = b.fTime := by omega
      simp [h1, h2, h3]
    · have h3 : a.fTime = b.fTime := by omega
      cases h4 : Op.bytesLess a.fId b.fId
      · cases h5 : Op.bytesLess b.fId a.fId <;> simp [h3]
      · simp [h3]
theorem c_impl_compareCues (a b : TCue) : FnC Tryz.prog 152 G0 0 [] [.agg (encCue a), .agg (encCue b)] (fun d os => d = .int .i64 (cmpCue a b) ∧ os = []) := by
  refine fn_rule Tryz.func152 rfl (by decide +kernel) rfl (fun w0 F0 lent β0 => ?_)
  repeat' (first | refine sC ?_ | ((with_reducible refine isAwp ?_); first | (refine sS ?_; intro Q' hn he hr) | refine sA ?_) | (refine sH ?_; clear hn he hr Q') | refine sO ?_ | ((conv => whnf); first | refine sK ?_ | ((with_reducible refine isCall ?_); (refine call_look (c_cmp_Or [_, _]) rfl ?_)) | ((with_reducible refine isCallQ ?_); first | (refine callQ_pure (c_cmp_CompareJ _ _) rfl rfl ?_) | (refine callQ_pure (c_cmp_CompareS _ _) rfl rfl ?_)) | refine sD ?_ | (refine ret_pick [] rfl rfl rfl ⟨?_, rfl⟩; conv => lhs; whnf)))
  all_goals rfl
theorem c_spec_l13Before (a b : TCue) : FnC Tryz.prog 127 G0 0 [] [.rp (encCue a), .rp (encCue b)] (fun d os => d = .bool (ltCue a b) ∧ os = []) := by
  refine fn_rule Tryz.func127 rfl (by decide +kernel) rfl (fun w0 F0 lent β0 => ?_)
  repeat' (first | refine sC ?_ | ((with_reducible refine isAwp ?_); first | (refine sS ?_; intro Q' hn he hr) | refine sA ?_) | (refine sH ?_; clear hn he hr Q') | refine sO ?_ | ((conv => whnf); first | refine sK ?_ | (refine sB ?_; repeat' (first | refine sb0 ?_ | (refine sb2 ?_ ?_ <;> intro hb <;> try exact cls))) | refine sD ?_ | (refine ret_pick [] rfl rfl rfl ⟨?_, rfl⟩; conv => lhs; whnf)))
  all_goals (simp only [ltCue]; simp_all)
def isCue (id : List UInt8) (c : TCue) : Bool := c.fId == id
theorem c_impl_cueIndex1 (x : TCue) (id : List UInt8) : FnC Tryz.prog 166 G0 0 [] [.agg (encCue x), .rp [.str id]] (fun d os => d = .bool (isCue id x) ∧ os = []) := by
  refine fn_rule Tryz.func166 rfl (by decide +kernel) rfl (fun w0 F0 lent β0 => ?_)
  repeat' (first | refine sC ?_ | ((with_reducible refine isAwp ?_); first | (refine sS ?_; intro Q' hn he hr) | refine sA ?_) | (refine sH ?_; clear hn he hr Q') | ((conv => whnf); first | refine sK ?_ | (refine ret_pick [] rfl rfl rfl ⟨?_, rfl⟩; conv => lhs; whnf)))
  all_goals (refine congrArg D.bool ?_; simp [isCue, *])
theorem c_slices_IndexCue (a : List TCue) (id : List UInt8) : FnC Tryz.prog 165 G0 0 [] [.sl 6 (a.map encCue), .clo (.func 166) [.rp [.str id]]] (fun d os => d = .int .i64 (idxQ (isCue id) a) ∧ os = []) := by
  refine fn_rule Tryz.func165 rfl (by decide +kernel) rfl (fun w0 F0 lent β0 => ?_)
  repeat' (first | refine sC ?_ | ((with_reducible refine isAwp ?_); first | (refine sS ?_; intro Q' hn he hr) | refine sA ?_) | (refine sH ?_; clear hn he hr Q') | ((conv => whnf); first | refine sK ?_ | (refine sL ?_; intro hlen)))
  refine loop_env (fun k : Nat => [(0,.sl 6 (a.map encCue)),(1,.clo (.func 166) [.rp [.str id]]),(6,.sl 6 (a.map encCue)),(7,.int .i64 a.length),(8,.int .i64 k)]) (fun _ => []) (fun k => k ≤ a.length ∧ noneTo (isCue id) a k) (fun k => a.length - k) 0 ⟨by omega, noneTo_zero⟩ (by refine weak_to rfl rfl rfl ?_; ((repeat' (first | exact trivial | refine And.intro ?_ ?_)) <;> (first | rfl | (conv => rhs; whnf) <;> (first | rfl | (refine congrArg (D.int _) ?_; omega))))) (fun k hk Q' hn he hr => ?_)
  repeat' (first | refine sC ?_ | ((with_reducible refine isAwp ?_); first | (refine sS ?_; intro Q' hn he hr) | refine sA ?_) | (refine sH ?_; clear hn he hr Q') | ((conv => whnf); first | refine sK ?_ | (refine sB ?_; repeat' (refine sb2 ?_ ?_ <;> intro hb <;> try exact cls)) | ((with_reducible refine isCall ?_); (refine call_look (c_impl_cueIndex1 x id) rfl ?_)) | refine sP ?_ | (refine sE ?_; intro x hx) | (refine ret_pick [] rfl rfl rfl ⟨?_, rfl⟩; conv => lhs; whnf) | (refine sH ?_; clear hn he hr Q')))
  · rw [idxQ_here hk.2 hx hb]
  · exact ⟨k + 1, ⟨by omega, noneTo_succ hk.2 hx hb⟩, by omega, (by refine weak_to rfl rfl rfl ?_; ((repeat' (first | exact trivial | refine And.intro ?_ ?_)) <;> (first | rfl | (conv => rhs; whnf) <;> (first | rfl | (refine congrArg (D.int _) ?_; omega)))))⟩
  · rw [idxQ_none hk.2 (by omega)]
theorem c_impl_cueIndex (a : List TCue) (id : List UInt8) : FnC Tryz.prog 105 G0 0 [] [.sl 6 (a.map encCue), .str id] (fun d os => d = .int .i64 (idxQ (isCue id) a) ∧ os = []) := by
  refine fn_rule Tryz.func105 rfl (by decide +kernel) rfl (fun w0 F0 lent β0 => ?_)
  repeat' (first | refine sC ?_ | ((with_reducible refine isAwp ?_); first | (refine sS ?_; intro Q' hn he hr) | refine sA ?_) | (refine sH ?_; clear hn he hr Q') | ((conv => whnf); first | refine sK ?_ | ((with_reducible refine isCall ?_); (refine call_look (c_slices_IndexCue a id) rfl ?_)) | (refine ret_pick [] rfl rfl rfl ⟨?_, rfl⟩; conv => lhs; whnf)))
theorem c_impl_cueIndex_cut (a : List TCue) (k : Nat) (id : List UInt8) : FnC Tryz.prog 105 G0 0 [] [.sl 6 (cutL (a.map encCue) none (some k)), .str id] (fun d os => d = .int .i64 (idxQ (isCue id) (a.take k)) ∧ os = []) := by
  have h := c_impl_cueIndex (a.take k) id
  rwa [cutT_sl] at h
theorem c_spec_l13Find (a : List TCue) (id : List UInt8) : FnC Tryz.prog 126 G0 0 [] [.sl 6 (a.map encCue), .str id] (fun d os => d = .int .i64 (idxQ (isCue id) a) ∧ os = []) := by
  refine fn_rule Tryz.func126 rfl (by decide +kernel) rfl (fun w0 F0 lent β0 => ?_)
  repeat' (first | refine sC ?_ | ((with_reducible refine isAwp ?_); first | (refine sS ?_; intro Q' hn he hr) | refine sA ?_) | (refine sH ?_; clear hn he hr Q') | ((conv => whnf); refine sK ?_))
  refine loop_env (fun k : Nat => [(0,.sl 6 (a.map encCue)),(1,.str id),(5,.int .i64 k)]) (fun _ => []) (fun k => k ≤ a.length ∧ noneTo (isCue id) a k) (fun k => a.length - k) 0 ⟨by omega, noneTo_zero⟩ (by refine weak_to rfl rfl rfl ?_; ((repeat' (first | exact trivial | refine And.intro ?_ ?_)) <;> (first | rfl | (conv => rhs; whnf) <;> (first | rfl | (refine congrArg (D.int _) ?_; omega))))) (fun k hk Q' hn he hr => ?_)
  repeat' (first | refine sC ?_ | ((with_reducible refine isAwp ?_); first | (refine sS ?_; intro Q' hn he hr) | refine sA ?_) | (refine sH ?_; clear hn he hr Q') | ((conv => whnf); first | refine sK ?_ | (refine sB ?_; repeat' (refine sb2 ?_ ?_ <;> intro hb <;> try exact cls)) | refine sP ?_ | (refine sE ?_; intro x hx) | (refine sL ?_; intro hlen) | (refine ret_pick [] rfl rfl rfl ⟨?_, rfl⟩; conv => lhs; whnf) | (refine sH ?_; clear hn he hr Q')))
  · rw [idxQ_here hk.2 hx (by simp [isCue, hb])]
  · exact ⟨k + 1, ⟨by omega, noneTo_succ hk.2 hx (by simp [isCue, hb])⟩, by omega, (by refine weak_to rfl rfl rfl ?_; ((repeat' (first | exact trivial | refine And.intro ?_ ?_)) <;> (first | rfl | (conv => rhs; whnf) <;> (first | rfl | (refine congrArg (D.int _) ?_; omega)))))⟩
  · rw [idxQ_none hk.2 (by omega)]
def cueP (a : List TCue) (k : Nat) (x : TCue) : Bool := cueB x && (prevB ltCue a k x && noneB (isCue x.fId) a k)
def cuesB (a : List TCue) : Bool := decide (a.length ≤ 32) && allI (cueP a) a
theorem cuesB_long {a : List TCue} (h : ¬ a.length ≤ 32) : cuesB a = false := by simp [cuesB, h]
theorem cuesB_bad {a : List TCue} {k : Nat} {x : TCue} (hx : a[k]? = some x) (h : cueP a k x = false) : cuesB a = false := by
  unfold cuesB
  rw [allI_bad hx h, Bool.and_false]
theorem cueP_one {a : List TCue} {k : Nat} {x : TCue} (h : cueB x = false) : cueP a k x = false := by simp [cueP, h]
theorem cueP_prev {a : List TCue} {k i : Nat} {x y : TCue} (hi : i + 1 = k) (hy : a[i]? = some y) (h : ltCue y x = false) : cueP a k x = false := by simp [cueP, prevB_at hi hy, h]
theorem cueP_dup {a : List TCue} {k : Nat} {x : TCue} (h : noneB (isCue x.fId) a k = false) : cueP a k x = false := by simp [cueP, h]
theorem cueP_yes {a : List TCue} {k : Nat} {x : TCue} (h1 : cueB x = true) (h2 : prevB ltCue a k x = true) (h3 : noneB (isCue x.fId) a k = true) : cueP a k x = true := by simp [cueP, h1, h2, h3]
/-- The first place of a cue's own id. -/
theorem cue_find {a : List TCue} {k : Nat} {x : TCue} (hx : a[k]? = some x) : (idxQ (isCue x.fId) a < k ↔ noneB (isCue x.fId) a k = false) := by
  have hk := (List.getElem?_eq_some_iff.1 hx).1
  have h1 := idxQ_lt (q := isCue x.fId) hx (by simp [isCue])
  rw [noneB_first (by omega), decide_eq_false_iff_not]
  omega
theorem c_impl_ValidCues (a : List TCue) : FnC Tryz.prog 92 G0 0 [] [.sl 6 (a.map encCue)] (fun d os => d = .bool (cuesB a) ∧ os = []) := by
  refine fn_rule Tryz.func92 rfl (by decide +kernel) rfl (fun w0 F0 lent β0 => ?_)
  repeat' (first | refine sC ?_ | ((with_reducible refine isAwp ?_); first | (refine sS ?_; intro Q' hn he hr) | refine sA ?_) | (refine sH ?_; clear hn he hr Q') | ((conv => whnf); first | refine sK ?_ | (refine sB ?_; repeat' (refine sb2 ?_ ?_ <;> intro hb <;> try exact cls)) | (refine sL ?_; intro hlen) | (refine ret_pick [] rfl rfl rfl ⟨?_, rfl⟩; conv => lhs; whnf)))
  · rw [cuesB_long (by omega)]
  · refine loop_env (fun k : Nat => [(0,.sl 6 (a.map encCue)),(8,.sl 6 (a.map encCue)),(9,.int .i64 a.length),(10,.int .i64 k)]) (fun _ => []) (fun k => k ≤ a.length ∧ allIto (cueP a) a k) (fun k => a.length - k) 0 ⟨by omega, allIto_zero⟩ (by refine weak_to rfl rfl rfl ?_; ((repeat' (first | exact trivial | refine And.intro ?_ ?_)) <;> (first | rfl | (conv => rhs; whnf) <;> (first | rfl | (refine congrArg (D.int _) ?_; omega))))) (fun k hk Q' hn he hr => ?_)
    repeat' (first | refine sC ?_ | ((with_reducible refine isAwp ?_); first | (refine sS ?_; intro Q' hn he hr) | refine sA ?_) | (refine sH ?_; clear hn he hr Q') | refine sO ?_ | ((conv => whnf); first | refine sK ?_ | (refine sB ?_; repeat' (first | refine sb0 ?_ | (refine sb2 ?_ ?_ <;> intro hb <;> try exact cls))) | ((with_reducible refine isCallQ ?_); first | (refine callQ_pure (c_impl_ValidCue _) rfl rfl ?_) | (refine callQ_look (c_impl_compareCues _ _) rfl ?_) | (refine callQ_pure (c_impl_cueIndex_cut a k _) rfl rfl ?_)) | refine sP ?_ | (refine sE ?_; intro x hx) | (refine sF ?_; intro i y hi hy) | refine sD ?_ | (refine ret_pick [] rfl rfl rfl ⟨?_, rfl⟩; conv => lhs; whnf) | (refine sH ?_; clear hn he hr Q')))
    all_goals first
      | (rw [cuesB_bad hx (cueP_one hb)]; done)
      | (rw [cuesB_bad hx (cueP_prev (y := y) (i := i) (by omega) hy (by have h9 := cmpCue_ge y x; rw [decide_eq_true (by omega)] at h9; simpa using h9.symm))]; done)
      | (rw [cuesB_bad hx (cueP_dup ((idxQ_take (by omega)).1 (by omega)))]; done)
      | (refine ⟨k + 1, ⟨by omega, allIto_succ hk.2 hx (cueP_yes (by assumption) ?_ ?_)⟩, by omega, (by refine weak_to rfl rfl rfl ?_; ((repeat' (first | exact trivial | refine And.intro ?_ ?_)) <;> (first | rfl | (conv => rhs; whnf) <;> (first | rfl | (refine congrArg (D.int _) ?_; omega)))))⟩
         · first
             | exact prevB_first (by omega)
             | (rw [prevB_at (lt := ltCue) (x := x) (show i + 1 = k by omega) hy]; have h9 := cmpCue_ge y x; rw [decide_eq_false (by omega)] at h9; simpa using h9.symm)
         · cases h8 : noneB (isCue x.fId) a k with
           | true => rfl
           | false =>
             have h9 := (idxQ_take (q := isCue x.fId) (a := a) (k := k) (by omega)).2 h8
             exfalso; omega)
      | (have h9 := allI_of hk.2 (by omega); have h8 : a.length ≤ 32 := (by omega); simp [cuesB, h9, h8]; done)
theorem c_spec_l13Ok (a : List TCue) : FnC Tryz.prog 70 G0 0 [] [.sl 6 (a.map encCue)] (fun d os => d = .bool (cuesB a) ∧ os = []) := by
  refine fn_rule Tryz.func70 rfl (by decide +kernel) rfl (fun w0 F0 lent β0 => ?_)
  repeat' (first | refine sC ?_ | ((with_reducible refine isAwp ?_); first | (refine sS ?_; intro Q' hn he hr) | refine sA ?_) | (refine sH ?_; clear hn he hr Q') | ((conv => whnf); refine sK ?_))
  refine loop_env (fun k : Nat => [(0,.sl 6 (a.map encCue)),(3,.int .i64 k)]) (fun _ => []) (fun k => k ≤ a.length ∧ allIto (cueP a) a k) (fun k => a.length - k) 0 ⟨by omega, allIto_zero⟩ (by refine weak_to rfl rfl rfl ?_; ((repeat' (first | exact trivial | refine And.intro ?_ ?_)) <;> (first | rfl | (conv => rhs; whnf) <;> (first | rfl | (refine congrArg (D.int _) ?_; omega))))) (fun k hk Q' hn he hr => ?_)
  by_cases hkl : k < a.length
  · obtain ⟨x, hx⟩ : ∃ x, a[k]? = some x := ⟨_, List.getElem?_eq_getElem hkl⟩
    have hcf := cue_find hx
    repeat' (first | refine sC ?_ | ((with_reducible refine isAwp ?_); first | (refine sS ?_; intro Q' hn he hr) | refine sA ?_) | (refine sH ?_; clear hn he hr Q') | refine sO ?_ | ((conv => whnf); first | refine sK ?_ | (refine sB ?_; repeat' (first | refine sb0 ?_ | (refine sb2 ?_ ?_ <;> intro hb <;> try exact cls))) | (refine ElemS.the hx ?_) | ((with_reducible refine isCallQ ?_); first | (refine callQ_look (c_spec_l13One x) rfl ?_) | (refine callQ_pure (c_spec_l13Find a _) rfl rfl ?_) | (refine callQ_look (c_spec_l13Before _ _) rfl ?_)) | refine sP ?_ | (refine sF ?_; intro i y hi hy) | (refine sL ?_; intro hlen) | refine sD ?_ | (refine ret_pick [] rfl rfl rfl ⟨?_, rfl⟩; conv => lhs; whnf)))
    all_goals first
      | (rw [cuesB_bad hx (cueP_one (by assumption))]; done)
      | (rw [cuesB_bad hx (cueP_dup (hcf.1 (by assumption)))]; done)
      | (rw [cuesB_bad hx (cueP_prev (show i + 1 = k by omega) hy hb)]; done)
      | (refine ⟨k + 1, ⟨by omega, allIto_succ hk.2 hx (cueP_yes (by assumption) ?_ ?_)⟩, by omega, (by refine weak_to rfl rfl rfl ?_; ((repeat' (first | exact trivial | refine And.intro ?_ ?_)) <;> (first | rfl | (conv => rhs; whnf) <;> (first | rfl | (refine congrArg (D.int _) ?_; omega)))))⟩
         · first
             | exact prevB_first (by omega)
             | (rw [prevB_at (lt := ltCue) (x := x) (show i + 1 = k by omega) hy]; exact hb)
         · cases h8 : noneB (isCue x.fId) a k with
           | true => rfl
           | false =>
             have h9 := hcf.2 h8
             exfalso; omega)
  · repeat' (first | refine sC ?_ | ((with_reducible refine isAwp ?_); first | (refine sS ?_; intro Q' hn he hr) | refine sA ?_) | (refine sH ?_; clear hn he hr Q') | ((conv => whnf); first | refine sK ?_ | (refine sB ?_; repeat' (refine sb2 ?_ ?_ <;> intro hb <;> try exact cls)) | (refine sL ?_; intro hlen) | (refine ret_pick [] rfl rfl rfl ⟨?_, rfl⟩; conv => lhs; whnf) | (refine sH ?_; clear hn he hr Q')))
    have h9 := allI_of hk.2 (by omega)
    simp [cuesB, h9]
    try omega
end Go.Eng

namespace Go.Eng
open Go Go.RowKit Go.Proofs
set_option maxRecDepth 100000
def scrB (x : TLine) : Bool := if x.fKind = 1 ∨ x.fKind = 3 then nameB x.fName && decide (x.fValue = 0) else if x.fKind = 2 then decide (x.fName = []) && inB x.fValue 1 7200000 else if x.fKind = 4 then nameB x.fName && inB x.fValue 1 100 else if x.fKind = 5 then decide (x.fName = []) && decide (x.fValue = 0) else false
def isLab (n : List UInt8) (x : TLine) : Bool := decide (x.fKind = 1) && x.fName == n
def scrP (a : List TLine) (k : Nat) (x : TLine) : Bool := scrB x && ((!decide (x.fKind = 1) || noneB (isLab x.fName) a k) && (!decide (x.fKind = 4) || decide (0 ≤ idxQ (isLab x.fName) a)))
def scrsB (a : List TLine) : Bool := decide (a.length ≤ 40) && allI (scrP a) a
theorem scrsB_long {a : List TLine} (h : ¬ a.length ≤ 40) : scrsB a = false := by simp [scrsB, h]
theorem scrsB_bad {a : List TLine} {k : Nat} {x : TLine} (hx : a[k]? = some x) (h : scrP a k x = false) : scrsB a = false := by
  unfold scrsB
  rw [allI_bad hx h, Bool.and_false]
theorem lab_find {a : List TLine} {k : Nat} {x : TLine} (hx : a[k]? = some x) (h1 : x.fKind = 1) : (idxQ (isLab x.fName) a = k ↔ noneB (isLab x.fName) a k = true) := by
  have hk := (List.getElem?_eq_some_iff.1 hx).1
  have h2 := idxQ_lt (q := isLab x.fName) hx (by simp [isLab, h1])
  rw [noneB_first (by omega), decide_eq_true_eq]
  omega
theorem none_of_neg {α : Type} {q : α → Bool} {a : List α} {k : Nat} (hk : k ≤ a.length) (h : idxQ q (a.take k) < 0) : noneB q a k = true := by
  cases h8 : noneB q a k with
  | true => rfl
  | false => exact absurd ((idxQ_take hk).2 h8) (by omega)
theorem band {a b : Bool} (h : a = true) (k : b = true) : (a && b) = true := by rw [h, k]; rfl
theorem scr_k1 {x : TLine} (h : x.fKind = 1) : scrB x = (nameB x.fName && decide (x.fValue = 0)) := by simp [scrB, h]
theorem scr_k3 {x : TLine} (h : x.fKind = 3) : scrB x = (nameB x.fName && decide (x.fValue = 0)) := by simp [scrB, h]
theorem scr_k2 {x : TLine} (h : x.fKind = 2) : scrB x = (decide (x.fName = []) && inB x.fValue 1 7200000) := by simp [scrB, h]
theorem scr_k4 {x : TLine} (h : x.fKind = 4) : scrB x = (nameB x.fName && inB x.fValue 1 100) := by simp [scrB, h]
theorem scr_k5 {x : TLine} (h : x.fKind = 5) : scrB x = (decide (x.fName = []) && decide (x.fValue = 0)) := by simp [scrB, h]
theorem scr_k0 {x : TLine} (h1 : ¬ x.fKind = 1) (h2 : ¬ x.fKind = 2) (h3 : ¬ x.fKind = 3) (h4 : ¬ x.fKind = 4) (h5 : ¬ x.fKind = 5) : scrB x = false := by simp [scrB, h1, h2, h3, h4, h5]
theorem scrP_one {a : List TLine} {k : Nat} {x : TLine} (h : scrB x = false) : scrP a k x = false := by simp [scrP, h]
theorem scrP_lab {a : List TLine} {k : Nat} {x : TLine} (h1 : x.fKind = 1) (h : noneB (isLab x.fName) a k = false) : scrP a k x = false := by simp [scrP, h1, h]
theorem scrP_jmp {a : List TLine} {k : Nat} {x : TLine} (h1 : x.fKind = 4) (h : idxQ (isLab x.fName) a < 0) : scrP a k x = false := by
  have h2 : ¬ 0 ≤ idxQ (isLab x.fName) a := by omega
  simp [scrP, h1, h2]
theorem scrP_yes {a : List TLine} {k : Nat} {x : TLine} (h : scrB x = true) (h1 : x.fKind = 1 → noneB (isLab x.fName) a k = true) (h2 : x.fKind = 4 → 0 ≤ idxQ (isLab x.fName) a) : scrP a k x = true := by
  unfold scrP
  rw [h, Bool.true_and]
  by_cases e1 : x.fKind = 1
  · simp [e1, h1 e1]
  · by_cases e4 : x.fKind = 4
    · simp [e4, h2 e4]
    · simp [e1, e4]
theorem lab_no {a : List TLine} {k : Nat} {x : TLine} (hx : a[k]? = some x) (h1 : x.fKind = 1) (h : ¬ idxQ (isLab x.fName) a = k) : noneB (isLab x.fName) a k = false := by
  cases h8 : noneB (isLab x.fName) a k with
  | false => rfl
  | true => exact absurd ((lab_find hx h1).2 h8) h
theorem c_impl_labelIndex1 (x : TLine) (n : List UInt8) : FnC Tryz.prog 200 G0 0 [] [.agg (encLine x), .rp [.str n]] (fun d os => d = .bool (isLab n x) ∧ os = []) := by
  refine fn_rule Tryz.func200 rfl (by decide +kernel) rfl (fun w0 F0 lent β0 => ?_)
  repeat' (first | refine sC ?_ | ((with_reducible refine isAwp ?_); first | (refine sS ?_; intro Q' hn he hr) | refine sA ?_) | (refine sH ?_; clear hn he hr Q') | ((conv => whnf); first | refine sK ?_ | (refine sB ?_; repeat' (first | refine sb0 ?_ | (refine sb2 ?_ ?_ <;> intro hb <;> try exact cls))) | (refine ret_pick [] rfl rfl rfl ⟨?_, rfl⟩; conv => lhs; whnf)))
  all_goals (simp_all [isLab]; done)
theorem c_slices_IndexLine (a : List TLine) (n : List UInt8) : FnC Tryz.prog 199 G0 0 [] [.sl 3 (a.map encLine), .clo (.func 200) [.rp [.str n]]] (fun d os => d = .int .i64 (idxQ (isLab n) a) ∧ os = []) := by
  refine fn_rule Tryz.func199 rfl (by decide +kernel) rfl (fun w0 F0 lent β0 => ?_)
  repeat' (first | refine sC ?_ | ((with_reducible refine isAwp ?_); first | (refine sS ?_; intro Q' hn he hr) | refine sA ?_) | (refine sH ?_; clear hn he hr Q') | ((conv => whnf); first | refine sK ?_ | (refine sL ?_; intro hlen)))
  refine loop_env (fun k : Nat => [(0,.sl 3 (a.map encLine)),(1,.clo (.func 200) [.rp [.str n]]),(6,.sl 3 (a.map encLine)),(7,.int .i64 a.length),(8,.int .i64 k)]) (fun _ => []) (fun k => k ≤ a.length ∧ noneTo (isLab n) a k) (fun k => a.length - k) 0 ⟨by omega, noneTo_zero⟩ (by refine weak_to rfl rfl rfl ?_; ((repeat' (first | exact trivial | refine And.intro ?_ ?_)) <;> (first | rfl | (conv => rhs; whnf) <;> (first | rfl | (refine congrArg (D.int _) ?_; omega))))) (fun k hk Q' hn he hr => ?_)
  repeat' (first | refine sC ?_ | ((with_reducible refine isAwp ?_); first | (refine sS ?_; intro Q' hn he hr) | refine sA ?_) | (refine sH ?_; clear hn he hr Q') | ((conv => whnf); first | refine sK ?_ | (refine sB ?_; repeat' (refine sb2 ?_ ?_ <;> intro hb <;> try exact cls)) | ((with_reducible refine isCall ?_); (refine call_look (c_impl_labelIndex1 x n) rfl ?_)) | refine sP ?_ | (refine sE ?_; intro x hx) | (refine ret_pick [] rfl rfl rfl ⟨?_, rfl⟩; conv => lhs; whnf) | (refine sH ?_; clear hn he hr Q')))
  · rw [idxQ_here hk.2 hx hb]
  · exact ⟨k + 1, ⟨by omega, noneTo_succ hk.2 hx hb⟩, by omega, (by refine weak_to rfl rfl rfl ?_; ((repeat' (first | exact trivial | refine And.intro ?_ ?_)) <;> (first | rfl | (conv => rhs; whnf) <;> (first | rfl | (refine congrArg (D.int _) ?_; omega)))))⟩
  · rw [idxQ_none hk.2 (by omega)]
theorem c_impl_labelIndex (a : List TLine) (n : List UInt8) : FnC Tryz.prog 153 G0 0 [] [.sl 3 (a.map encLine), .str n] (fun d os => d = .int .i64 (idxQ (isLab n) a) ∧ os = []) := by
  refine fn_rule Tryz.func153 rfl (by decide +kernel) rfl (fun w0 F0 lent β0 => ?_)
  repeat' (first | refine sC ?_ | ((with_reducible refine isAwp ?_); first | (refine sS ?_; intro Q' hn he hr) | refine sA ?_) | (refine sH ?_; clear hn he hr Q') | ((conv => whnf); first | refine sK ?_ | ((with_reducible refine isCall ?_); (refine call_look (c_slices_IndexLine a n) rfl ?_)) | (refine ret_pick [] rfl rfl rfl ⟨?_, rfl⟩; conv => lhs; whnf)))
theorem c_impl_labelIndex_cut (a : List TLine) (k : Nat) (n : List UInt8) : FnC Tryz.prog 153 G0 0 [] [.sl 3 (cutL (a.map encLine) none (some k)), .str n] (fun d os => d = .int .i64 (idxQ (isLab n) (a.take k)) ∧ os = []) := by
  have h := c_impl_labelIndex (a.take k) n
  rwa [cutT_sl] at h
theorem c_spec_l15Label (a : List TLine) (n : List UInt8) : FnC Tryz.prog 129 G0 0 [] [.sl 3 (a.map encLine), .str n] (fun d os => d = .int .i64 (idxQ (isLab n) a) ∧ os = []) := by
  refine fn_rule Tryz.func129 rfl (by decide +kernel) rfl (fun w0 F0 lent β0 => ?_)
  repeat' (first | refine sC ?_ | ((with_reducible refine isAwp ?_); first | (refine sS ?_; intro Q' hn he hr) | refine sA ?_) | (refine sH ?_; clear hn he hr Q') | ((conv => whnf); refine sK ?_))
  refine loop_env (fun k : Nat => [(0,.sl 3 (a.map encLine)),(1,.str n),(5,.int .i64 k)]) (fun _ => []) (fun k => k ≤ a.length ∧ noneTo (isLab n) a k) (fun k => a.length - k) 0 ⟨by omega, noneTo_zero⟩ (by refine weak_to rfl rfl rfl ?_; ((repeat' (first | exact trivial | refine And.intro ?_ ?_)) <;> (first | rfl | (conv => rhs; whnf) <;> (first | rfl | (refine congrArg (D.int _) ?_; omega))))) (fun k hk Q' hn he hr => ?_)
  by_cases hkl : k < a.length
  · obtain ⟨x, hx0⟩ : ∃ x, a[k]? = some x := ⟨_, List.getElem?_eq_getElem hkl⟩
    repeat' (first | refine sC ?_ | ((with_reducible refine isAwp ?_); first | (refine sS ?_; intro Q' hn he hr) | refine sA ?_) | (refine sH ?_; clear hn he hr Q') | ((conv => whnf); first | refine sK ?_ | (refine sB ?_; repeat' (first | refine sb0 ?_ | (refine sb2 ?_ ?_ <;> intro hb <;> try exact cls))) | (refine ElemS.the hx0 ?_) | refine sP ?_ | (refine sL ?_; intro hlen) | (refine ret_pick [] rfl rfl rfl ⟨?_, rfl⟩; conv => lhs; whnf)))
    all_goals first
      | (rw [idxQ_here hk.2 hx0 (by simp [isLab, *])]; done)
      | exact ⟨k + 1, ⟨by omega, noneTo_succ hk.2 hx0 (by simp [isLab, *])⟩, by omega, (by refine weak_to rfl rfl rfl ?_; ((repeat' (first | exact trivial | refine And.intro ?_ ?_)) <;> (first | rfl | (conv => rhs; whnf) <;> (first | rfl | (refine congrArg (D.int _) ?_; omega)))))⟩
  · repeat' (first | refine sC ?_ | ((with_reducible refine isAwp ?_); first | (refine sS ?_; intro Q' hn he hr) | refine sA ?_) | (refine sH ?_; clear hn he hr Q') | ((conv => whnf); first | refine sK ?_ | (refine sB ?_; repeat' (refine sb2 ?_ ?_ <;> intro hb <;> try exact cls)) | (refine sL ?_; intro hlen) | (refine ret_pick [] rfl rfl rfl ⟨?_, rfl⟩; conv => lhs; whnf) | (refine sH ?_; clear hn he hr Q')))
    rw [idxQ_none hk.2 (by omega)]
theorem c_spec_l15One (x : TLine) : FnC Tryz.prog 128 G0 0 [] [.rp (encLine x)] (fun d os => d = .bool (scrB x) ∧ os = []) := by
  refine fn_rule Tryz.func128 rfl (by decide +kernel) rfl (fun w0 F0 lent β0 => ?_)
  repeat' (first | refine sC ?_ | ((with_reducible refine isAwp ?_); first | (refine sS ?_; intro Q' hn he hr) | refine sA ?_) | (refine sH ?_; clear hn he hr Q') | ((conv => whnf); first | refine sK ?_ | (refine sB ?_; repeat' (first | refine sb0 ?_ | (refine sb2 ?_ ?_ <;> intro hb <;> try exact cls))) | ((with_reducible refine isCall ?_); first | (refine call_pure (c_spec_l01Name _) rfl rfl ?_) | (refine call_pure (c_l00In _ _ _) rfl rfl ?_)) | (refine ret_pick [] rfl rfl rfl ⟨?_, rfl⟩; conv => lhs; whnf)))
  all_goals (simp_all [scrB]; done)
theorem c_spec_l15Ok (a : List TLine) : FnC Tryz.prog 71 G0 0 [] [.sl 3 (a.map encLine)] (fun d os => d = .bool (scrsB a) ∧ os = []) := by
  refine fn_rule Tryz.func71 rfl (by decide +kernel) rfl (fun w0 F0 lent β0 => ?_)
  repeat' (first | refine sC ?_ | ((with_reducible refine isAwp ?_); first | (refine sS ?_; intro Q' hn he hr) | refine sA ?_) | (refine sH ?_; clear hn he hr Q') | ((conv => whnf); refine sK ?_))
  refine loop_env (fun k : Nat => [(0,.sl 3 (a.map encLine)),(3,.int .i64 k)]) (fun _ => []) (fun k => k ≤ a.length ∧ allIto (scrP a) a k) (fun k => a.length - k) 0 ⟨by omega, allIto_zero⟩ (by refine weak_to rfl rfl rfl ?_; ((repeat' (first | exact trivial | refine And.intro ?_ ?_)) <;> (first | rfl | (conv => rhs; whnf) <;> (first | rfl | (refine congrArg (D.int _) ?_; omega))))) (fun k hk Q' hn he hr => ?_)
  repeat' (first | refine sC ?_ | ((with_reducible refine isAwp ?_); first | (refine sS ?_; intro Q' hn he hr) | refine sA ?_) | (refine sH ?_; clear hn he hr Q') | ((conv => whnf); first | refine sK ?_ | (refine sB ?_; repeat' (first | refine sb0 ?_ | (refine sb2 ?_ ?_ <;> intro hb <;> try exact cls))) | ((with_reducible refine isCall ?_); first | (refine call_look (c_spec_l15One x) rfl ?_) | (refine call_look (c_spec_l15Label a x.fName) rfl ?_)) | refine sP ?_ | (refine sE ?_; intro x hx) | (refine sL ?_; intro hlen) | (refine ret_pick [] rfl rfl rfl ⟨?_, rfl⟩; conv => lhs; whnf) | (refine sH ?_; clear hn he hr Q')))
  all_goals first
    | (rw [scrsB_bad hx (scrP_one hb)]; done)
    | (rw [scrsB_bad hx (scrP_lab (by assumption) (lab_no hx (by assumption) hb))]; done)
    | (rw [scrsB_bad hx (scrP_jmp (by assumption) hb)]; done)
    | (refine ⟨k + 1, ⟨by omega, allIto_succ hk.2 hx (scrP_yes (by assumption) (fun h1 => ?_) (fun h4 => ?_))⟩, by omega, (by refine weak_to rfl rfl rfl ?_; ((repeat' (first | exact trivial | refine And.intro ?_ ?_)) <;> (first | rfl | (conv => rhs; whnf) <;> (first | rfl | (refine congrArg (D.int _) ?_; omega)))))⟩
       · first
           | (exfalso; omega)
           | exact (lab_find hx h1).1 (by assumption)
       · first
           | (exfalso; omega)
           | assumption)
    | (have h9 := allI_of hk.2 (by omega); simp [scrsB, h9]; try omega)
theorem c_impl_ValidScript (a : List TLine) : FnC Tryz.prog 93 G0 0 [] [.sl 3 (a.map encLine)] (fun d os => d = .bool (scrsB a) ∧ os = []) := by
  refine fn_rule Tryz.func93 rfl (by decide +kernel) rfl (fun w0 F0 lent β0 => ?_)
  repeat' (first | refine sC ?_ | ((with_reducible refine isAwp ?_); first | (refine sS ?_; intro Q' hn he hr) | refine sA ?_) | (refine sH ?_; clear hn he hr Q') | ((conv => whnf); first | refine sK ?_ | (refine sB ?_; repeat' (refine sb2 ?_ ?_ <;> intro hb <;> try exact cls)) | (refine sL ?_; intro hlen) | (refine ret_pick [] rfl rfl rfl ⟨?_, rfl⟩; conv => lhs; whnf)))
  · rw [scrsB_long (by omega)]
  · refine loop_env (fun k : Nat => [(0,.sl 3 (a.map encLine)),(10,.sl 3 (a.map encLine)),(11,.int .i64 a.length),(12,.int .i64 k)]) (fun _ => []) (fun k => k ≤ a.length ∧ allIto (scrP a) a k) (fun k => a.length - k) 0 ⟨by omega, allIto_zero⟩ (by refine weak_to rfl rfl rfl ?_; ((repeat' (first | exact trivial | refine And.intro ?_ ?_)) <;> (first | rfl | (conv => rhs; whnf) <;> (first | rfl | (refine congrArg (D.int _) ?_; omega))))) (fun k hk Q' hn he hr => ?_)
    repeat' (first | refine sC ?_ | ((with_reducible refine isAwp ?_); first | (refine sS ?_; intro Q' hn he hr) | refine sA ?_) | (refine sH ?_; clear hn he hr Q') | refine sO ?_ | ((conv => whnf); first | refine sK ?_ | (refine sB ?_; repeat' (first | refine sb0 ?_ | (refine sb2 ?_ ?_ <;> intro hb <;> try exact cls))) | ((with_reducible refine isCall ?_); first | (refine call_pure (c_impl_IsName _) rfl rfl ?_) | (refine call_pure (c_within _ _ _) rfl rfl ?_) | (refine call_look (c_impl_labelIndex a x.fName) rfl ?_)) | ((with_reducible refine isCallQ ?_); (refine callQ_pure (c_impl_labelIndex_cut a k x.fName) rfl rfl ?_)) | refine sP ?_ | (refine sE ?_; intro x hx) | refine sD ?_ | (refine ret_pick [] rfl rfl rfl ⟨?_, rfl⟩; conv => lhs; whnf) | (refine sH ?_; clear hn he hr Q')))
    all_goals first
      | (have h9 := allI_of hk.2 (by omega); have h8 : a.length ≤ 40 := (by omega); simp [scrsB, h9, h8]; done)
      | (refine ⟨k + 1, ⟨by omega, allIto_succ hk.2 hx (scrP_yes ?_ (fun h1 => ?_) (fun h4 => ?_))⟩, by omega, (by refine weak_to rfl rfl rfl ?_; ((repeat' (first | exact trivial | refine And.intro ?_ ?_)) <;> (first | rfl | (conv => rhs; whnf) <;> (first | rfl | (refine congrArg (D.int _) ?_; omega)))))⟩
         · first
             | (rw [scr_k1 (by assumption)]; exact band (by assumption) (decide_eq_true (by assumption)))
             | (rw [scr_k3 (by assumption)]; exact band (by assumption) (decide_eq_true (by assumption)))
             | (rw [scr_k2 (by assumption)]; exact band (decide_eq_true (by assumption)) (by assumption))
             | (rw [scr_k4 (by assumption)]; exact band (by assumption) (by assumption))
             | (rw [scr_k5 (by assumption)]; exact band (decide_eq_true (by assumption)) (decide_eq_true (by assumption)))
         · first
             | (exfalso; omega)
             | exact none_of_neg (by omega) (by assumption)
         · first
             | (exfalso; omega)
             | assumption)
      | (rw [scrsB_bad hx (scrP_one (scr_k0 (by assumption) (by assumption) (by assumption) (by assumption) (by assumption)))]; done)
      | (rw [scrsB_bad hx (scrP_one (by first | rw [scr_k1 (by assumption)] | rw [scr_k3 (by assumption)] | rw [scr_k2 (by assumption)] | rw [scr_k4 (by assumption)] | rw [scr_k5 (by assumption)]
                                        first
                                          | (rw [hb]; rfl)
                                          | (rw [hb, Bool.and_false])
                                          | (rw [decide_eq_false hb, Bool.and_false])
                                          | (rw [decide_eq_false (show ¬ x.fName = [] from hb)]; rfl)))]; done)
      | (rw [scrsB_bad hx (scrP_jmp (by assumption) hb)]; done)
      | (rw [scrsB_bad hx (scrP_lab (by assumption) ((idxQ_take (by omega)).1 hb))]; done)
      | skip
end Go.Eng
