/-
  Blocks by their names; the names of a kind.
  No conditions.
-/
import Derived.Test.YtpleljnhaoejdaaDoorED
import Derived.Test.YtpleljnhaoejdaaDoorB1
set_option linter.unusedVariables false
set_option linter.unusedSimpArgs false
set_option maxHeartbeats 4000000
namespace Go.Eng
open Go Go.RowKit Go.Proofs
set_option maxRecDepth 100000

def isBlk (kd nm : List UInt8) (b : TBlock) : Bool := b.fKind == kd && b.fName == nm
theorem blkSorted {a : List TBlock} (h : chain ltBlk a = true) {i j : Nat} {x y : TBlock} (hi : i < j) (hx : a[i]? = some x) (hy : a[j]? = some y) : ltBlk x y = true := chain_sorted (lt := ltBlk) ltBlk_trans h hi hx hy
theorem cmpBlk_zero {a b : TBlock} : cmpBlk a b = 0 ↔ a.fKind = b.fKind ∧ a.fName = b.fName := by
  rw [cmpBlk_eq]
  by_cases h : ltBlk a b = true
  · rw [if_pos h]
    exact Iff.intro (fun h => absurd h (by decide)) (fun h2 => absurd h2 (ltBlk_irrefl h))
  · rw [if_neg h]; split <;> simp_all
theorem cmpBlk_is (a b : TBlock) : decide (cmpBlk a b = 0) = isBlk b.fKind b.fName a := by
  rw [Bool.eq_iff_iff]; simp [isBlk, cmpBlk_zero]
/-- Where the block stands, or would stand. -/
def blkAt (a : List TBlock) (t : TBlock) : Nat := firstAt (fun b => !ltBlk b t) a
theorem blkAt_le (a : List TBlock) (t : TBlock) : blkAt a t ≤ a.length := firstAt_le _ _
theorem c_slices_BinarySearchBlk (a : List TBlock) (t : TBlock) (hs : chain ltBlk a = true) (hl : a.length ≤ 1048576) : FnC Tryd.prog 164 G0 0 [] [.sl 3 (a.map encBlock), .agg (encBlock t), .clo (.func 117) []]
    (fun d os => d = .tup [.int .i64 (blkAt a t), .bool ((a[blkAt a t]?).any fun b => isBlk t.fKind t.fName b)] ∧ os = []) := by
  refine fn_rule Tryd.func164 rfl (by decide +kernel) rfl (fun w0 F0 lent β0 => ?_)
  repeat' (first | refine sC ?_ | ((with_reducible refine isAwp ?_); first | (refine sS ?_; intro Q' hn he hr) | refine sA ?_) | (refine sH ?_; clear hn he hr Q') | refine sO ?_ | ((conv => whnf); first | refine sK ?_ | (refine sB ?_; repeat' (first | refine sb0 ?_ | (refine sb2 ?_ ?_ <;> intro hb <;> try exact cls))) | refine sP ?_ | (refine sE ?_; intro x hx) | (refine sF ?_; intro i y hi hy) | (refine sI ?_; intro i hi) | (refine sL ?_; intro hlen) | (refine sQ ?_; intro c hc hcm; try simp only [lnM, lnA, lnC, lnN] at hc) | (refine sX ?_; intro i1 i2 hi1 hi2 hj1 hj2; try simp only [cutL, lnM, lnA, lnC, lnN, lnT, lnD, lnR] at hi1 hi2 hj2) | refine sD ?_ | (refine ret_pick [] rfl rfl rfl ⟨?_, rfl⟩; conv => lhs; whnf) | (refine ret_pick [0] rfl rfl rfl ⟨rfl, ?_⟩) | (refine sH ?_; clear hn he hr Q')))
  refine loop_env2 (fun i j : Nat => [(0,.sl 3 (a.map encBlock)),(2,.clo (.func 117) []),(4,.hp 0 0),(8,.int .i64 a.length),(9,.int .i64 i),(10,.int .i64 j)]) (fun _ _ => [.box (encBlock t)]) (fun i j => i ≤ j ∧ j ≤ a.length ∧ (∀ m y, m < i → a[m]? = some y → ltBlk y t = true) ∧ (∀ m y, j ≤ m → a[m]? = some y → ltBlk y t = false)) (fun i j => j - i) 0 a.length ⟨Nat.zero_le _, Nat.le_refl _, fun m y h => absurd h (Nat.not_lt_zero _), fun m y h hy => by have := (List.getElem?_eq_some_iff.1 hy).1; omega⟩ (by refine weak_to rfl rfl rfl ?_; exact ⟨rfl, rfl, rfl, rfl, rfl, rfl, trivial⟩) (fun i j hk Q' hn he hr => ?_)
  repeat' (first | refine sC ?_ | ((with_reducible refine isAwp ?_); first | (refine sS ?_; intro Q' hn he hr) | refine sA ?_) | (refine sH ?_; clear hn he hr Q') | refine sO ?_ | ((conv => whnf); first | refine sK ?_ | (refine sB ?_; repeat' (first | refine sb0 ?_ | (refine sb2 ?_ ?_ <;> intro hb <;> try exact cls))) | (refine AskS.mk ⟨by decide, ?_⟩) | (refine ArithS.inU64 (by omega) ?_) | (refine ArithS.to (((i + j) / 2 : Nat) : Int) (half_eq _ _) (wrap64 (by omega)) ?_) | ((with_reducible refine isCall ?_); first | (refine call_pure (c_impl_compareBlocks _ _) rfl rfl ?_)) | ((with_reducible refine isCallQ ?_); first | (refine callQ_pure (c_impl_compareBlocks _ _) rfl rfl ?_)) | refine sP ?_ | (refine sE ?_; intro x hx) | (refine sF ?_; intro i y hi hy) | (refine sI ?_; intro i hi) | (refine sL ?_; intro hlen) | (refine sQ ?_; intro c hc hcm; try simp only [lnM, lnA, lnC, lnN] at hc) | (refine sX ?_; intro i1 i2 hi1 hi2 hj1 hj2; try simp only [cutL, lnM, lnA, lnC, lnN, lnT, lnD, lnR] at hi1 hi2 hj2) | refine sD ?_ | (refine ret_pick [] rfl rfl rfl ⟨?_, rfl⟩; conv => lhs; whnf) | (refine ret_pick [0] rfl rfl rfl ⟨rfl, ?_⟩) | (refine sH ?_; clear hn he hr Q')))
  · refine ⟨(i + j) / 2 + 1, j, ⟨by omega, by omega, fun m y hm hy => ?_, hk.2.2.2⟩, by omega, (by refine weak_to rfl rfl rfl ?_; ((repeat' (first | exact trivial | refine And.intro ?_ ?_)) <;> (first | rfl | (conv => rhs; whnf) <;> (first | rfl | (refine congrArg (D.int _) ?_; omega)))))⟩
    have hxt := cmpBlk_lt.1 hb
    rcases Nat.lt_or_ge m ((i + j) / 2) with h | h
    · exact ltBlk_trans (blkSorted hs h hy hx) hxt
    · obtain rfl : m = (i + j) / 2 := by omega
      rw [hx] at hy
      cases hy
      exact hxt
  · refine ⟨i, (i + j) / 2, ⟨by omega, by omega, hk.2.2.1, fun m y hm hy => ?_⟩, by omega, (by refine weak_to rfl rfl rfl ?_; ((repeat' (first | exact trivial | refine And.intro ?_ ?_)) <;> (first | rfl | (conv => rhs; whnf) <;> (first | rfl | (refine congrArg (D.int _) ?_; omega)))))⟩
    have hxt := cmpBlk_ge.1 hb
    rcases Nat.lt_or_ge ((i + j) / 2) m with h | h
    · cases hyt : ltBlk y t with
      | false => rfl
      | true =>
        rw [ltBlk_trans (blkSorted hs h hx hy) hyt] at hxt
        cases hxt
    · obtain rfl : m = (i + j) / 2 := by omega
      rw [hx] at hy
      cases hy
      exact hxt
  all_goals
    have hij : i = j := by omega
    subst hij
    have hat : blkAt a t = i := firstAt_eq (by omega) (fun m y hm hy => by simp [hk.2.2.1 m y hm hy]) (fun y hy => by simp [hk.2.2.2 i y (Nat.le_refl _) hy])
    rw [hat]
  · show D.tup [_, D.bool (decide (cmpBlk _ t = 0))] = _
    rw [cmpBlk_is, hx]
    rfl
  · rw [List.getElem?_eq_none (by omega)]
    rfl
theorem c_impl_blockPlace (a : List TBlock) (t : TBlock) (hs : chain ltBlk a = true) (hl : a.length ≤ 1048576) : FnC Tryd.prog 133 G0 0 [] [.sl 3 (a.map encBlock), .agg (encBlock t)]
    (fun d os => d = .tup [.int .i64 (blkAt a t), .bool ((a[blkAt a t]?).any fun b => isBlk t.fKind t.fName b)] ∧ os = []) := by
  refine fn_rule Tryd.func133 rfl (by decide +kernel) rfl (fun w0 F0 lent β0 => ?_)
  repeat' (first | refine sC ?_ | ((with_reducible refine isAwp ?_); first | (refine sS ?_; intro Q' hn he hr) | refine sA ?_) | (refine sH ?_; clear hn he hr Q') | refine sO ?_ | ((conv => whnf); first | refine sK ?_ | (refine sB ?_; repeat' (first | refine sb0 ?_ | (refine sb2 ?_ ?_ <;> intro hb <;> try exact cls))) | ((with_reducible refine isCall ?_); first | (refine call_pure (c_slices_BinarySearchBlk a t hs hl) rfl rfl ?_)) | ((with_reducible refine isCallQ ?_); first | (refine callQ_pure (c_slices_BinarySearchBlk a t hs hl) rfl rfl ?_)) | refine sP ?_ | (refine sE ?_; intro x hx) | (refine sF ?_; intro i y hi hy) | (refine sI ?_; intro i hi) | (refine sL ?_; intro hlen) | (refine sQ ?_; intro c hc hcm; try simp only [lnM, lnA, lnC, lnN] at hc) | (refine sX ?_; intro i1 i2 hi1 hi2 hj1 hj2; try simp only [cutL, lnM, lnA, lnC, lnN, lnT, lnD, lnR] at hi1 hi2 hj2) | refine sD ?_ | (refine ret_pick [] rfl rfl rfl ⟨?_, rfl⟩; conv => lhs; whnf) | (refine ret_pick [0] rfl rfl rfl ⟨rfl, ?_⟩) | (refine sH ?_; clear hn he hr Q')))
  rfl
theorem validBs_chain {a : List TBlock} (h : validBs a = true) : chain ltBlk a = true := by
  simp only [validBs, listOk, Bool.and_eq_true] at h
  exact h.2.2
theorem blkAt_first {a : List TBlock} (hs : chain ltBlk a = true) (t : TBlock) : if (a[blkAt a t]?).any (fun b => isBlk t.fKind t.fName b) = true then firstAt (isBlk t.fKind t.fName) a = blkAt a t else firstAt (isBlk t.fKind t.fName) a = a.length := by
  have hle := blkAt_le a t
  obtain ⟨h1, h2⟩ := firstAt_spec (fun b => !ltBlk b t) a
  have hlow : ∀ j x, j < blkAt a t → a[j]? = some x → isBlk t.fKind t.fName x = false := by
    intro j x hj hx
    have := h1 j x hj hx
    simp only [Bool.not_eq_false'] at this
    cases hi : isBlk t.fKind t.fName x with
    | false => rfl
    | true =>
      simp only [isBlk, Bool.and_eq_true, beq_iff_eq] at hi
      exact absurd hi (ltBlk_irrefl this)
  split
  · rename_i h
    have hlt := any_lt h
    refine firstAt_eq hle hlow (fun x hx => ?_)
    rw [hx] at h
    exact h
  · rename_i h
    refine firstAt_eq (Nat.le_refl _) (fun j x _ hx => ?_) (fun x hx => by simp at hx)
    rcases Nat.lt_trichotomy j (blkAt a t) with hj | hj | hj
    · exact hlow j x hj hx
    · subst hj
      rw [hx] at h
      simpa using h
    · cases hi : isBlk t.fKind t.fName x with
      | false => rfl
      | true =>
        exfalso
        have hjl := (List.getElem?_eq_some_iff.1 hx).1
        have hp : a[blkAt a t]? = some (a[blkAt a t]'(by omega)) := List.getElem?_eq_getElem (by omega)
        have h3 := blkSorted hs hj hp hx
        have h4 : (!ltBlk (a[blkAt a t]'(by omega)) t) = true := h2 _ hp
        simp only [isBlk, Bool.and_eq_true, beq_iff_eq] at hi
        have h5 : ltBlk (a[blkAt a t]'(by omega)) t = true := by
          simp only [ltBlk, hi.1, hi.2] at h3 ⊢
          exact h3
        rw [h5] at h4
        cases h4
/-- The text of a block, and a code. -/
def namedB (a : List TBlock) (kd nm : List UInt8) : List UInt8 × Int :=
  if validBs a = true then (match a[firstAt (isBlk kd nm) a]? with
    | some b => (b.fText, 0)
    | none => ([], 3)) else ([], 1)
end Go.Eng
