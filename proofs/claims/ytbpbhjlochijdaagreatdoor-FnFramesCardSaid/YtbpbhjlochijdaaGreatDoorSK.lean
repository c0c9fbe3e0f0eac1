/-
  The stars of blocks, by the program and by the reference.
  No conditions.
-/
import Derived.Test.YtbpbhjlochijdaaGreatDoorED
import Derived.Test.YtbpbhjlochijdaaGreatDoorSB
set_option linter.unusedVariables false
set_option linter.unusedSimpArgs false
set_option maxHeartbeats 4000000
namespace Go.Eng
open Go Go.RowKit Go.Proofs
set_option maxRecDepth 100000
def starW : List UInt8 := [115, 116, 97, 114]
/-- The stars of blocks, or a code. -/
def starsR : List TBlock → List TStar → Int ⊕ List TStar
  | [], out => .inr out
  | b :: r, out => if b.fKind = starW then (match readStar b.fText with
      | none => .inl 9
      | some x => if x.fId = b.fName then starsR r (out ++ [x]) else .inl 6) else starsR r out
def starsAll (a : List TBlock) : Int ⊕ List TStar := if validBs a = false then .inl 1 else
  match starsR a [] with
  | .inl c => .inl c
  | .inr o => if o.length ≤ 24 then .inr o else .inl 5
theorem starsR_step {a : List TBlock} {k : Nat} {b : TBlock} (h : a[k]? = some b) (out : List TStar) : starsR (a.drop k) out = if b.fKind = starW then (match readStar b.fText with
      | none => .inl 9
      | some x => if x.fId = b.fName then starsR (a.drop (k + 1)) (out ++ [x]) else .inl 6) else starsR (a.drop (k + 1)) out := by
  have hk := (List.getElem?_eq_some_iff.1 h)
  rw [List.drop_eq_getElem_cons hk.1, hk.2, starsR]
theorem starsR_end {a : List TBlock} {k : Nat} (h : a.length ≤ k) (out : List TStar) : starsR (a.drop k) out = .inr out := by
  rw [List.drop_of_length_le h, starsR]
theorem starsAll_len {a : List TBlock} {o : List TStar} (h : starsAll a = .inr o) : o.length ≤ 24 := by
  unfold starsAll at h
  split at h
  · cases h
  · split at h
    · cases h
    · split at h
      · cases h; assumption
      · cases h
theorem validBs_text {a : List TBlock} (h : validBs a = true) {b : TBlock} (hb : b ∈ a) : b.fText.length ≤ 1048576 := by
  simp only [validBs, Bool.and_eq_true] at h
  obtain ⟨k, hk⟩ := List.getElem?_of_mem hb
  have h1 := listOk_at h.2 hk
  simp only [validB, Bool.and_eq_true, decide_eq_true_eq] at h1
  omega
theorem validBs_len' {a : List TBlock} (h : validBs a = true) : a.length ≤ 32 := by
  simp only [validBs, Bool.and_eq_true, decide_eq_true_eq] at h
  exact h.1
theorem c_impl_StarsOfBlocks_bad (e1 e2 : Value) (hif : isIfc e1) (a : List TBlock) (c : Int) (h : starsAll a = .inl c) : FnC Tryz.prog 33 (GE e1 e2) 0 [] [.sl 3 (a.map encBlock)] (fun d os => d = .tup [.sl 5 [], .int .i64 c] ∧ os = []) := by
  have hvc := c_impl_ValidBlocks a
  unfold starsAll at h
  cases hV : validBs a with
  | false =>
    rw [hV, if_pos rfl] at h
    cases h
    rw [hV] at hvc
    refine fn_rule Tryz.func33 rfl (by decide +kernel) rfl (fun w0 F0 lent β0 => ?_)
    repeat' (first | refine sC ?_ | ((with_reducible refine isAwp ?_); first | (refine sS ?_; intro Q' hn he hr) | refine sA ?_) | (refine sH ?_; clear hn he hr Q') | refine sO ?_ | ((conv => whnf); first | refine sK ?_ | (refine sB ?_; repeat' (first | refine sb0 ?_ | (refine sb2 ?_ ?_ <;> intro hb <;> try exact cls))) | ((with_reducible refine isCall ?_); first | (refine call_pure (FnC.anyG (hvc)) rfl rfl ?_)) | ((with_reducible refine isCallQ ?_); first | (refine callQ_pure (FnC.anyG (hvc)) rfl rfl ?_)) | ((with_reducible refine isRet ?_); first | (refine ret_nil 5 ?_; refine ret_pick [] rfl rfl rfl ⟨?_, rfl⟩)) | refine sP ?_ | (refine sE ?_; intro x hx) | (refine sF ?_; intro i y hi hy) | (refine sI ?_; intro i hi) | (refine sL ?_; intro hlen) | (refine sQ ?_; intro c hc hcm; try simp only [lnM, lnA, lnC, lnN] at hc) | (refine sX ?_; intro i1 i2 hi1 hi2 hj1 hj2; try simp only [cutL, lnM, lnA, lnC, lnN, lnT, lnD, lnR] at hi1 hi2 hj2) | refine sD ?_ | (refine ret_pick [] rfl rfl rfl ⟨?_, rfl⟩; conv => lhs; whnf) | (refine ret_pick [0] rfl rfl rfl ⟨rfl, ?_⟩) | (refine sH ?_; clear hn he hr Q')))
    all_goals rfl
  | true =>
    have hall32 := validBs_len' hV
    have htx : ∀ b ∈ a, b.fText.length ≤ 1048576 := fun b hb => validBs_text hV hb
    rw [hV] at hvc
    rw [hV, if_neg (by simp)] at h
    refine fn_rule Tryz.func33 rfl (by decide +kernel) rfl (fun w0 F0 lent β0 => ?_)
    repeat' (first | refine sC ?_ | ((with_reducible refine isAwp ?_); first | (refine sS ?_; intro Q' hn he hr) | refine sA ?_) | (refine sH ?_; clear hn he hr Q') | refine sO ?_ | ((conv => whnf); first | refine sK ?_ | (refine sB ?_; repeat' (first | refine sb0 ?_ | (refine sb2 ?_ ?_ <;> intro hb <;> try exact cls))) | ((with_reducible refine isCall ?_); first | (refine call_pure (FnC.anyG (hvc)) rfl rfl ?_)) | ((with_reducible refine isCallQ ?_); first | (refine callQ_pure (FnC.anyG (hvc)) rfl rfl ?_)) | refine sP ?_ | (refine sE ?_; intro x hx) | (refine sF ?_; intro i y hi hy) | (refine sI ?_; intro i hi) | (refine sL ?_; intro hlen) | (refine sQ ?_; intro c hc hcm; try simp only [lnM, lnA, lnC, lnN] at hc) | (refine sX ?_; intro i1 i2 hi1 hi2 hj1 hj2; try simp only [cutL, lnM, lnA, lnC, lnN, lnT, lnD, lnR] at hi1 hi2 hj2) | refine sD ?_ | (refine ret_pick [] rfl rfl rfl ⟨?_, rfl⟩; conv => lhs; whnf) | (refine ret_pick [0] rfl rfl rfl ⟨rfl, ?_⟩) | (refine sH ?_; clear hn he hr Q')))
    refine loop_env2 (fun (k : Nat) (out : List TStar) => [(12,.sl 3 (a.map encBlock)),(13,.int .i64 a.length),(14,.int .i64 k),(4,.h 0)]) (fun k out => [.row 68 5 (out.map encStar)]) (fun k out => starsR (a.drop k) out = starsR a [] ∧ k ≤ a.length ∧ out.length ≤ k) (fun k out => a.length - k) 0 [] ⟨rfl, by omega, by simp⟩ (by refine Weak.trans (weak_adopt 4 68 5 rfl rfl) (weak_to rfl rfl rfl ?_); exact ⟨rfl, rfl, rfl, rfl, trivial⟩) (fun k out hk Q' hn he hr => ?_)
    obtain ⟨hk1, hk2, hk3⟩ := hk
    by_cases hkl : k < a.length
    · obtain ⟨b, hb0⟩ : ∃ b, a[k]? = some b := ⟨_, List.getElem?_eq_getElem hkl⟩
      have hst := starsR_step hb0 out
      rw [hk1] at hst
      by_cases hK : b.fKind = starW
      case neg =>
        rw [if_neg hK] at hst
        repeat' (first | refine sC ?_ | ((with_reducible refine isAwp ?_); first | (refine sS ?_; intro Q' hn he hr) | refine sA ?_) | (refine sH ?_; clear hn he hr Q') | refine sO ?_ | ((conv => whnf); first | refine sK ?_ | (refine sB ?_; repeat' (first | refine sb0 ?_ | (refine sb2 ?_ ?_ <;> intro hb <;> try exact cls))) | (refine ElemS.the hb0 ?_) | refine sP ?_ | (refine sE ?_; intro x hx) | (refine sF ?_; intro i y hi hy) | (refine sI ?_; intro i hi) | (refine sL ?_; intro hlen) | (refine sQ ?_; intro c hc hcm; try simp only [lnM, lnA, lnC, lnN] at hc) | (refine sX ?_; intro i1 i2 hi1 hi2 hj1 hj2; try simp only [cutL, lnM, lnA, lnC, lnN, lnT, lnD, lnR] at hi1 hi2 hj2) | refine sD ?_ | (refine ret_pick [] rfl rfl rfl ⟨?_, rfl⟩; conv => lhs; whnf) | (refine ret_pick [0] rfl rfl rfl ⟨rfl, ?_⟩) | (refine sH ?_; clear hn he hr Q')))
        all_goals first | exact absurd (by assumption) hK | exact ⟨k + 1, out, ⟨hst.symm, by omega, by omega⟩, by omega, (by refine weak_to rfl rfl rfl ?_; ((repeat' (first | exact trivial | refine And.intro ?_ ?_)) <;> (first | rfl | (conv => rhs; whnf) <;> (first | rfl | (refine congrArg (D.int _) ?_; omega)))))⟩
      rw [if_pos hK] at hst
      have hrs := c_impl_ReadStar e1 e2 hif b.fText (htx b (List.mem_of_getElem? hb0))
      cases hR : readStar b.fText with
      | none =>
        rw [hR, show starD none = .tup [.agg (encStar noStar), .bool false] from rfl] at hrs
        rw [hR] at hst
        simp only at hst
        repeat' (first | refine sC ?_ | ((with_reducible refine isAwp ?_); first | (refine sS ?_; intro Q' hn he hr) | refine sA ?_) | (refine sH ?_; clear hn he hr Q') | refine sO ?_ | ((conv => whnf); first | refine sK ?_ | (refine sB ?_; repeat' (first | refine sb0 ?_ | (refine sb2 ?_ ?_ <;> intro hb <;> try exact cls))) | (refine ElemS.the hb0 ?_) | ((with_reducible refine isCall ?_); first | (refine call_pure (hrs) rfl rfl ?_)) | ((with_reducible refine isCallQ ?_); first | (refine callQ_pure (hrs) rfl rfl ?_)) | ((with_reducible refine isRet ?_); first | (refine ret_nil 5 ?_; refine ret_pick [] rfl rfl rfl ⟨?_, rfl⟩)) | refine sP ?_ | (refine sE ?_; intro x hx) | (refine sF ?_; intro i y hi hy) | (refine sI ?_; intro i hi) | (refine sL ?_; intro hlen) | (refine sQ ?_; intro c hc hcm; try simp only [lnM, lnA, lnC, lnN] at hc) | (refine sX ?_; intro i1 i2 hi1 hi2 hj1 hj2; try simp only [cutL, lnM, lnA, lnC, lnN, lnT, lnD, lnR] at hi1 hi2 hj2) | refine sD ?_ | (refine ret_pick [] rfl rfl rfl ⟨?_, rfl⟩; conv => lhs; whnf) | (refine ret_pick [0] rfl rfl rfl ⟨rfl, ?_⟩) | (refine sH ?_; clear hn he hr Q')))
        all_goals first | exact absurd hK (by assumption) | (rw [hst] at h; cases h; rfl) | (exfalso; simp at *; done)
      | some x =>
        rw [hR, show starD (some x) = .tup [.agg (encStar x), .bool true] from rfl] at hrs
        rw [hR] at hst
        simp only at hst
        by_cases hI : x.fId = b.fName
        · rw [if_pos hI] at hst
          repeat' (first | refine sC ?_ | ((with_reducible refine isAwp ?_); first | (refine sS ?_; intro Q' hn he hr) | refine sA ?_) | (refine sH ?_; clear hn he hr Q') | refine sO ?_ | ((conv => whnf); first | refine sK ?_ | (refine sB ?_; repeat' (first | refine sb0 ?_ | (refine sb2 ?_ ?_ <;> intro hb <;> try exact cls))) | (refine ElemS.the hb0 ?_) | ((with_reducible refine isCall ?_); first | (refine call_pure (hrs) rfl rfl ?_)) | ((with_reducible refine isCallQ ?_); first | (refine callQ_pure (hrs) rfl rfl ?_)) | ((with_reducible refine isRet ?_); first | (refine ret_nil 5 ?_; refine ret_pick [] rfl rfl rfl ⟨?_, rfl⟩)) | refine sP ?_ | (refine sE ?_; intro x hx) | (refine sF ?_; intro i y hi hy) | (refine sI ?_; intro i hi) | (refine sL ?_; intro hlen) | (refine sQ ?_; intro c hc hcm; try simp only [lnM, lnA, lnC, lnN] at hc) | (refine sX ?_; intro i1 i2 hi1 hi2 hj1 hj2; try simp only [cutL, lnM, lnA, lnC, lnN, lnT, lnD, lnR] at hi1 hi2 hj2) | refine sD ?_ | (refine ret_pick [] rfl rfl rfl ⟨?_, rfl⟩; conv => lhs; whnf) | (refine ret_pick [0] rfl rfl rfl ⟨rfl, ?_⟩) | (refine sH ?_; clear hn he hr Q')))
          all_goals first | exact absurd hK (by assumption) | exact absurd hI (by assumption) | (refine ⟨k + 1, out ++ [x], ⟨hst.symm, by omega, by simp; omega⟩, by omega, ?_⟩; exact (by refine weak_to rfl rfl (by rw [List.map_append]; rfl) ?_; ((repeat' (first | exact trivial | refine And.intro ?_ ?_)) <;> (first | rfl | (conv => rhs; whnf) <;> (first | rfl | (refine congrArg (D.int _) ?_; omega))))))
        · rw [if_neg hI] at hst
          repeat' (first | refine sC ?_ | ((with_reducible refine isAwp ?_); first | (refine sS ?_; intro Q' hn he hr) | refine sA ?_) | (refine sH ?_; clear hn he hr Q') | refine sO ?_ | ((conv => whnf); first | refine sK ?_ | (refine sB ?_; repeat' (first | refine sb0 ?_ | (refine sb2 ?_ ?_ <;> intro hb <;> try exact cls))) | (refine ElemS.the hb0 ?_) | ((with_reducible refine isCall ?_); first | (refine call_pure (hrs) rfl rfl ?_)) | ((with_reducible refine isCallQ ?_); first | (refine callQ_pure (hrs) rfl rfl ?_)) | ((with_reducible refine isRet ?_); first | (refine ret_nil 5 ?_; refine ret_pick [] rfl rfl rfl ⟨?_, rfl⟩)) | refine sP ?_ | (refine sE ?_; intro x hx) | (refine sF ?_; intro i y hi hy) | (refine sI ?_; intro i hi) | (refine sL ?_; intro hlen) | (refine sQ ?_; intro c hc hcm; try simp only [lnM, lnA, lnC, lnN] at hc) | (refine sX ?_; intro i1 i2 hi1 hi2 hj1 hj2; try simp only [cutL, lnM, lnA, lnC, lnN, lnT, lnD, lnR] at hi1 hi2 hj2) | refine sD ?_ | (refine ret_pick [] rfl rfl rfl ⟨?_, rfl⟩; conv => lhs; whnf) | (refine ret_pick [0] rfl rfl rfl ⟨rfl, ?_⟩) | (refine sH ?_; clear hn he hr Q')))
          all_goals first | exact absurd hK (by assumption) | exact absurd (by assumption) hI | (rw [hst] at h; cases h; rfl)
    · obtain rfl : k = a.length := by omega
      rw [starsR_end (Nat.le_refl _)] at hk1
      rw [← hk1] at h
      simp only at h
      by_cases h24 : out.length ≤ 24
      · rw [if_pos h24] at h
        cases h
      · rw [if_neg h24] at h
        repeat' (first | refine sC ?_ | ((with_reducible refine isAwp ?_); first | (refine sS ?_; intro Q' hn he hr) | refine sA ?_) | (refine sH ?_; clear hn he hr Q') | refine sO ?_ | ((conv => whnf); first | refine sK ?_ | (refine sB ?_; repeat' (first | refine sb0 ?_ | (refine sb2 ?_ ?_ <;> intro hb <;> try exact cls))) | ((with_reducible refine isRet ?_); first | (refine ret_nil 5 ?_; refine ret_pick [] rfl rfl rfl ⟨?_, rfl⟩)) | refine sP ?_ | (refine sE ?_; intro x hx) | (refine sF ?_; intro i y hi hy) | (refine sI ?_; intro i hi) | (refine sL ?_; intro hlen) | (refine sQ ?_; intro c hc hcm; try simp only [lnM, lnA, lnC, lnN] at hc) | (refine sX ?_; intro i1 i2 hi1 hi2 hj1 hj2; try simp only [cutL, lnM, lnA, lnC, lnN, lnT, lnD, lnR] at hi1 hi2 hj2) | refine sD ?_ | (refine ret_pick [] rfl rfl rfl ⟨?_, rfl⟩; conv => lhs; whnf) | (refine ret_pick [0] rfl rfl rfl ⟨rfl, ?_⟩) | (refine sH ?_; clear hn he hr Q')))
        all_goals first | (exfalso; omega) | (cases h; rfl)
theorem c_impl_StarsOfBlocks_ok (e1 e2 : Value) (hif : isIfc e1) (a : List TBlock) (o : List TStar) (h : starsAll a = .inr o) : FnC Tryz.prog 33 (GE e1 e2) 0 [] [.sl 3 (a.map encBlock)] (fun d os => d = .tup [.h 0, .int .i64 0] ∧ os = [.row 68 5 (o.map encStar)]) := by
  have hvc := c_impl_ValidBlocks a
  unfold starsAll at h
  cases hV : validBs a with
  | false =>
    rw [hV, if_pos rfl] at h
    cases h
  | true =>
    have hall32 := validBs_len' hV
    have htx : ∀ b ∈ a, b.fText.length ≤ 1048576 := fun b hb => validBs_text hV hb
    rw [hV] at hvc
    rw [hV, if_neg (by simp)] at h
    refine fn_rule Tryz.func33 rfl (by decide +kernel) rfl (fun w0 F0 lent β0 => ?_)
    repeat' (first | refine sC ?_ | ((with_reducible refine isAwp ?_); first | (refine sS ?_; intro Q' hn he hr) | refine sA ?_) | (refine sH ?_; clear hn he hr Q') | refine sO ?_ | ((conv => whnf); first | refine sK ?_ | (refine sB ?_; repeat' (first | refine sb0 ?_ | (refine sb2 ?_ ?_ <;> intro hb <;> try exact cls))) | ((with_reducible refine isCall ?_); first | (refine call_pure (FnC.anyG (hvc)) rfl rfl ?_)) | ((with_reducible refine isCallQ ?_); first | (refine callQ_pure (FnC.anyG (hvc)) rfl rfl ?_)) | refine sP ?_ | (refine sE ?_; intro x hx) | (refine sF ?_; intro i y hi hy) | (refine sI ?_; intro i hi) | (refine sL ?_; intro hlen) | (refine sQ ?_; intro c hc hcm; try simp only [lnM, lnA, lnC, lnN] at hc) | (refine sX ?_; intro i1 i2 hi1 hi2 hj1 hj2; try simp only [cutL, lnM, lnA, lnC, lnN, lnT, lnD, lnR] at hi1 hi2 hj2) | refine sD ?_ | (refine ret_pick [] rfl rfl rfl ⟨?_, rfl⟩; conv => lhs; whnf) | (refine ret_pick [0] rfl rfl rfl ⟨rfl, ?_⟩) | (refine sH ?_; clear hn he hr Q')))
    refine loop_env2 (fun (k : Nat) (out : List TStar) => [(12,.sl 3 (a.map encBlock)),(13,.int .i64 a.length),(14,.int .i64 k),(4,.h 0)]) (fun k out => [.row 68 5 (out.map encStar)]) (fun k out => starsR (a.drop k) out = starsR a [] ∧ k ≤ a.length ∧ out.length ≤ k) (fun k out => a.length - k) 0 [] ⟨rfl, by omega, by simp⟩ (by refine Weak.trans (weak_adopt 4 68 5 rfl rfl) (weak_to rfl rfl rfl ?_); exact ⟨rfl, rfl, rfl, rfl, trivial⟩) (fun k out hk Q' hn he hr => ?_)
    obtain ⟨hk1, hk2, hk3⟩ := hk
    by_cases hkl : k < a.length
    · obtain ⟨b, hb0⟩ : ∃ b, a[k]? = some b := ⟨_, List.getElem?_eq_getElem hkl⟩
      have hst := starsR_step hb0 out
      rw [hk1] at hst
      by_cases hK : b.fKind = starW
      case neg =>
        rw [if_neg hK] at hst
        repeat' (first | refine sC ?_ | ((with_reducible refine isAwp ?_); first | (refine sS ?_; intro Q' hn he hr) | refine sA ?_) | (refine sH ?_; clear hn he hr Q') | refine sO ?_ | ((conv => whnf); first | refine sK ?_ | (refine sB ?_; repeat' (first | refine sb0 ?_ | (refine sb2 ?_ ?_ <;> intro hb <;> try exact cls))) | (refine ElemS.the hb0 ?_) | refine sP ?_ | (refine sE ?_; intro x hx) | (refine sF ?_; intro i y hi hy) | (refine sI ?_; intro i hi) | (refine sL ?_; intro hlen) | (refine sQ ?_; intro c hc hcm; try simp only [lnM, lnA, lnC, lnN] at hc) | (refine sX ?_; intro i1 i2 hi1 hi2 hj1 hj2; try simp only [cutL, lnM, lnA, lnC, lnN, lnT, lnD, lnR] at hi1 hi2 hj2) | refine sD ?_ | (refine ret_pick [] rfl rfl rfl ⟨?_, rfl⟩; conv => lhs; whnf) | (refine ret_pick [0] rfl rfl rfl ⟨rfl, ?_⟩) | (refine sH ?_; clear hn he hr Q')))
        all_goals first | exact absurd (by assumption) hK | exact ⟨k + 1, out, ⟨hst.symm, by omega, by omega⟩, by omega, (by refine weak_to rfl rfl rfl ?_; ((repeat' (first | exact trivial | refine And.intro ?_ ?_)) <;> (first | rfl | (conv => rhs; whnf) <;> (first | rfl | (refine congrArg (D.int _) ?_; omega)))))⟩
      rw [if_pos hK] at hst
      have hrs := c_impl_ReadStar e1 e2 hif b.fText (htx b (List.mem_of_getElem? hb0))
      cases hR : readStar b.fText with
      | none =>
        rw [hR, show starD none = .tup [.agg (encStar noStar), .bool false] from rfl] at hrs
        rw [hR] at hst
        simp only at hst
        repeat' (first | refine sC ?_ | ((with_reducible refine isAwp ?_); first | (refine sS ?_; intro Q' hn he hr) | refine sA ?_) | (refine sH ?_; clear hn he hr Q') | refine sO ?_ | ((conv => whnf); first | refine sK ?_ | (refine sB ?_; repeat' (first | refine sb0 ?_ | (refine sb2 ?_ ?_ <;> intro hb <;> try exact cls))) | (refine ElemS.the hb0 ?_) | ((with_reducible refine isCall ?_); first | (refine call_pure (hrs) rfl rfl ?_)) | ((with_reducible refine isCallQ ?_); first | (refine callQ_pure (hrs) rfl rfl ?_)) | ((with_reducible refine isRet ?_); first | (refine ret_pick [0] rfl rfl rfl ⟨rfl, ?_⟩)) | refine sP ?_ | (refine sE ?_; intro x hx) | (refine sF ?_; intro i y hi hy) | (refine sI ?_; intro i hi) | (refine sL ?_; intro hlen) | (refine sQ ?_; intro c hc hcm; try simp only [lnM, lnA, lnC, lnN] at hc) | (refine sX ?_; intro i1 i2 hi1 hi2 hj1 hj2; try simp only [cutL, lnM, lnA, lnC, lnN, lnT, lnD, lnR] at hi1 hi2 hj2) | refine sD ?_ | (refine ret_pick [] rfl rfl rfl ⟨?_, rfl⟩; conv => lhs; whnf) | (refine ret_pick [0] rfl rfl rfl ⟨rfl, ?_⟩) | (refine sH ?_; clear hn he hr Q')))
        all_goals first | exact absurd hK (by assumption) | (rw [hst] at h; cases h) | (exfalso; simp at *; done)
      | some x =>
        rw [hR, show starD (some x) = .tup [.agg (encStar x), .bool true] from rfl] at hrs
        rw [hR] at hst
        simp only at hst
        by_cases hI : x.fId = b.fName
        · rw [if_pos hI] at hst
          repeat' (first | refine sC ?_ | ((with_reducible refine isAwp ?_); first | (refine sS ?_; intro Q' hn he hr) | refine sA ?_) | (refine sH ?_; clear hn he hr Q') | refine sO ?_ | ((conv => whnf); first | refine sK ?_ | (refine sB ?_; repeat' (first | refine sb0 ?_ | (refine sb2 ?_ ?_ <;> intro hb <;> try exact cls))) | (refine ElemS.the hb0 ?_) | ((with_reducible refine isCall ?_); first | (refine call_pure (hrs) rfl rfl ?_)) | ((with_reducible refine isCallQ ?_); first | (refine callQ_pure (hrs) rfl rfl ?_)) | ((with_reducible refine isRet ?_); first | (refine ret_pick [0] rfl rfl rfl ⟨rfl, ?_⟩)) | refine sP ?_ | (refine sE ?_; intro x hx) | (refine sF ?_; intro i y hi hy) | (refine sI ?_; intro i hi) | (refine sL ?_; intro hlen) | (refine sQ ?_; intro c hc hcm; try simp only [lnM, lnA, lnC, lnN] at hc) | (refine sX ?_; intro i1 i2 hi1 hi2 hj1 hj2; try simp only [cutL, lnM, lnA, lnC, lnN, lnT, lnD, lnR] at hi1 hi2 hj2) | refine sD ?_ | (refine ret_pick [] rfl rfl rfl ⟨?_, rfl⟩; conv => lhs; whnf) | (refine ret_pick [0] rfl rfl rfl ⟨rfl, ?_⟩) | (refine sH ?_; clear hn he hr Q')))
          all_goals first | exact absurd hK (by assumption) | exact absurd hI (by assumption) | (refine ⟨k + 1, out ++ [x], ⟨hst.symm, by omega, by simp; omega⟩, by omega, ?_⟩; exact (by refine weak_to rfl rfl (by rw [List.map_append]; rfl) ?_; ((repeat' (first | exact trivial | refine And.intro ?_ ?_)) <;> (first | rfl | (conv => rhs; whnf) <;> (first | rfl | (refine congrArg (D.int _) ?_; omega))))))
        · rw [if_neg hI] at hst
          repeat' (first | refine sC ?_ | ((with_reducible refine isAwp ?_); first | (refine sS ?_; intro Q' hn he hr) | refine sA ?_) | (refine sH ?_; clear hn he hr Q') | refine sO ?_ | ((conv => whnf); first | refine sK ?_ | (refine sB ?_; repeat' (first | refine sb0 ?_ | (refine sb2 ?_ ?_ <;> intro hb <;> try exact cls))) | (refine ElemS.the hb0 ?_) | ((with_reducible refine isCall ?_); first | (refine call_pure (hrs) rfl rfl ?_)) | ((with_reducible refine isCallQ ?_); first | (refine callQ_pure (hrs) rfl rfl ?_)) | ((with_reducible refine isRet ?_); first | (refine ret_pick [0] rfl rfl rfl ⟨rfl, ?_⟩)) | refine sP ?_ | (refine sE ?_; intro x hx) | (refine sF ?_; intro i y hi hy) | (refine sI ?_; intro i hi) | (refine sL ?_; intro hlen) | (refine sQ ?_; intro c hc hcm; try simp only [lnM, lnA, lnC, lnN] at hc) | (refine sX ?_; intro i1 i2 hi1 hi2 hj1 hj2; try simp only [cutL, lnM, lnA, lnC, lnN, lnT, lnD, lnR] at hi1 hi2 hj2) | refine sD ?_ | (refine ret_pick [] rfl rfl rfl ⟨?_, rfl⟩; conv => lhs; whnf) | (refine ret_pick [0] rfl rfl rfl ⟨rfl, ?_⟩) | (refine sH ?_; clear hn he hr Q')))
          all_goals first | exact absurd hK (by assumption) | exact absurd (by assumption) hI | (rw [hst] at h; cases h)
    · obtain rfl : k = a.length := by omega
      rw [starsR_end (Nat.le_refl _)] at hk1
      rw [← hk1] at h
      simp only at h
      by_cases h24 : out.length ≤ 24
      · rw [if_pos h24] at h
        repeat' (first | refine sC ?_ | ((with_reducible refine isAwp ?_); first | (refine sS ?_; intro Q' hn he hr) | refine sA ?_) | (refine sH ?_; clear hn he hr Q') | refine sO ?_ | ((conv => whnf); first | refine sK ?_ | (refine sB ?_; repeat' (first | refine sb0 ?_ | (refine sb2 ?_ ?_ <;> intro hb <;> try exact cls))) | ((with_reducible refine isRet ?_); first | (refine ret_pick [0] rfl rfl rfl ⟨rfl, ?_⟩)) | refine sP ?_ | (refine sE ?_; intro x hx) | (refine sF ?_; intro i y hi hy) | (refine sI ?_; intro i hi) | (refine sL ?_; intro hlen) | (refine sQ ?_; intro c hc hcm; try simp only [lnM, lnA, lnC, lnN] at hc) | (refine sX ?_; intro i1 i2 hi1 hi2 hj1 hj2; try simp only [cutL, lnM, lnA, lnC, lnN, lnT, lnD, lnR] at hi1 hi2 hj2) | refine sD ?_ | (refine ret_pick [] rfl rfl rfl ⟨?_, rfl⟩; conv => lhs; whnf) | (refine ret_pick [0] rfl rfl rfl ⟨rfl, ?_⟩) | (refine sH ?_; clear hn he hr Q')))
        all_goals first | (exfalso; omega) | (cases h; rfl)
      · rw [if_neg h24] at h
        cases h
end Go.Eng
