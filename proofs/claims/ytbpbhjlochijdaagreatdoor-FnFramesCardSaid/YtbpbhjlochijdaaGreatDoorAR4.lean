/-
  The blocks of an archive's bytes, by the program and by the reference.
  No conditions.
-/
import Derived.Test.YtbpbhjlochijdaaGreatDoorED
import Derived.Test.YtbpbhjlochijdaaGreatDoorAR2
import Derived.Test.YtbpbhjlochijdaaGreatDoorHD0
import Derived.Test.YtbpbhjlochijdaaGreatDoorRD
import Derived.Test.YtbpbhjlochijdaaGreatDoorVW
set_option linter.unusedVariables false
set_option linter.unusedSimpArgs false
set_option maxHeartbeats 4000000
namespace Go.Eng
open Go Go.RowKit Go.Proofs
set_option maxRecDepth 100000
/-- What the bytes with the lines L and the rest z give: where it fails and the code, or the blocks. -/
def loadOf (L : List (List UInt8)) (z : List UInt8) : (Int × Int) ⊕ List TBlock :=
  match L with
  | [] => .inl (0, 11)
  | l0 :: r => if z ≠ [] then .inl (0, 11) else if headP l0 = false then .inl (1, 9) else
    match loadR r 1 [] with
    | .inl (k, c) => .inl (k, c)
    | .inr a => if (a.length : Int) = (readN (digsA l0)).1 then .inr a else .inl (0, 11)
def loadAll (s : List UInt8) : (Int × Int) ⊕ List TBlock := loadOf (splitC 10 s).dropLast ((splitC 10 s).getLast?.getD [])
theorem loadAll_eq {s : List UInt8} {L : List (List UInt8)} {z : List UInt8} (h : splitC 10 s = L ++ [z]) : loadAll s = loadOf L z := by
  unfold loadAll
  rw [h, List.dropLast_concat, List.getLast?_concat]
  rfl
theorem loadR_len : ∀ (L : List (List UInt8)) (n : Nat) (a b : List TBlock), loadR L n a = .inr b → b.length = a.length + L.length
  | [], n, a, b, h => by rw [loadR] at h; cases h; simp
  | l :: r, n, a, b, h => by
    rw [loadR] at h
    split at h
    · split at h
      · have := loadR_len r _ _ _ h
        simp at this ⊢
        omega
      · cases h
    · cases h
theorem readN_small {s : List UInt8} (h : numOk s = true) : (readN s).1 = numV s := by unfold readN; rw [if_pos h]
theorem loadAll_len {s : List UInt8} {b : List TBlock} (h : loadAll s = .inr b) : b.length ≤ 32 := by
  obtain ⟨L, z, hP⟩ := split_last 10 s
  rw [loadAll_eq hP] at h
  unfold loadOf at h
  split at h
  · cases h
  · rename_i l0 r
    split at h
    · cases h
    · split at h
      · cases h
      · rename_i hh
        have h3 := (head_eq l0).2 (by simpa using hh)
        split at h
        · cases h
        · split at h
          · cases h
            omega
          · cases h
theorem parseB_code (l : List UInt8) : 0 ≤ (parseB l).2 ∧ (parseB l).2 ≤ 10 := by
  unfold parseB
  repeat' split
  all_goals (constructor <;> simp only <;> omega)
theorem nextOk_nil (b : TBlock) : nextOk [] b = true := rfl
theorem nextOk_at {a : List TBlock} {x b : TBlock} {j : Nat} (hj : j + 1 = a.length) (hx : a[j]? = some x) : nextOk a b = ltBlk x b := by
  unfold nextOk
  rw [List.getLast?_eq_getElem?, show a.length - 1 = j by omega, hx]
/-! ### The first line -/
/-! ### The reference -/
/-! ### The program -/
theorem preA_is (l : List UInt8) : preB l archL = preA l := by
  unfold preB preA
  rw [Bool.eq_iff_iff, beq_iff_eq, decide_eq_true_eq]
  rfl
theorem LenS.to {n : Nat} {K : Int → Prop} (m : Nat) (h : n = m) (hk : K m) : LenS n K := by
  subst h
  exact LenS.mk fun _ => hk
set_option maxHeartbeats 4000000 in
theorem c_impl_LoadBlocks_bad (e1 e2 : Value) (hif : isIfc e1) (s : List UInt8) (hl : s.length ≤ 1048576) (k c : Int) (h : loadAll s = .inl (k, c)) : FnC Tryz.prog 24 (GE e1 e2) 0 [] [.str s] (fun d os => d = .tup [.sl 3 [], .int .i64 k, .int .i64 c] ∧ os = []) := by
  obtain ⟨L, z, hP⟩ := split_last 10 s
  obtain ⟨hLl, hLp⟩ := split_sizes hP
  rw [loadAll_eq hP] at h
  cases L with
  | nil =>
    cases h
    refine fn_rule Tryz.func24 rfl (by decide +kernel) rfl (fun w0 F0 lent β0 => ?_)
    repeat' (first | refine sC ?_ | ((with_reducible refine isAwp ?_); first | (refine sS ?_; intro Q' hn he hr) | refine sA ?_) | (refine sH ?_; clear hn he hr Q') | refine sO ?_ | ((conv => whnf); first | refine sK ?_ | (refine sB ?_; repeat' (first | refine sb0 ?_ | (refine sb2 ?_ ?_ <;> intro hb <;> try exact cls))) | ((with_reducible refine isCall ?_); first | (refine call_pure (FnC.anyG (c_impl_linesOf s [] z hP hl)) rfl rfl ?_)) | ((with_reducible refine isCallQ ?_); first | (refine callQ_pure (FnC.anyG (c_impl_linesOf s [] z hP hl)) rfl rfl ?_)) | ((with_reducible refine isRet ?_); first | (refine ret_nil 3 ?_; refine ret_pick [] rfl rfl rfl ⟨?_, rfl⟩)) | refine sP ?_ | (refine sE ?_; intro x hx) | (refine sF ?_; intro i y hi hy) | (refine sI ?_; intro i hi) | (refine sL ?_; intro hlen) | (refine sQ ?_; intro c hc hcm; try simp only [lnM, lnA, lnC, lnN] at hc) | (refine sX ?_; intro i1 i2 hi1 hi2 hj1 hj2; try simp only [cutL, lnM, lnA, lnC, lnN, lnT, lnD, lnR] at hi1 hi2 hj2) | refine sD ?_ | (refine ret_pick [] rfl rfl rfl ⟨?_, rfl⟩; conv => lhs; whnf) | (refine ret_pick [0] rfl rfl rfl ⟨rfl, ?_⟩) | (refine sH ?_; clear hn he hr Q')))
    all_goals rfl
  | cons l0 r =>
    have hl0 : l0.length ≤ 1048576 := Nat.le_trans (hLp 0 l0 rfl) hl
    have hlen0 : (l0 :: r).length = r.length + 1 := rfl
    have h00 : (l0 :: r)[0]? = some l0 := rfl
    unfold loadOf at h
    simp only at h
    by_cases hz : z = []
    case neg =>
      rw [if_pos hz] at h
      cases h
      refine fn_rule Tryz.func24 rfl (by decide +kernel) rfl (fun w0 F0 lent β0 => ?_)
      repeat' (first | refine sC ?_ | ((with_reducible refine isAwp ?_); first | (refine sS ?_; intro Q' hn he hr) | refine sA ?_) | (refine sH ?_; clear hn he hr Q') | refine sO ?_ | ((conv => whnf); first | refine sK ?_ | (refine sB ?_; repeat' (first | refine sb0 ?_ | (refine sb2 ?_ ?_ <;> intro hb <;> try exact cls))) | ((with_reducible refine isCall ?_); first | (refine call_pure (FnC.anyG (c_impl_linesOf s (l0 :: r) z hP hl)) rfl rfl ?_)) | ((with_reducible refine isCallQ ?_); first | (refine callQ_pure (FnC.anyG (c_impl_linesOf s (l0 :: r) z hP hl)) rfl rfl ?_)) | ((with_reducible refine isRet ?_); first | (refine ret_nil 3 ?_; refine ret_pick [] rfl rfl rfl ⟨?_, rfl⟩)) | refine sP ?_ | (refine sE ?_; intro x hx) | (refine sF ?_; intro i y hi hy) | (refine sI ?_; intro i hi) | (refine sL ?_; intro hlen) | (refine sQ ?_; intro c hc hcm; try simp only [lnM, lnA, lnC, lnN] at hc) | (refine sX ?_; intro i1 i2 hi1 hi2 hj1 hj2; try simp only [cutL, lnM, lnA, lnC, lnN, lnT, lnD, lnR] at hi1 hi2 hj2) | refine sD ?_ | (refine ret_pick [] rfl rfl rfl ⟨?_, rfl⟩; conv => lhs; whnf) | (refine ret_pick [0] rfl rfl rfl ⟨rfl, ?_⟩) | (refine sH ?_; clear hn he hr Q')))
      all_goals first | rfl | exact absurd (by assumption) hz
    subst hz
    rw [if_neg (by simp)] at h
    obtain ⟨hh1, hh2⟩ := head_eq l0
    have hcp := c_strings_CutPrefix l0 archL
    rw [preA_is l0, show (if preA l0 = true then l0.drop archL.length else l0) = digsA l0 from rfl] at hcp
    have hdl : (digsA l0).length ≤ 1048576 := by
      unfold digsA
      split
      · rw [List.length_drop]; omega
      · exact hl0
    have hrd := c_impl_ReadDecimal e1 e2 hif (digsA l0) hdl
    have hP0 : headP l0 = (preA l0 && ((readN (digsA l0)).2 && inB (readN (digsA l0)).1 0 32)) := rfl
    cases hH : headP l0 with
    | false =>
      rw [hH, if_pos rfl] at h
      cases h
      rw [hH] at hP0
      refine fn_rule Tryz.func24 rfl (by decide +kernel) rfl (fun w0 F0 lent β0 => ?_)
      repeat' (first | refine sC ?_ | ((with_reducible refine isAwp ?_); first | (refine sS ?_; intro Q' hn he hr) | refine sA ?_) | (refine sH ?_; clear hn he hr Q') | refine sO ?_ | ((conv => whnf); first | refine sK ?_ | (refine sB ?_; repeat' (first | refine sb0 ?_ | (refine sb2 ?_ ?_ <;> intro hb <;> try exact cls))) | (refine ElemS.the (k := 0) h00 ?_) | ((with_reducible refine isCall ?_); first | (refine call_pure (FnC.anyG (c_impl_linesOf s (l0 :: r) [] hP hl)) rfl rfl ?_) | (refine call_pure (FnC.anyG (hcp)) rfl rfl ?_) | (refine call_pure (hrd) rfl rfl ?_) | (refine call_pure (FnC.anyG (c_within _ _ _)) rfl rfl ?_)) | ((with_reducible refine isCallQ ?_); first | (refine callQ_pure (FnC.anyG (c_impl_linesOf s (l0 :: r) [] hP hl)) rfl rfl ?_) | (refine callQ_pure (FnC.anyG (hcp)) rfl rfl ?_) | (refine callQ_pure (hrd) rfl rfl ?_) | (refine callQ_pure (FnC.anyG (c_within _ _ _)) rfl rfl ?_)) | ((with_reducible refine isRet ?_); first | (refine ret_nil 3 ?_; refine ret_pick [] rfl rfl rfl ⟨?_, rfl⟩)) | refine sP ?_ | (refine sE ?_; intro x hx) | (refine sF ?_; intro i y hi hy) | (refine sI ?_; intro i hi) | (refine sL ?_; intro hlen) | (refine sQ ?_; intro c hc hcm; try simp only [lnM, lnA, lnC, lnN] at hc) | (refine sX ?_; intro i1 i2 hi1 hi2 hj1 hj2; try simp only [cutL, lnM, lnA, lnC, lnN, lnT, lnD, lnR] at hi1 hi2 hj2) | refine sD ?_ | (refine ret_pick [] rfl rfl rfl ⟨?_, rfl⟩; conv => lhs; whnf) | (refine ret_pick [0] rfl rfl rfl ⟨rfl, ?_⟩) | (refine sH ?_; clear hn he hr Q')))
      all_goals first | rfl | exact absurd rfl (by assumption) | skip
      all_goals
        have q1 : preA l0 = true := by assumption
        have q2 : (readN (digsA l0)).2 = true := by assumption
        have q3 : inB (readN (digsA l0)).1 0 32 = true := by assumption
        rw [q1, q2, q3] at hP0
        cases hP0
    | true =>
      rw [hH] at h
      rw [if_neg (by simp)] at h
      obtain ⟨hn1, hn2, hn3⟩ := hh2 hH
      rw [hH] at hP0
      have hp1 : preA l0 = true := by cases hq : preA l0 with | true => rfl | false => rw [hq] at hP0; cases hP0
      have hp2 : (readN (digsA l0)).2 = true := by cases hq : (readN (digsA l0)).2 with | true => rfl | false => rw [hq, hp1] at hP0; cases hP0
      have hp3 : inB (readN (digsA l0)).1 0 32 = true := by rw [hp1, hp2] at hP0; exact hP0.symm
      rw [hp1] at hcp
      rw [hp2] at hrd
      have hv : inB (readN (digsA l0)).1 0 32 = true := hp3
      refine fn_rule Tryz.func24 rfl (by decide +kernel) rfl (fun w0 F0 lent β0 => ?_)
      repeat' (first | refine sC ?_ | ((with_reducible refine isAwp ?_); first | (refine sS ?_; intro Q' hn he hr) | refine sA ?_) | (refine sH ?_; clear hn he hr Q') | refine sO ?_ | ((conv => whnf); first | refine sK ?_ | (refine sB ?_; repeat' (first | refine sb0 ?_ | (refine sb2 ?_ ?_ <;> intro hb <;> try exact cls))) | (refine ElemS.the (k := 0) h00 ?_) | (refine CutS.lo 1 rfl (by simp only [List.length_map]; omega) ?_) | (refine LenS.to r.length (show (List.drop 1 ((l0 :: r).map encS)).length = r.length by simp) ?_) | ((with_reducible refine isCall ?_); first | (refine call_pure (FnC.anyG (c_impl_linesOf s (l0 :: r) [] hP hl)) rfl rfl ?_) | (refine call_pure (FnC.anyG (hcp)) rfl rfl ?_) | (refine call_pure (hrd) rfl rfl ?_) | (refine call_pure (FnC.anyG (c_within _ _ _)) rfl rfl ?_)) | ((with_reducible refine isCallQ ?_); first | (refine callQ_pure (FnC.anyG (c_impl_linesOf s (l0 :: r) [] hP hl)) rfl rfl ?_) | (refine callQ_pure (FnC.anyG (hcp)) rfl rfl ?_) | (refine callQ_pure (hrd) rfl rfl ?_) | (refine callQ_pure (FnC.anyG (c_within _ _ _)) rfl rfl ?_)) | refine sP ?_ | (refine sE ?_; intro x hx) | (refine sF ?_; intro i y hi hy) | (refine sI ?_; intro i hi) | (refine sL ?_; intro hlen) | (refine sQ ?_; intro c hc hcm; try simp only [lnM, lnA, lnC, lnN] at hc) | (refine sX ?_; intro i1 i2 hi1 hi2 hj1 hj2; try simp only [cutL, lnM, lnA, lnC, lnN, lnT, lnD, lnR] at hi1 hi2 hj2) | refine sD ?_ | (refine ret_pick [] rfl rfl rfl ⟨?_, rfl⟩; conv => lhs; whnf) | (refine ret_pick [0] rfl rfl rfl ⟨rfl, ?_⟩) | (refine sH ?_; clear hn he hr Q')))
      refine loop_env2 (fun (i : Nat) (out : List TBlock) => [(9,.int .i64 (readN (digsA l0)).1),(11,.h 0),(52,.sl 1 (r.map encS)),(53,.int .i64 r.length),(54,.int .i64 i)]) (fun i out => [.row 105 3 (out.map encBlock)]) (fun i out => loadR (r.drop i) (i + 1) out = loadR r 1 [] ∧ i ≤ r.length ∧ out.length = i) (fun i out => r.length - i) 0 [] ⟨rfl, by omega, rfl⟩ (by refine Weak.trans (weak_adopt 11 105 3 rfl rfl) (weak_to rfl rfl rfl ?_); exact ⟨rfl, rfl, rfl, rfl, rfl, trivial⟩) (fun i out hk Q' hn he hr => ?_)
      obtain ⟨hk1, hk3, hk4⟩ := hk
      by_cases hil : i < r.length
      · obtain ⟨p, hp⟩ : ∃ p, r[i]? = some p := ⟨_, List.getElem?_eq_getElem hil⟩
        have hpc := FnC.atE (c_impl_blockOf p (Nat.le_trans (hLp (i + 1) p hp) hl)) e1 e2
        have hcd := parseB_code p
        have hst := loadR_step hp (i + 1) out
        rw [hk1] at hst
        by_cases hout : out = []
        · have hnx : nextOk out (parseB p).1 = true := by rw [hout]; rfl
          have hout0 : out.length = 0 := by rw [hout]; rfl
          repeat' (first | refine sC ?_ | ((with_reducible refine isAwp ?_); first | (refine sS ?_; intro Q' hn he hr) | refine sA ?_) | (refine sH ?_; clear hn he hr Q') | refine sO ?_ | ((conv => whnf); first | refine sK ?_ | (refine sB ?_; repeat' (first | refine sb0 ?_ | (refine sb2 ?_ ?_ <;> intro hb <;> try exact cls))) | (refine ElemS.the hp ?_) | ((with_reducible refine isCall ?_); first | (refine call_pure (hpc) rfl rfl ?_)) | ((with_reducible refine isCallQ ?_); first | (refine callQ_pure (hpc) rfl rfl ?_)) | ((with_reducible refine isRet ?_); first | (refine ret_nil 3 ?_; refine ret_pick [] rfl rfl rfl ⟨?_, rfl⟩)) | refine sP ?_ | (refine sE ?_; intro x hx) | (refine sF ?_; intro i y hi hy) | (refine sI ?_; intro i hi) | (refine sL ?_; intro hlen) | (refine sQ ?_; intro c hc hcm; try simp only [lnM, lnA, lnC, lnN] at hc) | (refine sX ?_; intro i1 i2 hi1 hi2 hj1 hj2; try simp only [cutL, lnM, lnA, lnC, lnN, lnT, lnD, lnR] at hi1 hi2 hj2) | refine sD ?_ | (refine ret_pick [] rfl rfl rfl ⟨?_, rfl⟩; conv => lhs; whnf) | (refine ret_pick [0] rfl rfl rfl ⟨rfl, ?_⟩) | (refine sH ?_; clear hn he hr Q')))
          all_goals first | (rw [if_neg (by assumption)] at hst; rw [hst] at h; cases h; rfl) | (rw [if_pos (by assumption), hnx, if_pos rfl] at hst; refine ⟨i + 1, out ++ [(parseB p).1], ⟨hst.symm, by omega, by simp; omega⟩, by omega, ?_⟩; exact (by refine weak_to rfl rfl (by rw [List.map_append]; rfl) ?_; ((repeat' (first | exact trivial | refine And.intro ?_ ?_)) <;> (first | rfl | (conv => rhs; whnf) <;> (first | rfl | (refine congrArg (D.int _) ?_; omega)))))) | (exfalso; omega)
        · obtain ⟨j, x, hj, hx⟩ := last_at hout
          have hnx0 := nextOk_at (b := (parseB p).1) hj hx
          cases hlt : ltBlk x (parseB p).1 with
          | false =>
            rw [hlt] at hnx0
            have hnx : ¬ nextOk out (parseB p).1 = true := by rw [hnx0]; simp
            have hcm := cmpBlk_ge.2 hlt
            repeat' (first | refine sC ?_ | ((with_reducible refine isAwp ?_); first | (refine sS ?_; intro Q' hn he hr) | refine sA ?_) | (refine sH ?_; clear hn he hr Q') | refine sO ?_ | ((conv => whnf); first | refine sK ?_ | (refine sB ?_; repeat' (first | refine sb0 ?_ | (refine sb2 ?_ ?_ <;> intro hb <;> try exact cls))) | (refine ElemS.the hp ?_) | (refine InS.at (by simp only [List.length_map]; omega) fun j2 hj2 => ?_) | (refine ElemS.the (show out[j2]? = some x by rw [show j2 = j by omega]; exact hx) ?_) | ((with_reducible refine isCall ?_); first | (refine call_pure (hpc) rfl rfl ?_) | (refine call_pure (FnC.anyG (c_impl_compareBlocks x (parseB p).1)) rfl rfl ?_)) | ((with_reducible refine isCallQ ?_); first | (refine callQ_pure (hpc) rfl rfl ?_) | (refine callQ_pure (FnC.anyG (c_impl_compareBlocks x (parseB p).1)) rfl rfl ?_)) | ((with_reducible refine isRet ?_); first | (refine ret_nil 3 ?_; refine ret_pick [] rfl rfl rfl ⟨?_, rfl⟩)) | refine sP ?_ | (refine sE ?_; intro x hx) | (refine sF ?_; intro i y hi hy) | (refine sI ?_; intro i hi) | (refine sL ?_; intro hlen) | (refine sQ ?_; intro c hc hcm; try simp only [lnM, lnA, lnC, lnN] at hc) | (refine sX ?_; intro i1 i2 hi1 hi2 hj1 hj2; try simp only [cutL, lnM, lnA, lnC, lnN, lnT, lnD, lnR] at hi1 hi2 hj2) | refine sD ?_ | (refine ret_pick [] rfl rfl rfl ⟨?_, rfl⟩; conv => lhs; whnf) | (refine ret_pick [0] rfl rfl rfl ⟨rfl, ?_⟩) | (refine sH ?_; clear hn he hr Q')))
            all_goals first | (rw [if_neg (by assumption)] at hst; rw [hst] at h; cases h; rfl) | (rw [if_pos (by assumption), if_neg hnx] at hst; rw [hst] at h; cases h; rfl) | (exfalso; omega)
          | true =>
            rw [hlt] at hnx0
            have hnx := hnx0
            have hcm := cmpBlk_lt.2 hlt
            repeat' (first | refine sC ?_ | ((with_reducible refine isAwp ?_); first | (refine sS ?_; intro Q' hn he hr) | refine sA ?_) | (refine sH ?_; clear hn he hr Q') | refine sO ?_ | ((conv => whnf); first | refine sK ?_ | (refine sB ?_; repeat' (first | refine sb0 ?_ | (refine sb2 ?_ ?_ <;> intro hb <;> try exact cls))) | (refine ElemS.the hp ?_) | (refine InS.at (by simp only [List.length_map]; omega) fun j2 hj2 => ?_) | (refine ElemS.the (show out[j2]? = some x by rw [show j2 = j by omega]; exact hx) ?_) | ((with_reducible refine isCall ?_); first | (refine call_pure (hpc) rfl rfl ?_) | (refine call_pure (FnC.anyG (c_impl_compareBlocks x (parseB p).1)) rfl rfl ?_)) | ((with_reducible refine isCallQ ?_); first | (refine callQ_pure (hpc) rfl rfl ?_) | (refine callQ_pure (FnC.anyG (c_impl_compareBlocks x (parseB p).1)) rfl rfl ?_)) | ((with_reducible refine isRet ?_); first | (refine ret_nil 3 ?_; refine ret_pick [] rfl rfl rfl ⟨?_, rfl⟩)) | refine sP ?_ | (refine sE ?_; intro x hx) | (refine sF ?_; intro i y hi hy) | (refine sI ?_; intro i hi) | (refine sL ?_; intro hlen) | (refine sQ ?_; intro c hc hcm; try simp only [lnM, lnA, lnC, lnN] at hc) | (refine sX ?_; intro i1 i2 hi1 hi2 hj1 hj2; try simp only [cutL, lnM, lnA, lnC, lnN, lnT, lnD, lnR] at hi1 hi2 hj2) | refine sD ?_ | (refine ret_pick [] rfl rfl rfl ⟨?_, rfl⟩; conv => lhs; whnf) | (refine ret_pick [0] rfl rfl rfl ⟨rfl, ?_⟩) | (refine sH ?_; clear hn he hr Q')))
            all_goals first | (rw [if_neg (by assumption)] at hst; rw [hst] at h; cases h; rfl) | (rw [if_pos (by assumption), hnx, if_pos rfl] at hst; refine ⟨i + 1, out ++ [(parseB p).1], ⟨hst.symm, by omega, by simp; omega⟩, by omega, ?_⟩; exact (by refine weak_to rfl rfl (by rw [List.map_append]; rfl) ?_; ((repeat' (first | exact trivial | refine And.intro ?_ ?_)) <;> (first | rfl | (conv => rhs; whnf) <;> (first | rfl | (refine congrArg (D.int _) ?_; omega)))))) | (exfalso; omega)
      · obtain rfl : i = r.length := by omega
        rw [loadR_end (Nat.le_refl _)] at hk1
        rw [← hk1] at h
        simp only at h
        by_cases hnn : (out.length : Int) = (readN (digsA l0)).1
        · rw [if_pos hnn] at h
          cases h
        · rw [if_neg hnn] at h
          repeat' (first | refine sC ?_ | ((with_reducible refine isAwp ?_); first | (refine sS ?_; intro Q' hn he hr) | refine sA ?_) | (refine sH ?_; clear hn he hr Q') | refine sO ?_ | ((conv => whnf); first | refine sK ?_ | (refine sB ?_; repeat' (first | refine sb0 ?_ | (refine sb2 ?_ ?_ <;> intro hb <;> try exact cls))) | ((with_reducible refine isRet ?_); first | (refine ret_nil 3 ?_; refine ret_pick [] rfl rfl rfl ⟨?_, rfl⟩)) | refine sP ?_ | (refine sE ?_; intro x hx) | (refine sF ?_; intro i y hi hy) | (refine sI ?_; intro i hi) | (refine sL ?_; intro hlen) | (refine sQ ?_; intro c hc hcm; try simp only [lnM, lnA, lnC, lnN] at hc) | (refine sX ?_; intro i1 i2 hi1 hi2 hj1 hj2; try simp only [cutL, lnM, lnA, lnC, lnN, lnT, lnD, lnR] at hi1 hi2 hj2) | refine sD ?_ | (refine ret_pick [] rfl rfl rfl ⟨?_, rfl⟩; conv => lhs; whnf) | (refine ret_pick [0] rfl rfl rfl ⟨rfl, ?_⟩) | (refine sH ?_; clear hn he hr Q')))
          all_goals first | exact absurd (by assumption) hnn | (cases h; rfl)
set_option maxHeartbeats 4000000 in
theorem c_impl_LoadBlocks_ok (e1 e2 : Value) (hif : isIfc e1) (s : List UInt8) (hl : s.length ≤ 1048576) (a : List TBlock) (h : loadAll s = .inr a) : FnC Tryz.prog 24 (GE e1 e2) 0 [] [.str s] (fun d os => d = .tup [.h 0, .int .i64 0, .int .i64 0] ∧ os = [.row 105 3 (a.map encBlock)]) := by
  obtain ⟨L, z, hP⟩ := split_last 10 s
  obtain ⟨hLl, hLp⟩ := split_sizes hP
  rw [loadAll_eq hP] at h
  cases L with
  | nil =>
    cases h
  | cons l0 r =>
    have hl0 : l0.length ≤ 1048576 := Nat.le_trans (hLp 0 l0 rfl) hl
    have hlen0 : (l0 :: r).length = r.length + 1 := rfl
    have h00 : (l0 :: r)[0]? = some l0 := rfl
    unfold loadOf at h
    simp only at h
    by_cases hz : z = []
    case neg =>
      rw [if_pos hz] at h
      cases h
    subst hz
    rw [if_neg (by simp)] at h
    obtain ⟨hh1, hh2⟩ := head_eq l0
    have hcp := c_strings_CutPrefix l0 archL
    rw [preA_is l0, show (if preA l0 = true then l0.drop archL.length else l0) = digsA l0 from rfl] at hcp
    have hdl : (digsA l0).length ≤ 1048576 := by
      unfold digsA
      split
      · rw [List.length_drop]; omega
      · exact hl0
    have hrd := c_impl_ReadDecimal e1 e2 hif (digsA l0) hdl
    have hP0 : headP l0 = (preA l0 && ((readN (digsA l0)).2 && inB (readN (digsA l0)).1 0 32)) := rfl
    cases hH : headP l0 with
    | false =>
      rw [hH, if_pos rfl] at h
      cases h
    | true =>
      rw [hH] at h
      rw [if_neg (by simp)] at h
      obtain ⟨hn1, hn2, hn3⟩ := hh2 hH
      rw [hH] at hP0
      have hp1 : preA l0 = true := by cases hq : preA l0 with | true => rfl | false => rw [hq] at hP0; cases hP0
      have hp2 : (readN (digsA l0)).2 = true := by cases hq : (readN (digsA l0)).2 with | true => rfl | false => rw [hq, hp1] at hP0; cases hP0
      have hp3 : inB (readN (digsA l0)).1 0 32 = true := by rw [hp1, hp2] at hP0; exact hP0.symm
      rw [hp1] at hcp
      rw [hp2] at hrd
      have hv : inB (readN (digsA l0)).1 0 32 = true := hp3
      refine fn_rule Tryz.func24 rfl (by decide +kernel) rfl (fun w0 F0 lent β0 => ?_)
      repeat' (first | refine sC ?_ | ((with_reducible refine isAwp ?_); first | (refine sS ?_; intro Q' hn he hr) | refine sA ?_) | (refine sH ?_; clear hn he hr Q') | refine sO ?_ | ((conv => whnf); first | refine sK ?_ | (refine sB ?_; repeat' (first | refine sb0 ?_ | (refine sb2 ?_ ?_ <;> intro hb <;> try exact cls))) | (refine ElemS.the (k := 0) h00 ?_) | (refine CutS.lo 1 rfl (by simp only [List.length_map]; omega) ?_) | (refine LenS.to r.length (show (List.drop 1 ((l0 :: r).map encS)).length = r.length by simp) ?_) | ((with_reducible refine isCall ?_); first | (refine call_pure (FnC.anyG (c_impl_linesOf s (l0 :: r) [] hP hl)) rfl rfl ?_) | (refine call_pure (FnC.anyG (hcp)) rfl rfl ?_) | (refine call_pure (hrd) rfl rfl ?_) | (refine call_pure (FnC.anyG (c_within _ _ _)) rfl rfl ?_)) | ((with_reducible refine isCallQ ?_); first | (refine callQ_pure (FnC.anyG (c_impl_linesOf s (l0 :: r) [] hP hl)) rfl rfl ?_) | (refine callQ_pure (FnC.anyG (hcp)) rfl rfl ?_) | (refine callQ_pure (hrd) rfl rfl ?_) | (refine callQ_pure (FnC.anyG (c_within _ _ _)) rfl rfl ?_)) | refine sP ?_ | (refine sE ?_; intro x hx) | (refine sF ?_; intro i y hi hy) | (refine sI ?_; intro i hi) | (refine sL ?_; intro hlen) | (refine sQ ?_; intro c hc hcm; try simp only [lnM, lnA, lnC, lnN] at hc) | (refine sX ?_; intro i1 i2 hi1 hi2 hj1 hj2; try simp only [cutL, lnM, lnA, lnC, lnN, lnT, lnD, lnR] at hi1 hi2 hj2) | refine sD ?_ | (refine ret_pick [] rfl rfl rfl ⟨?_, rfl⟩; conv => lhs; whnf) | (refine ret_pick [0] rfl rfl rfl ⟨rfl, ?_⟩) | (refine sH ?_; clear hn he hr Q')))
      refine loop_env2 (fun (i : Nat) (out : List TBlock) => [(9,.int .i64 (readN (digsA l0)).1),(11,.h 0),(52,.sl 1 (r.map encS)),(53,.int .i64 r.length),(54,.int .i64 i)]) (fun i out => [.row 105 3 (out.map encBlock)]) (fun i out => loadR (r.drop i) (i + 1) out = loadR r 1 [] ∧ i ≤ r.length ∧ out.length = i) (fun i out => r.length - i) 0 [] ⟨rfl, by omega, rfl⟩ (by refine Weak.trans (weak_adopt 11 105 3 rfl rfl) (weak_to rfl rfl rfl ?_); exact ⟨rfl, rfl, rfl, rfl, rfl, trivial⟩) (fun i out hk Q' hn he hr => ?_)
      obtain ⟨hk1, hk3, hk4⟩ := hk
      by_cases hil : i < r.length
      · obtain ⟨p, hp⟩ : ∃ p, r[i]? = some p := ⟨_, List.getElem?_eq_getElem hil⟩
        have hpc := FnC.atE (c_impl_blockOf p (Nat.le_trans (hLp (i + 1) p hp) hl)) e1 e2
        have hcd := parseB_code p
        have hst := loadR_step hp (i + 1) out
        rw [hk1] at hst
        by_cases hout : out = []
        · have hnx : nextOk out (parseB p).1 = true := by rw [hout]; rfl
          have hout0 : out.length = 0 := by rw [hout]; rfl
          repeat' (first | refine sC ?_ | ((with_reducible refine isAwp ?_); first | (refine sS ?_; intro Q' hn he hr) | refine sA ?_) | (refine sH ?_; clear hn he hr Q') | refine sO ?_ | ((conv => whnf); first | refine sK ?_ | (refine sB ?_; repeat' (first | refine sb0 ?_ | (refine sb2 ?_ ?_ <;> intro hb <;> try exact cls))) | (refine ElemS.the hp ?_) | ((with_reducible refine isCall ?_); first | (refine call_pure (hpc) rfl rfl ?_)) | ((with_reducible refine isCallQ ?_); first | (refine callQ_pure (hpc) rfl rfl ?_)) | ((with_reducible refine isRet ?_); first | (refine ret_pick [0] rfl rfl rfl ⟨rfl, ?_⟩)) | refine sP ?_ | (refine sE ?_; intro x hx) | (refine sF ?_; intro i y hi hy) | (refine sI ?_; intro i hi) | (refine sL ?_; intro hlen) | (refine sQ ?_; intro c hc hcm; try simp only [lnM, lnA, lnC, lnN] at hc) | (refine sX ?_; intro i1 i2 hi1 hi2 hj1 hj2; try simp only [cutL, lnM, lnA, lnC, lnN, lnT, lnD, lnR] at hi1 hi2 hj2) | refine sD ?_ | (refine ret_pick [] rfl rfl rfl ⟨?_, rfl⟩; conv => lhs; whnf) | (refine ret_pick [0] rfl rfl rfl ⟨rfl, ?_⟩) | (refine sH ?_; clear hn he hr Q')))
          all_goals first | (rw [if_neg (by assumption)] at hst; rw [hst] at h; cases h) | (rw [if_pos (by assumption), hnx, if_pos rfl] at hst; refine ⟨i + 1, out ++ [(parseB p).1], ⟨hst.symm, by omega, by simp; omega⟩, by omega, ?_⟩; exact (by refine weak_to rfl rfl (by rw [List.map_append]; rfl) ?_; ((repeat' (first | exact trivial | refine And.intro ?_ ?_)) <;> (first | rfl | (conv => rhs; whnf) <;> (first | rfl | (refine congrArg (D.int _) ?_; omega)))))) | (exfalso; omega)
        · obtain ⟨j, x, hj, hx⟩ := last_at hout
          have hnx0 := nextOk_at (b := (parseB p).1) hj hx
          cases hlt : ltBlk x (parseB p).1 with
          | false =>
            rw [hlt] at hnx0
            have hnx : ¬ nextOk out (parseB p).1 = true := by rw [hnx0]; simp
            have hcm := cmpBlk_ge.2 hlt
            repeat' (first | refine sC ?_ | ((with_reducible refine isAwp ?_); first | (refine sS ?_; intro Q' hn he hr) | refine sA ?_) | (refine sH ?_; clear hn he hr Q') | refine sO ?_ | ((conv => whnf); first | refine sK ?_ | (refine sB ?_; repeat' (first | refine sb0 ?_ | (refine sb2 ?_ ?_ <;> intro hb <;> try exact cls))) | (refine ElemS.the hp ?_) | (refine InS.at (by simp only [List.length_map]; omega) fun j2 hj2 => ?_) | (refine ElemS.the (show out[j2]? = some x by rw [show j2 = j by omega]; exact hx) ?_) | ((with_reducible refine isCall ?_); first | (refine call_pure (hpc) rfl rfl ?_) | (refine call_pure (FnC.anyG (c_impl_compareBlocks x (parseB p).1)) rfl rfl ?_)) | ((with_reducible refine isCallQ ?_); first | (refine callQ_pure (hpc) rfl rfl ?_) | (refine callQ_pure (FnC.anyG (c_impl_compareBlocks x (parseB p).1)) rfl rfl ?_)) | ((with_reducible refine isRet ?_); first | (refine ret_pick [0] rfl rfl rfl ⟨rfl, ?_⟩)) | refine sP ?_ | (refine sE ?_; intro x hx) | (refine sF ?_; intro i y hi hy) | (refine sI ?_; intro i hi) | (refine sL ?_; intro hlen) | (refine sQ ?_; intro c hc hcm; try simp only [lnM, lnA, lnC, lnN] at hc) | (refine sX ?_; intro i1 i2 hi1 hi2 hj1 hj2; try simp only [cutL, lnM, lnA, lnC, lnN, lnT, lnD, lnR] at hi1 hi2 hj2) | refine sD ?_ | (refine ret_pick [] rfl rfl rfl ⟨?_, rfl⟩; conv => lhs; whnf) | (refine ret_pick [0] rfl rfl rfl ⟨rfl, ?_⟩) | (refine sH ?_; clear hn he hr Q')))
            all_goals first | (rw [if_neg (by assumption)] at hst; rw [hst] at h; cases h) | (rw [if_pos (by assumption), if_neg hnx] at hst; rw [hst] at h; cases h) | (exfalso; omega)
          | true =>
            rw [hlt] at hnx0
            have hnx := hnx0
            have hcm := cmpBlk_lt.2 hlt
            repeat' (first | refine sC ?_ | ((with_reducible refine isAwp ?_); first | (refine sS ?_; intro Q' hn he hr) | refine sA ?_) | (refine sH ?_; clear hn he hr Q') | refine sO ?_ | ((conv => whnf); first | refine sK ?_ | (refine sB ?_; repeat' (first | refine sb0 ?_ | (refine sb2 ?_ ?_ <;> intro hb <;> try exact cls))) | (refine ElemS.the hp ?_) | (refine InS.at (by simp only [List.length_map]; omega) fun j2 hj2 => ?_) | (refine ElemS.the (show out[j2]? = some x by rw [show j2 = j by omega]; exact hx) ?_) | ((with_reducible refine isCall ?_); first | (refine call_pure (hpc) rfl rfl ?_) | (refine call_pure (FnC.anyG (c_impl_compareBlocks x (parseB p).1)) rfl rfl ?_)) | ((with_reducible refine isCallQ ?_); first | (refine callQ_pure (hpc) rfl rfl ?_) | (refine callQ_pure (FnC.anyG (c_impl_compareBlocks x (parseB p).1)) rfl rfl ?_)) | ((with_reducible refine isRet ?_); first | (refine ret_pick [0] rfl rfl rfl ⟨rfl, ?_⟩)) | refine sP ?_ | (refine sE ?_; intro x hx) | (refine sF ?_; intro i y hi hy) | (refine sI ?_; intro i hi) | (refine sL ?_; intro hlen) | (refine sQ ?_; intro c hc hcm; try simp only [lnM, lnA, lnC, lnN] at hc) | (refine sX ?_; intro i1 i2 hi1 hi2 hj1 hj2; try simp only [cutL, lnM, lnA, lnC, lnN, lnT, lnD, lnR] at hi1 hi2 hj2) | refine sD ?_ | (refine ret_pick [] rfl rfl rfl ⟨?_, rfl⟩; conv => lhs; whnf) | (refine ret_pick [0] rfl rfl rfl ⟨rfl, ?_⟩) | (refine sH ?_; clear hn he hr Q')))
            all_goals first | (rw [if_neg (by assumption)] at hst; rw [hst] at h; cases h) | (rw [if_pos (by assumption), hnx, if_pos rfl] at hst; refine ⟨i + 1, out ++ [(parseB p).1], ⟨hst.symm, by omega, by simp; omega⟩, by omega, ?_⟩; exact (by refine weak_to rfl rfl (by rw [List.map_append]; rfl) ?_; ((repeat' (first | exact trivial | refine And.intro ?_ ?_)) <;> (first | rfl | (conv => rhs; whnf) <;> (first | rfl | (refine congrArg (D.int _) ?_; omega)))))) | (exfalso; omega)
      · obtain rfl : i = r.length := by omega
        rw [loadR_end (Nat.le_refl _)] at hk1
        rw [← hk1] at h
        simp only at h
        by_cases hnn : (out.length : Int) = (readN (digsA l0)).1
        · rw [if_pos hnn] at h
          repeat' (first | refine sC ?_ | ((with_reducible refine isAwp ?_); first | (refine sS ?_; intro Q' hn he hr) | refine sA ?_) | (refine sH ?_; clear hn he hr Q') | refine sO ?_ | ((conv => whnf); first | refine sK ?_ | (refine sB ?_; repeat' (first | refine sb0 ?_ | (refine sb2 ?_ ?_ <;> intro hb <;> try exact cls))) | ((with_reducible refine isRet ?_); first | (refine ret_pick [0] rfl rfl rfl ⟨rfl, ?_⟩)) | refine sP ?_ | (refine sE ?_; intro x hx) | (refine sF ?_; intro i y hi hy) | (refine sI ?_; intro i hi) | (refine sL ?_; intro hlen) | (refine sQ ?_; intro c hc hcm; try simp only [lnM, lnA, lnC, lnN] at hc) | (refine sX ?_; intro i1 i2 hi1 hi2 hj1 hj2; try simp only [cutL, lnM, lnA, lnC, lnN, lnT, lnD, lnR] at hi1 hi2 hj2) | refine sD ?_ | (refine ret_pick [] rfl rfl rfl ⟨?_, rfl⟩; conv => lhs; whnf) | (refine ret_pick [0] rfl rfl rfl ⟨rfl, ?_⟩) | (refine sH ?_; clear hn he hr Q')))
          all_goals first | exact absurd hnn (by assumption) | (cases h; rfl)
        · rw [if_neg hnn] at h
          cases h
end Go.Eng
