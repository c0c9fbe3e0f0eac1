/-
  The lines of an archive that are damaged, and the blocks of those that are not.
  No conditions.
-/
import Derived.Test.YtbpbhjlochijdaaGreatDoorED
import Derived.Test.YtbpbhjlochijdaaGreatDoorAR1
set_option linter.unusedVariables false
set_option linter.unusedSimpArgs false
set_option maxHeartbeats 4000000
namespace Go.Eng
open Go Go.RowKit Go.Proofs
set_option maxRecDepth 100000
theorem c_impl_linesOf (s : List UInt8) (L : List (List UInt8)) (z : List UInt8) (hP : splitC 10 s = L ++ [z]) (hl : s.length ≤ 1048576) : FnC Tryz.prog 56 G0 0 [] [.str s] (fun d os => d = .tup [.sl 1 (L.map encS), .str z] ∧ os = []) := by
  have hsz := (split_sizes hP).1
  have h1 := c_strings_Split s 10 (by omega)
  rw [hP] at h1
  have hlen : (L ++ [z]).length = L.length + 1 := by simp
  refine fn_rule Tryz.func56 rfl (by decide +kernel) rfl (fun w0 F0 lent β0 => ?_)
  repeat' (first | refine sC ?_ | ((with_reducible refine isAwp ?_); first | (refine sS ?_; intro Q' hn he hr) | refine sA ?_) | (refine sH ?_; clear hn he hr Q') | refine sO ?_ | ((conv => whnf); first | refine sK ?_ | (refine sB ?_; repeat' (first | refine sb0 ?_ | (refine sb2 ?_ ?_ <;> intro hb <;> try exact cls))) | (refine ArithS.to (L.length : Int) (by omega) (wrap64 (by omega)) ?_) | ((with_reducible refine isCall ?_); first | (refine call_pure (h1) rfl rfl ?_)) | ((with_reducible refine isCallQ ?_); first | (refine callQ_pure (h1) rfl rfl ?_)) | refine sP ?_ | (refine sE ?_; intro x hx) | (refine sF ?_; intro i y hi hy) | (refine sI ?_; intro i hi) | (refine sL ?_; intro hlen) | (refine sQ ?_; intro c hc hcm; try simp only [lnM, lnA, lnC, lnN] at hc) | (refine sX ?_; intro i1 i2 hi1 hi2 hj1 hj2; try simp only [cutL, lnM, lnA, lnC, lnN, lnT, lnD, lnR] at hi1 hi2 hj2) | refine sD ?_ | (refine ret_pick [] rfl rfl rfl ⟨?_, rfl⟩; conv => lhs; whnf) | (refine ret_pick [0] rfl rfl rfl ⟨rfl, ?_⟩) | (refine sH ?_; clear hn he hr Q')))
  obtain rfl : z = x := by simpa using hx
  show D.tup [D.sl 1 (((L ++ [z]).map encS).take L.length), D.str z] = _
  simp
theorem damR_ge {L : List (List UInt8)} {k : Nat} (h : L.length ≤ k) (n : Nat) : damR (L.drop k) n = [] := by
  rw [List.drop_of_length_le h, damR]
set_option maxHeartbeats 4000000 in
theorem c_impl_DamagedLines (s : List UInt8) (hl : s.length ≤ 1048576) : FnC Tryz.prog 25 GP 0 [] [.str s] (fun d os => d = .h 0 ∧ os = [.row 2 1 ((damAll s).map encI)]) := by
  obtain ⟨L, z, hP⟩ := split_last 10 s
  obtain ⟨hLl, hLp⟩ := split_sizes hP
  rw [damAll_eq hP]
  refine fn_rule Tryz.func25 rfl (by decide +kernel) rfl (fun w0 F0 lent β0 => ?_)
  repeat' (first | refine sC ?_ | ((with_reducible refine isAwp ?_); first | (refine sS ?_; intro Q' hn he hr) | refine sA ?_) | (refine sH ?_; clear hn he hr Q') | refine sO ?_ | ((conv => whnf); first | refine sK ?_ | (refine sB ?_; repeat' (first | refine sb0 ?_ | (refine sb2 ?_ ?_ <;> intro hb <;> try exact cls))) | ((with_reducible refine isCall ?_); first | (refine call_pure (FnC.anyG (c_impl_linesOf s L z hP hl)) rfl rfl ?_)) | ((with_reducible refine isCallQ ?_); first | (refine callQ_pure (FnC.anyG (c_impl_linesOf s L z hP hl)) rfl rfl ?_)) | refine sP ?_ | (refine sE ?_; intro x hx) | (refine sF ?_; intro i y hi hy) | (refine sI ?_; intro i hi) | (refine sL ?_; intro hlen) | (refine sQ ?_; intro c hc hcm; try simp only [lnM, lnA, lnC, lnN] at hc) | (refine sX ?_; intro i1 i2 hi1 hi2 hj1 hj2; try simp only [cutL, lnM, lnA, lnC, lnN, lnT, lnD, lnR] at hi1 hi2 hj2) | refine sD ?_ | (refine ret_pick [] rfl rfl rfl ⟨?_, rfl⟩; conv => lhs; whnf) | (refine ret_pick [0] rfl rfl rfl ⟨rfl, ?_⟩) | (refine sH ?_; clear hn he hr Q')))
  refine loop_env2 (fun (i : Nat) (out : List Int) => [(3,.sl 1 (L.map encS)),(4,.str z),(15,.sl 1 (L.map encS)),(16,.int .i64 L.length),(5,.h 0),(17,.int .i64 i)]) (fun i out => [.row 2 1 (out.map encI)]) (fun i out => (i = 0 ∧ out = [] ∨ 1 ≤ i ∧ out ++ damR (L.drop i) i = damR (L.drop 1) 1) ∧ i ≤ L.length ∧ out.length ≤ i) (fun i out => L.length - i) 0 [] ⟨.inl ⟨rfl, rfl⟩, by omega, by simp⟩ (by refine Weak.trans (weak_adopt 5 2 1 rfl rfl) (weak_to rfl rfl rfl ?_); exact ⟨rfl, rfl, rfl, rfl, rfl, rfl, trivial⟩) (fun i out hk Q' hn he hr => ?_)
  obtain ⟨hk1, hk3, hk4⟩ := hk
  repeat' (first | refine sC ?_ | ((with_reducible refine isAwp ?_); first | (refine sS ?_; intro Q' hn he hr) | refine sA ?_) | (refine sH ?_; clear hn he hr Q') | refine sO ?_ | ((conv => whnf); first | refine sK ?_ | (refine sB ?_; repeat' (first | refine sb0 ?_ | (refine sb2 ?_ ?_ <;> intro hb <;> try exact cls))) | ((with_reducible refine isCall ?_); first | (refine call_pure (c_impl_blockOf _ (Nat.le_trans (hLp _ _ hx) hl)) rfl rfl ?_)) | ((with_reducible refine isCallQ ?_); first | (refine callQ_pure (c_impl_blockOf _ (Nat.le_trans (hLp _ _ hx) hl)) rfl rfl ?_)) | refine sP ?_ | (refine sE ?_; intro x hx) | (refine sF ?_; intro i y hi hy) | (refine sI ?_; intro i hi) | (refine sL ?_; intro hlen) | (refine sQ ?_; intro c hc hcm; try simp only [lnM, lnA, lnC, lnN] at hc) | (refine sX ?_; intro i1 i2 hi1 hi2 hj1 hj2; try simp only [cutL, lnM, lnA, lnC, lnN, lnT, lnD, lnR] at hi1 hi2 hj2) | refine sD ?_ | (refine ret_pick [] rfl rfl rfl ⟨?_, rfl⟩; conv => lhs; whnf) | (refine ret_pick [0] rfl rfl rfl ⟨rfl, ?_⟩) | (refine sH ?_; clear hn he hr Q')))
  · refine ⟨i + 1, out ++ [(i : Int) + 1], ⟨.inr ⟨by omega, ?_⟩, by omega, by simp; omega⟩, by omega, ?_⟩
    · rcases hk1 with ⟨h1, _⟩ | ⟨_, h2⟩
      · omega
      · rw [← h2, damR_bad hx hb]
        simp
    · exact (by refine weak_to rfl rfl (by rw [List.map_append]; rfl) ?_; ((repeat' (first | exact trivial | refine And.intro ?_ ?_)) <;> (first | rfl | (conv => rhs; whnf) <;> (first | rfl | (refine congrArg (D.int _) ?_; omega)))))
  · refine ⟨i + 1, out, ⟨.inr ⟨by omega, ?_⟩, by omega, by omega⟩, by omega, (by refine weak_to rfl rfl rfl ?_; ((repeat' (first | exact trivial | refine And.intro ?_ ?_)) <;> (first | rfl | (conv => rhs; whnf) <;> (first | rfl | (refine congrArg (D.int _) ?_; omega)))))⟩
    rcases hk1 with ⟨h1, _⟩ | ⟨_, h2⟩
    · omega
    · rw [← h2, damR_ok hx hb]
  · refine ⟨i + 1, out, ⟨.inr ⟨by omega, ?_⟩, by omega, by omega⟩, by omega, (by refine weak_to rfl rfl rfl ?_; ((repeat' (first | exact trivial | refine And.intro ?_ ?_)) <;> (first | rfl | (conv => rhs; whnf) <;> (first | rfl | (refine congrArg (D.int _) ?_; omega)))))⟩
    rcases hk1 with ⟨h1, h2⟩ | ⟨h1, _⟩
    · rw [h2, h1]
      rfl
    · omega
  all_goals
    have e : out = damR (L.drop 1) 1 := by
      rcases hk1 with ⟨h1, h2⟩ | ⟨_, h2⟩
      · rw [h2, damR_ge (by omega)]
      · rw [← h2, damR_ge (by omega), List.append_nil]
  · rw [if_neg hb, ← e, List.map_append]
    rfl
  · rw [if_pos hb, ← e, List.append_nil]
    rfl
end Go.Eng
