/-
  The blocks of the lines of an archive that are not damaged.
  No conditions.
-/
import Derived.Test.YtbpbhjlochijdaaGreatDoorED
import Derived.Test.YtbpbhjlochijdaaGreatDoorAR2
set_option linter.unusedVariables false
set_option linter.unusedSimpArgs false
set_option maxHeartbeats 4000000
namespace Go.Eng
open Go Go.RowKit Go.Proofs
set_option maxRecDepth 100000
theorem c_impl_putBlock_full (a : List TBlock) (t : TBlock) (hs : chain ltBlk a = true) (hl : a.length ≤ 32) (h : roomB a t = false) : FnC Tryz.prog 71 G0 1 [.row 105 3 (a.map encBlock)] [.h 0, .agg (encBlock t)] (fun d os => d = .tup [.h 0, .bool false] ∧ os = [.row 105 3 (a.map encBlock)]) := by
  have hle := blkAt_le a t
  simp only [roomB, Bool.or_eq_false_iff, decide_eq_false_iff_not] at h
  have hv2 : ((a[blkAt a t]?).any fun b => isBlk t.fKind t.fName b) = false := h.1
  have h32 := h.2
  refine fn_rule Tryz.func71 rfl (by decide +kernel) rfl (fun w0 F0 lent β0 => ?_)
  repeat' (first | refine sC ?_ | ((with_reducible refine isAwp ?_); first | (refine sS ?_; intro Q' hn he hr) | refine sA ?_) | (refine sH ?_; clear hn he hr Q') | refine sO ?_ | ((conv => whnf); first | refine sK ?_ | (refine sB ?_; repeat' (first | refine sb0 ?_ | (refine sb2 ?_ ?_ <;> intro hb <;> try exact cls))) | ((with_reducible refine isCall ?_); first | (refine call_look (c_impl_blockPlace a t hs (by omega)) rfl ?_)) | ((with_reducible refine isCallQ ?_); first | (refine callQ_look (c_impl_blockPlace a t hs (by omega)) rfl ?_)) | ((with_reducible refine isRet ?_); first | (refine ret_pick [0] rfl rfl rfl ⟨?_, ?_⟩)) | refine sP ?_ | (refine sE ?_; intro x hx) | (refine sF ?_; intro i y hi hy) | (refine sI ?_; intro i hi) | (refine sL ?_; intro hlen) | (refine sQ ?_; intro c hc hcm; try simp only [lnM, lnA, lnC, lnN] at hc) | (refine sX ?_; intro i1 i2 hi1 hi2 hj1 hj2; try simp only [cutL, lnM, lnA, lnC, lnN, lnT, lnD, lnR] at hi1 hi2 hj2) | refine sD ?_ | (refine ret_pick [] rfl rfl rfl ⟨?_, rfl⟩; conv => lhs; whnf) | (refine ret_pick [0] rfl rfl rfl ⟨rfl, ?_⟩) | (refine sH ?_; clear hn he hr Q')))
  all_goals rfl
theorem salR_ge {L : List (List UInt8)} {k : Nat} (h : L.length ≤ k) (a : List TBlock) : salR (L.drop k) a = a := by
  rw [List.drop_of_length_le h, salR]
theorem putB_full {a : List TBlock} {t : TBlock} (h : roomB a t = false) : putB a t = a := by unfold putB; rw [if_neg (by rw [h]; simp)]
theorem putB_room {a : List TBlock} {t : TBlock} (h : roomB a t = true) : putB a t = insB a t := by unfold putB; rw [if_pos h]
set_option maxHeartbeats 4000000 in
theorem c_impl_SalvageBlocks (s : List UInt8) (hl : s.length ≤ 1048576) : FnC Tryz.prog 26 GP 0 [] [.str s] (fun d os => d = .h 0 ∧ os = [.row 105 3 ((salAll s).map encBlock)]) := by
  obtain ⟨L, z, hP⟩ := split_last 10 s
  obtain ⟨hLl, hLp⟩ := split_sizes hP
  rw [salAll_eq hP]
  refine fn_rule Tryz.func26 rfl (by decide +kernel) rfl (fun w0 F0 lent β0 => ?_)
  repeat' (first | refine sC ?_ | ((with_reducible refine isAwp ?_); first | (refine sS ?_; intro Q' hn he hr) | refine sA ?_) | (refine sH ?_; clear hn he hr Q') | refine sO ?_ | ((conv => whnf); first | refine sK ?_ | (refine sB ?_; repeat' (first | refine sb0 ?_ | (refine sb2 ?_ ?_ <;> intro hb <;> try exact cls))) | ((with_reducible refine isCall ?_); first | (refine call_pure (FnC.anyG (c_impl_linesOf s L z hP hl)) rfl rfl ?_)) | ((with_reducible refine isCallQ ?_); first | (refine callQ_pure (FnC.anyG (c_impl_linesOf s L z hP hl)) rfl rfl ?_)) | refine sP ?_ | (refine sE ?_; intro x hx) | (refine sF ?_; intro i y hi hy) | (refine sI ?_; intro i hi) | (refine sL ?_; intro hlen) | (refine sQ ?_; intro c hc hcm; try simp only [lnM, lnA, lnC, lnN] at hc) | (refine sX ?_; intro i1 i2 hi1 hi2 hj1 hj2; try simp only [cutL, lnM, lnA, lnC, lnN, lnT, lnD, lnR] at hi1 hi2 hj2) | refine sD ?_ | (refine ret_pick [] rfl rfl rfl ⟨?_, rfl⟩; conv => lhs; whnf) | (refine ret_pick [0] rfl rfl rfl ⟨rfl, ?_⟩) | (refine sH ?_; clear hn he hr Q')))
  refine loop_env2 (fun (i : Nat) (out : List TBlock) => [(3,.sl 1 (L.map encS)),(17,.sl 1 (L.map encS)),(18,.int .i64 L.length),(5,.h 0),(19,.int .i64 i)]) (fun i out => [.row 105 3 (out.map encBlock)]) (fun i out => (i = 0 ∧ out = [] ∨ 1 ≤ i ∧ salR (L.drop i) out = salR (L.drop 1) []) ∧ i ≤ L.length ∧ chain ltBlk out = true ∧ out.length ≤ 32) (fun i out => L.length - i) 0 [] ⟨.inl ⟨rfl, rfl⟩, by omega, rfl, by simp⟩ (by refine Weak.trans (weak_adopt 5 105 3 rfl rfl) (weak_to rfl rfl rfl ?_); exact ⟨rfl, rfl, rfl, rfl, rfl, trivial⟩) (fun i out hk Q' hn he hr => ?_)
  obtain ⟨hk1, hk3, hk4, hk5⟩ := hk
  by_cases hil : i < L.length
  · obtain ⟨p, hp⟩ : ∃ p, L[i]? = some p := ⟨_, List.getElem?_eq_getElem hil⟩
    have hpc := c_impl_blockOf p (Nat.le_trans (hLp _ _ hp) hl)
    have hskip : (i = 0 ∨ ¬ (parseB p).2 = 0) → salR (L.drop (i + 1)) out = salR (L.drop 1) [] := by
      rintro (h | h)
      · rcases hk1 with ⟨h1, h2⟩ | ⟨h1, _⟩
        · rw [h1, h2]
        · omega
      · rcases hk1 with ⟨h1, h2⟩ | ⟨_, h2⟩
        · rw [h1, h2]
        · rw [← h2, salR_bad hp h]
    have hput : ¬ i = 0 → (parseB p).2 = 0 → salR (L.drop (i + 1)) (putB out (parseB p).1) = salR (L.drop 1) [] := fun h0 h => by
      rcases hk1 with ⟨h1, h2⟩ | ⟨_, h2⟩
      · exact absurd h1 h0
      · rw [← h2, salR_ok hp h]
    cases hv : roomB out (parseB p).1 with
    | true =>
      repeat' (first | refine sC ?_ | ((with_reducible refine isAwp ?_); first | (refine sS ?_; intro Q' hn he hr) | refine sA ?_) | (refine sH ?_; clear hn he hr Q') | refine sO ?_ | ((conv => whnf); first | refine sK ?_ | (refine sB ?_; repeat' (first | refine sb0 ?_ | (refine sb2 ?_ ?_ <;> intro hb <;> try exact cls))) | ((with_reducible refine isCall ?_); first | (refine call_pure (hpc) rfl rfl ?_) | (refine call_mv 0 rfl (c_impl_putBlock out (parseB p).1 hk4 hk5).anyG rfl (flat_one (FlatO.map fun _ => rfl)) (by first | exact (rfl : _ = 0) | exact (rfl : _ = 1) | exact (rfl : _ = 2) | exact (rfl : _ = 3) | exact (rfl : _ = 4) | exact (rfl : _ = 5) | exact (rfl : _ = 6) | exact (rfl : _ = 7) | exact (rfl : _ = 8) | exact (rfl : _ = 9) | exact (rfl : _ = 10) | exact (rfl : _ = 11) | exact (rfl : _ = 12) | exact (rfl : _ = 13) | exact (rfl : _ = 14) | exact (rfl : _ = 15) | exact (rfl : _ = 16) | exact (rfl : _ = 17) | exact (rfl : _ = 18) | exact (rfl : _ = 19) | exact (rfl : _ = 20) | exact (rfl : _ = 21) | exact (rfl : _ = 22) | exact (rfl : _ = 23) | exact (rfl : _ = 24) | exact (rfl : _ = 25) | exact (rfl : _ = 26) | exact (rfl : _ = 27) | exact (rfl : _ = 28) | exact (rfl : _ = 29) | exact (rfl : _ = 30) | exact (rfl : _ = 31) | exact (rfl : _ = 32) | exact (rfl : _ = 33) | exact (rfl : _ = 34) | exact (rfl : _ = 35) | exact (rfl : _ = 36) | exact (rfl : _ = 37) | exact (rfl : _ = 38) | exact (rfl : _ = 39)) ?_)) | ((with_reducible refine isCallQ ?_); first | (refine callQ_pure (hpc) rfl rfl ?_)) | refine sP ?_ | (refine sE ?_; intro x hx) | (refine sF ?_; intro i y hi hy) | (refine sI ?_; intro i hi) | (refine sL ?_; intro hlen) | (refine sQ ?_; intro c hc hcm; try simp only [lnM, lnA, lnC, lnN] at hc) | (refine sX ?_; intro i1 i2 hi1 hi2 hj1 hj2; try simp only [cutL, lnM, lnA, lnC, lnN, lnT, lnD, lnR] at hi1 hi2 hj2) | refine sD ?_ | (refine ret_pick [] rfl rfl rfl ⟨?_, rfl⟩; conv => lhs; whnf) | (refine ret_pick [0] rfl rfl rfl ⟨rfl, ?_⟩) | (refine sH ?_; clear hn he hr Q')))
      · exact ⟨i + 1, out, ⟨.inr ⟨by omega, hskip (.inl (by omega))⟩, by omega, hk4, hk5⟩, by omega, (by refine weak_to rfl rfl rfl ?_; ((repeat' (first | exact trivial | refine And.intro ?_ ?_)) <;> (first | rfl | (conv => rhs; whnf) <;> (first | rfl | (refine congrArg (D.int _) ?_; omega)))))⟩
      · exact ⟨i + 1, out, ⟨.inr ⟨by omega, hskip (.inr hb)⟩, by omega, hk4, hk5⟩, by omega, (by refine weak_to rfl rfl rfl ?_; ((repeat' (first | exact trivial | refine And.intro ?_ ?_)) <;> (first | rfl | (conv => rhs; whnf) <;> (first | rfl | (refine congrArg (D.int _) ?_; omega)))))⟩
      · refine ⟨i + 1, putB out (parseB p).1, ⟨.inr ⟨by omega, hput (by omega) (by assumption)⟩, by omega, putB_chain hk4 _, putB_le hk5 _⟩, by omega, ?_⟩
        refine weak_sel [2] rfl ?_ ?_
        · exact ⟨⟨rfl, rfl, rfl⟩, trivial⟩
        · exact ⟨rfl, rfl, rfl, rfl, rfl, trivial⟩
    | false =>
      repeat' (first | refine sC ?_ | ((with_reducible refine isAwp ?_); first | (refine sS ?_; intro Q' hn he hr) | refine sA ?_) | (refine sH ?_; clear hn he hr Q') | refine sO ?_ | ((conv => whnf); first | refine sK ?_ | (refine sB ?_; repeat' (first | refine sb0 ?_ | (refine sb2 ?_ ?_ <;> intro hb <;> try exact cls))) | ((with_reducible refine isCall ?_); first | (refine call_pure (hpc) rfl rfl ?_) | (refine call_lend 0 rfl (c_impl_putBlock_full out (parseB p).1 hk4 hk5 hv).anyG ?_; rintro d os ⟨rfl, rfl⟩; refine ⟨_, [], rfl, ?_⟩)) | ((with_reducible refine isCallQ ?_); first | (refine callQ_pure (hpc) rfl rfl ?_)) | refine sP ?_ | (refine sE ?_; intro x hx) | (refine sF ?_; intro i y hi hy) | (refine sI ?_; intro i hi) | (refine sL ?_; intro hlen) | (refine sQ ?_; intro c hc hcm; try simp only [lnM, lnA, lnC, lnN] at hc) | (refine sX ?_; intro i1 i2 hi1 hi2 hj1 hj2; try simp only [cutL, lnM, lnA, lnC, lnN, lnT, lnD, lnR] at hi1 hi2 hj2) | refine sD ?_ | (refine ret_pick [] rfl rfl rfl ⟨?_, rfl⟩; conv => lhs; whnf) | (refine ret_pick [0] rfl rfl rfl ⟨rfl, ?_⟩) | (refine sH ?_; clear hn he hr Q')))
      · exact ⟨i + 1, out, ⟨.inr ⟨by omega, hskip (.inl (by omega))⟩, by omega, hk4, hk5⟩, by omega, (by refine weak_to rfl rfl rfl ?_; ((repeat' (first | exact trivial | refine And.intro ?_ ?_)) <;> (first | rfl | (conv => rhs; whnf) <;> (first | rfl | (refine congrArg (D.int _) ?_; omega)))))⟩
      · exact ⟨i + 1, out, ⟨.inr ⟨by omega, hskip (.inr hb)⟩, by omega, hk4, hk5⟩, by omega, (by refine weak_to rfl rfl rfl ?_; ((repeat' (first | exact trivial | refine And.intro ?_ ?_)) <;> (first | rfl | (conv => rhs; whnf) <;> (first | rfl | (refine congrArg (D.int _) ?_; omega)))))⟩
      · have h9 := hput (by omega) (by assumption)
        rw [putB_full hv] at h9
        exact ⟨i + 1, out, ⟨.inr ⟨by omega, h9⟩, by omega, hk4, hk5⟩, by omega, (by refine weak_to rfl rfl rfl ?_; ((repeat' (first | exact trivial | refine And.intro ?_ ?_)) <;> (first | rfl | (conv => rhs; whnf) <;> (first | rfl | (refine congrArg (D.int _) ?_; omega)))))⟩
  · have e : out = salR (L.drop 1) [] := by
      rcases hk1 with ⟨h1, h2⟩ | ⟨_, h2⟩
      · rw [h2, salR_ge (by omega)]
      · rw [← h2, salR_ge (by omega)]
    repeat' (first | refine sC ?_ | ((with_reducible refine isAwp ?_); first | (refine sS ?_; intro Q' hn he hr) | refine sA ?_) | (refine sH ?_; clear hn he hr Q') | refine sO ?_ | ((conv => whnf); first | refine sK ?_ | (refine sB ?_; repeat' (first | refine sb0 ?_ | (refine sb2 ?_ ?_ <;> intro hb <;> try exact cls))) | refine sP ?_ | (refine sE ?_; intro x hx) | (refine sF ?_; intro i y hi hy) | (refine sI ?_; intro i hi) | (refine sL ?_; intro hlen) | (refine sQ ?_; intro c hc hcm; try simp only [lnM, lnA, lnC, lnN] at hc) | (refine sX ?_; intro i1 i2 hi1 hi2 hj1 hj2; try simp only [cutL, lnM, lnA, lnC, lnN, lnT, lnD, lnR] at hi1 hi2 hj2) | refine sD ?_ | (refine ret_pick [] rfl rfl rfl ⟨?_, rfl⟩; conv => lhs; whnf) | (refine ret_pick [0] rfl rfl rfl ⟨rfl, ?_⟩) | (refine sH ?_; clear hn he hr Q')))
    all_goals (rw [← e]; rfl)
end Go.Eng
