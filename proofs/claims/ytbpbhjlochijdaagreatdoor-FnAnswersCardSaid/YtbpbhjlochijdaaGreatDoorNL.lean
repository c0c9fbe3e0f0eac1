/-
  Notes read back from their text, by the program and by the reference.
  No conditions.
-/
import Derived.Test.YtbpbhjlochijdaaGreatDoorED
import Derived.Test.YtbpbhjlochijdaaGreatDoorNV
import Derived.Test.YtbpbhjlochijdaaGreatDoorSP1
set_option linter.unusedVariables false
set_option linter.unusedSimpArgs false
set_option maxHeartbeats 4000000
namespace Go.Eng
open Go Go.RowKit Go.Proofs
set_option maxRecDepth 100000
theorem splitN_last (c : UInt8) (l : List UInt8) : ∃ L z, splitC c l = L ++ [z] := ⟨(splitC c l).dropLast, (splitC c l).getLast (splitC_ne c l), (List.dropLast_concat_getLast (splitC_ne c l)).symm⟩
theorem splitN_le (c : UInt8) : ∀ (l p : List UInt8), p ∈ splitC c l → p.length ≤ l.length
  | [], p, h => by
    rw [splitC, List.mem_singleton] at h
    rw [h]
    exact Nat.le_refl _
  | b :: r, p, h => by
    have ih := splitN_le c r
    rw [splitC] at h
    by_cases hb : b = c
    · rw [if_pos hb, List.mem_cons] at h
      rcases h with h | h
      · rw [h]; exact Nat.zero_le _
      · have := ih p h; rw [List.length_cons]; omega
    · rw [if_neg hb] at h
      cases hs : splitC c r with
      | nil => exact absurd hs (splitC_ne c r)
      | cons q qs =>
        rw [hs] at h ih
        simp only [List.mem_cons] at h
        rcases h with h | h
        · rw [h, List.length_cons, List.length_cons]
          have := ih q (by simp)
          omega
        · have := ih p (by simp [h])
          rw [List.length_cons]
          omega
theorem splitN_sizes {c : UInt8} {l : List UInt8} {L : List (List UInt8)} {z : List UInt8} (h : splitC c l = L ++ [z]) : L.length ≤ l.length ∧ ∀ (k : Nat) (p : List UInt8), L[k]? = some p → p.length ≤ l.length := by
  have h1 := splitC_length c l
  have h2 := List.count_le_length (a := c) (l := l)
  rw [h, List.length_append, List.length_singleton] at h1
  refine ⟨by omega, fun k p hp => splitN_le c l p ?_⟩
  rw [h]
  exact List.mem_append_left _ (List.mem_of_getElem? hp)
theorem cut_split (c : UInt8) : ∀ l : List UInt8, ((cutTx c l).2.2 = true → splitC c l = (cutTx c l).1 :: splitC c (cutTx c l).2.1 ∧ (cutTx c l).2.1 = l.drop ((cutTx c l).1.length + 1) ∧ (cutTx c l).1.length + 1 ≤ l.length) ∧ ((cutTx c l).2.2 = false → splitC c l = [l])
  | [] => by simp [cutTx, splitC]
  | b :: r => by
    have ih := cut_split c r
    by_cases hb : b = c
    · simp [cutTx, splitC, hb]
    · rw [cutTx, if_neg hb]
      simp only
      constructor
      · intro h
        obtain ⟨h1, h2, h3⟩ := ih.1 h
        refine ⟨?_, ?_, ?_⟩
        · rw [splitC, if_neg hb, h1]
        · rw [h2]
          simp
        · simp only [List.length_cons]; omega
      · intro h
        rw [splitC, if_neg hb, ih.2 h]
theorem c_impl_linesN (s : List UInt8) (L : List (List UInt8)) (z : List UInt8) (hP : splitC 10 s = L ++ [z]) (hl : s.length ≤ 1048576) : FnC Tryz.prog 56 G0 0 [] [.str s] (fun d os => d = .tup [.sl 1 (L.map encS), .str z] ∧ os = []) := by
  have hsz := (splitN_sizes hP).1
  have h1 := c_strings_Split s 10 (by omega)
  rw [hP] at h1
  have hlen : (L ++ [z]).length = L.length + 1 := by simp
  refine fn_rule Tryz.func56 rfl (by decide +kernel) rfl (fun w0 F0 lent β0 => ?_)
  repeat' (first | refine sC ?_ | ((with_reducible refine isAwp ?_); first | (refine sS ?_; intro Q' hn he hr) | refine sA ?_) | (refine sH ?_; clear hn he hr Q') | refine sO ?_ | ((conv => whnf); first | refine sK ?_ | (refine sB ?_; repeat' (first | refine sb0 ?_ | (refine sb2 ?_ ?_ <;> intro hb <;> try exact cls))) | (refine ArithS.to (L.length : Int) (by omega) (wrap64 (by omega)) ?_) | ((with_reducible refine isCall ?_); first | (refine call_pure (h1) rfl rfl ?_)) | ((with_reducible refine isCallQ ?_); first | (refine callQ_pure (h1) rfl rfl ?_)) | refine sP ?_ | (refine sE ?_; intro x hx) | (refine sF ?_; intro i y hi hy) | (refine sI ?_; intro i hi) | (refine sL ?_; intro hlen) | (refine sQ ?_; intro c hc hcm; try simp only [lnM, lnA, lnC, lnN] at hc) | (refine sX ?_; intro i1 i2 hi1 hi2 hj1 hj2; try simp only [cutL, lnM, lnA, lnC, lnN, lnT, lnD, lnR] at hi1 hi2 hj2) | refine sD ?_ | (refine ret_pick [] rfl rfl rfl ⟨?_, rfl⟩; conv => lhs; whnf) | (refine ret_pick [0] rfl rfl rfl ⟨rfl, ?_⟩) | (refine sH ?_; clear hn he hr Q')))
  obtain rfl : z = x := by simpa using hx
  show D.tup [D.sl 1 (((L ++ [z]).map encS).take L.length), D.str z] = _
  simp
/-- The note of a line, and whether the line has one. -/
def noteL (l : List UInt8) : TNote := ⟨(cutTx 32 l).1, (cutTx 32 l).2.1⟩
def okL (l : List UInt8) : Bool := (cutTx 32 l).2.2
theorem noteL_take {L : List (List UInt8)} {k : Nat} {p : List UInt8} (h : L[k]? = some p) : (L.take (k + 1)).map noteL = (L.take k).map noteL ++ [noteL p] := by
  rw [List.take_add_one, h]
  simp
theorem okL_take {L : List (List UInt8)} {k : Nat} {p : List UInt8} (h0 : (L.take k).all okL = true) (h : L[k]? = some p) (hp : okL p = true) : (L.take (k + 1)).all okL = true := by
  rw [List.take_add_one, h, List.all_append, h0]
  simp [hp]
theorem all_no {L : List (List UInt8)} {k : Nat} {p : List UInt8} (h : L[k]? = some p) (hp : okL p = false) : L.all okL = false := by
  cases ha : L.all okL with
  | false => rfl
  | true =>
    rw [List.all_eq_true] at ha
    rw [ha p (List.mem_of_getElem? h)] at hp
    cases hp
def goodN (L : List (List UInt8)) (z : List UInt8) : Bool := decide (z = []) && (L.all okL && validNs (L.map noteL))
set_option maxHeartbeats 8000000 in
theorem c_impl_ReadNotes_bad (s : List UInt8) (L : List (List UInt8)) (z : List UInt8) (hP : splitC 10 s = L ++ [z]) (hl : s.length ≤ 1048576) (hg : goodN L z = false) : FnC Tryz.prog 17 G0 0 [] [.str s] (fun d os => d = .tup [.sl 2 [], .bool false] ∧ os = []) := by
  obtain ⟨hLl, hLp⟩ := splitN_sizes hP
  refine fn_rule Tryz.func17 rfl (by decide +kernel) rfl (fun w0 F0 lent β0 => ?_)
  by_cases hz : z = []
  · have hg2 : L.all okL = true → validNs (L.map noteL) = false := fun h => by
      unfold goodN at hg
      rw [decide_eq_true hz, h] at hg
      exact hg
    repeat' (first | refine sC ?_ | ((with_reducible refine isAwp ?_); first | (refine sS ?_; intro Q' hn he hr) | refine sA ?_) | (refine sH ?_; clear hn he hr Q') | refine sO ?_ | ((conv => whnf); first | refine sK ?_ | (refine sB ?_; repeat' (first | refine sb0 ?_ | (refine sb2 ?_ ?_ <;> intro hb <;> try exact cls))) | ((with_reducible refine isCall ?_); first | (refine call_pure (c_impl_linesN s L z hP hl) rfl rfl ?_)) | ((with_reducible refine isCallQ ?_); first | (refine callQ_pure (c_impl_linesN s L z hP hl) rfl rfl ?_)) | ((with_reducible refine isRet ?_); first | (refine ret_nil 2 ?_; refine ret_pick [] rfl rfl rfl ⟨?_, rfl⟩)) | refine sP ?_ | (refine sE ?_; intro x hx) | (refine sF ?_; intro i y hi hy) | (refine sI ?_; intro i hi) | (refine sL ?_; intro hlen) | (refine sQ ?_; intro c hc hcm; try simp only [lnM, lnA, lnC, lnN] at hc) | (refine sX ?_; intro i1 i2 hi1 hi2 hj1 hj2; try simp only [cutL, lnM, lnA, lnC, lnN, lnT, lnD, lnR] at hi1 hi2 hj2) | refine sD ?_ | (refine ret_pick [] rfl rfl rfl ⟨?_, rfl⟩; conv => lhs; whnf) | (refine ret_pick [0] rfl rfl rfl ⟨rfl, ?_⟩) | (refine sH ?_; clear hn he hr Q')))
    all_goals first | exact absurd hz (by assumption) | skip
    refine loop_env (fun k : Nat => [(19,.sl 1 (L.map encS)),(20,.int .i64 L.length),(21,.int .i64 k),(6,.h 0)]) (fun k => [.row 39 2 (((L.take k).map noteL).map encNote)]) (fun k => k ≤ L.length ∧ (L.take k).all okL = true) (fun k => L.length - k) 0 ⟨by omega, rfl⟩ (by refine Weak.trans (weak_adopt 6 39 2 rfl rfl) (weak_to rfl rfl rfl ?_); exact ⟨rfl, rfl, rfl, rfl, trivial⟩) (fun k hk Q' hn he hr => ?_)
    obtain ⟨hk1, hk2⟩ := hk
    have hlk : ((L.take k).map noteL).length = k := by rw [List.length_map, List.length_take]; omega
    by_cases hkl : k < L.length
    · obtain ⟨p, hLk⟩ : ∃ p, L[k]? = some p := ⟨_, List.getElem?_eq_getElem hkl⟩
      have hpl := hLp k p hLk
      have hC := c_strings_Cut p 32 (by omega)
      cases hv : (cutTx 32 p).2.2 with
      | false =>
        rw [hv] at hC
        repeat' (first | refine sC ?_ | ((with_reducible refine isAwp ?_); first | (refine sS ?_; intro Q' hn he hr) | refine sA ?_) | (refine sH ?_; clear hn he hr Q') | refine sO ?_ | ((conv => whnf); first | refine sK ?_ | (refine sB ?_; repeat' (first | refine sb0 ?_ | (refine sb2 ?_ ?_ <;> intro hb <;> try exact cls))) | (refine ElemS.the hLk ?_) | ((with_reducible refine isCall ?_); first | (refine call_pure (hC) rfl rfl ?_)) | ((with_reducible refine isCallQ ?_); first | (refine callQ_pure (hC) rfl rfl ?_)) | ((with_reducible refine isRet ?_); first | (refine ret_nil 2 ?_; refine ret_pick [] rfl rfl rfl ⟨?_, rfl⟩)) | refine sP ?_ | (refine sE ?_; intro x hx) | (refine sF ?_; intro i y hi hy) | (refine sI ?_; intro i hi) | (refine sL ?_; intro hlen) | (refine sQ ?_; intro c hc hcm; try simp only [lnM, lnA, lnC, lnN] at hc) | (refine sX ?_; intro i1 i2 hi1 hi2 hj1 hj2; try simp only [cutL, lnM, lnA, lnC, lnN, lnT, lnD, lnR] at hi1 hi2 hj2) | refine sD ?_ | (refine ret_pick [] rfl rfl rfl ⟨?_, rfl⟩; conv => lhs; whnf) | (refine ret_pick [0] rfl rfl rfl ⟨rfl, ?_⟩) | (refine sH ?_; clear hn he hr Q')))
        all_goals rfl
      | true =>
        rw [hv] at hC
        repeat' (first | refine sC ?_ | ((with_reducible refine isAwp ?_); first | (refine sS ?_; intro Q' hn he hr) | refine sA ?_) | (refine sH ?_; clear hn he hr Q') | refine sO ?_ | ((conv => whnf); first | refine sK ?_ | (refine sB ?_; repeat' (first | refine sb0 ?_ | (refine sb2 ?_ ?_ <;> intro hb <;> try exact cls))) | (refine ElemS.the hLk ?_) | ((with_reducible refine isCall ?_); first | (refine call_pure (hC) rfl rfl ?_)) | ((with_reducible refine isCallQ ?_); first | (refine callQ_pure (hC) rfl rfl ?_)) | ((with_reducible refine isRet ?_); first | (refine ret_nil 2 ?_; refine ret_pick [] rfl rfl rfl ⟨?_, rfl⟩)) | refine sP ?_ | (refine sE ?_; intro x hx) | (refine sF ?_; intro i y hi hy) | (refine sI ?_; intro i hi) | (refine sL ?_; intro hlen) | (refine sQ ?_; intro c hc hcm; try simp only [lnM, lnA, lnC, lnN] at hc) | (refine sX ?_; intro i1 i2 hi1 hi2 hj1 hj2; try simp only [cutL, lnM, lnA, lnC, lnN, lnT, lnD, lnR] at hi1 hi2 hj2) | refine sD ?_ | (refine ret_pick [] rfl rfl rfl ⟨?_, rfl⟩; conv => lhs; whnf) | (refine ret_pick [0] rfl rfl rfl ⟨rfl, ?_⟩) | (refine sH ?_; clear hn he hr Q')))
        exact ⟨k + 1, ⟨by omega, okL_take hk2 hLk hv⟩, by omega, (by refine weak_to rfl rfl (by rw [noteL_take hLk, List.map_append]; rfl) ?_; ((repeat' (first | exact trivial | refine And.intro ?_ ?_)) <;> (first | rfl | (conv => rhs; whnf) <;> (first | rfl | (refine congrArg (D.int _) ?_; omega)))))⟩
    · rw [List.take_of_length_le (by omega)] at hk2 ⊢
      have hv := hg2 hk2
      repeat' (first | refine sC ?_ | ((with_reducible refine isAwp ?_); first | (refine sS ?_; intro Q' hn he hr) | refine sA ?_) | (refine sH ?_; clear hn he hr Q') | refine sO ?_ | ((conv => whnf); first | refine sK ?_ | (refine sB ?_; repeat' (first | refine sb0 ?_ | (refine sb2 ?_ ?_ <;> intro hb <;> try exact cls))) | ((with_reducible refine isCall ?_); first | (refine call_look (c_impl_ValidNotes (L.map noteL)) rfl ?_)) | ((with_reducible refine isCallQ ?_); first | (refine callQ_look (c_impl_ValidNotes (L.map noteL)) rfl ?_)) | ((with_reducible refine isRet ?_); first | (refine ret_nil 2 ?_; refine ret_pick [] rfl rfl rfl ⟨?_, rfl⟩)) | refine sP ?_ | (refine sE ?_; intro x hx) | (refine sF ?_; intro i y hi hy) | (refine sI ?_; intro i hi) | (refine sL ?_; intro hlen) | (refine sQ ?_; intro c hc hcm; try simp only [lnM, lnA, lnC, lnN] at hc) | (refine sX ?_; intro i1 i2 hi1 hi2 hj1 hj2; try simp only [cutL, lnM, lnA, lnC, lnN, lnT, lnD, lnR] at hi1 hi2 hj2) | refine sD ?_ | (refine ret_pick [] rfl rfl rfl ⟨?_, rfl⟩; conv => lhs; whnf) | (refine ret_pick [0] rfl rfl rfl ⟨rfl, ?_⟩) | (refine sH ?_; clear hn he hr Q')))
      all_goals rfl
  · repeat' (first | refine sC ?_ | ((with_reducible refine isAwp ?_); first | (refine sS ?_; intro Q' hn he hr) | refine sA ?_) | (refine sH ?_; clear hn he hr Q') | refine sO ?_ | ((conv => whnf); first | refine sK ?_ | (refine sB ?_; repeat' (first | refine sb0 ?_ | (refine sb2 ?_ ?_ <;> intro hb <;> try exact cls))) | ((with_reducible refine isCall ?_); first | (refine call_pure (c_impl_linesN s L z hP hl) rfl rfl ?_)) | ((with_reducible refine isCallQ ?_); first | (refine callQ_pure (c_impl_linesN s L z hP hl) rfl rfl ?_)) | ((with_reducible refine isRet ?_); first | (refine ret_nil 2 ?_; refine ret_pick [] rfl rfl rfl ⟨?_, rfl⟩)) | refine sP ?_ | (refine sE ?_; intro x hx) | (refine sF ?_; intro i y hi hy) | (refine sI ?_; intro i hi) | (refine sL ?_; intro hlen) | (refine sQ ?_; intro c hc hcm; try simp only [lnM, lnA, lnC, lnN] at hc) | (refine sX ?_; intro i1 i2 hi1 hi2 hj1 hj2; try simp only [cutL, lnM, lnA, lnC, lnN, lnT, lnD, lnR] at hi1 hi2 hj2) | refine sD ?_ | (refine ret_pick [] rfl rfl rfl ⟨?_, rfl⟩; conv => lhs; whnf) | (refine ret_pick [0] rfl rfl rfl ⟨rfl, ?_⟩) | (refine sH ?_; clear hn he hr Q')))
    all_goals first | rfl | exact absurd (by assumption) hz
set_option maxHeartbeats 8000000 in
theorem c_impl_ReadNotes_ok (s : List UInt8) (L : List (List UInt8)) (hP : splitC 10 s = L ++ [[]]) (hl : s.length ≤ 1048576) (ho : L.all okL = true) (hv : validNs (L.map noteL) = true) : FnC Tryz.prog 17 G0 0 [] [.str s] (fun d os => d = .tup [.h 0, .bool true] ∧ os = [.row 39 2 ((L.map noteL).map encNote)]) := by
  obtain ⟨hLl, hLp⟩ := splitN_sizes hP
  refine fn_rule Tryz.func17 rfl (by decide +kernel) rfl (fun w0 F0 lent β0 => ?_)
  repeat' (first | refine sC ?_ | ((with_reducible refine isAwp ?_); first | (refine sS ?_; intro Q' hn he hr) | refine sA ?_) | (refine sH ?_; clear hn he hr Q') | refine sO ?_ | ((conv => whnf); first | refine sK ?_ | (refine sB ?_; repeat' (first | refine sb0 ?_ | (refine sb2 ?_ ?_ <;> intro hb <;> try exact cls))) | ((with_reducible refine isCall ?_); first | (refine call_pure (c_impl_linesN s L [] hP hl) rfl rfl ?_)) | ((with_reducible refine isCallQ ?_); first | (refine callQ_pure (c_impl_linesN s L [] hP hl) rfl rfl ?_)) | ((with_reducible refine isRet ?_); first | (refine ret_nil 2 ?_; refine ret_pick [] rfl rfl rfl ⟨?_, rfl⟩)) | refine sP ?_ | (refine sE ?_; intro x hx) | (refine sF ?_; intro i y hi hy) | (refine sI ?_; intro i hi) | (refine sL ?_; intro hlen) | (refine sQ ?_; intro c hc hcm; try simp only [lnM, lnA, lnC, lnN] at hc) | (refine sX ?_; intro i1 i2 hi1 hi2 hj1 hj2; try simp only [cutL, lnM, lnA, lnC, lnN, lnT, lnD, lnR] at hi1 hi2 hj2) | refine sD ?_ | (refine ret_pick [] rfl rfl rfl ⟨?_, rfl⟩; conv => lhs; whnf) | (refine ret_pick [0] rfl rfl rfl ⟨rfl, ?_⟩) | (refine sH ?_; clear hn he hr Q')))
  all_goals first | exact absurd rfl (by assumption) | skip
  refine loop_env (fun k : Nat => [(19,.sl 1 (L.map encS)),(20,.int .i64 L.length),(21,.int .i64 k),(6,.h 0)]) (fun k => [.row 39 2 (((L.take k).map noteL).map encNote)]) (fun k => k ≤ L.length) (fun k => L.length - k) 0 (by omega) (by refine Weak.trans (weak_adopt 6 39 2 rfl rfl) (weak_to rfl rfl rfl ?_); exact ⟨rfl, rfl, rfl, rfl, trivial⟩) (fun k hk1 Q' hn he hr => ?_)
  have hlk : ((L.take k).map noteL).length = k := by rw [List.length_map, List.length_take]; omega
  by_cases hkl : k < L.length
  · obtain ⟨p, hLk⟩ : ∃ p, L[k]? = some p := ⟨_, List.getElem?_eq_getElem hkl⟩
    have hpl := hLp k p hLk
    have hC := c_strings_Cut p 32 (by omega)
    have hv2 : (cutTx 32 p).2.2 = true := List.all_eq_true.1 ho p (List.mem_of_getElem? hLk)
    rw [hv2] at hC
    repeat' (first | refine sC ?_ | ((with_reducible refine isAwp ?_); first | (refine sS ?_; intro Q' hn he hr) | refine sA ?_) | (refine sH ?_; clear hn he hr Q') | refine sO ?_ | ((conv => whnf); first | refine sK ?_ | (refine sB ?_; repeat' (first | refine sb0 ?_ | (refine sb2 ?_ ?_ <;> intro hb <;> try exact cls))) | (refine ElemS.the hLk ?_) | ((with_reducible refine isCall ?_); first | (refine call_pure (hC) rfl rfl ?_)) | ((with_reducible refine isCallQ ?_); first | (refine callQ_pure (hC) rfl rfl ?_)) | ((with_reducible refine isRet ?_); first | (refine ret_nil 2 ?_; refine ret_pick [] rfl rfl rfl ⟨?_, rfl⟩)) | refine sP ?_ | (refine sE ?_; intro x hx) | (refine sF ?_; intro i y hi hy) | (refine sI ?_; intro i hi) | (refine sL ?_; intro hlen) | (refine sQ ?_; intro c hc hcm; try simp only [lnM, lnA, lnC, lnN] at hc) | (refine sX ?_; intro i1 i2 hi1 hi2 hj1 hj2; try simp only [cutL, lnM, lnA, lnC, lnN, lnT, lnD, lnR] at hi1 hi2 hj2) | refine sD ?_ | (refine ret_pick [] rfl rfl rfl ⟨?_, rfl⟩; conv => lhs; whnf) | (refine ret_pick [0] rfl rfl rfl ⟨rfl, ?_⟩) | (refine sH ?_; clear hn he hr Q')))
    exact ⟨k + 1, by omega, by omega, (by refine weak_to rfl rfl (by rw [noteL_take hLk, List.map_append]; rfl) ?_; ((repeat' (first | exact trivial | refine And.intro ?_ ?_)) <;> (first | rfl | (conv => rhs; whnf) <;> (first | rfl | (refine congrArg (D.int _) ?_; omega)))))⟩
  · rw [List.take_of_length_le (by omega)]
    repeat' (first | refine sC ?_ | ((with_reducible refine isAwp ?_); first | (refine sS ?_; intro Q' hn he hr) | refine sA ?_) | (refine sH ?_; clear hn he hr Q') | refine sO ?_ | ((conv => whnf); first | refine sK ?_ | (refine sB ?_; repeat' (first | refine sb0 ?_ | (refine sb2 ?_ ?_ <;> intro hb <;> try exact cls))) | ((with_reducible refine isCall ?_); first | (refine call_look (c_impl_ValidNotes (L.map noteL)) rfl ?_)) | ((with_reducible refine isCallQ ?_); first | (refine callQ_look (c_impl_ValidNotes (L.map noteL)) rfl ?_)) | refine sP ?_ | (refine sE ?_; intro x hx) | (refine sF ?_; intro i y hi hy) | (refine sI ?_; intro i hi) | (refine sL ?_; intro hlen) | (refine sQ ?_; intro c hc hcm; try simp only [lnM, lnA, lnC, lnN] at hc) | (refine sX ?_; intro i1 i2 hi1 hi2 hj1 hj2; try simp only [cutL, lnM, lnA, lnC, lnN, lnT, lnD, lnR] at hi1 hi2 hj2) | refine sD ?_ | (refine ret_pick [] rfl rfl rfl ⟨?_, rfl⟩; conv => lhs; whnf) | (refine ret_pick [0] rfl rfl rfl ⟨rfl, ?_⟩) | (refine sH ?_; clear hn he hr Q')))
    all_goals rfl
end Go.Eng
