/-
  Stars read from texts, and the stars of blocks, by the program and by the reference.
  No conditions.
-/
import Derived.Test.YtbpbhjlochijdaaGreatDoorED
import Derived.Test.YtbpbhjlochijdaaGreatDoorRD
import Derived.Test.YtbpbhjlochijdaaGreatDoorSP1
import Derived.Test.YtbpbhjlochijdaaGreatDoorSR0
import Derived.Test.YtbpbhjlochijdaaGreatDoorBA
import Derived.Test.YtbpbhjlochijdaaGreatDoorLT
import Derived.Test.YtbpbhjlochijdaaGreatDoorAR1
set_option linter.unusedVariables false
set_option linter.unusedSimpArgs false
set_option maxHeartbeats 4000000
namespace Go.Eng
open Go Go.RowKit Go.Proofs
set_option maxRecDepth 100000
theorem map_take_succB {α β : Type} {f : α → β} {l : List α} {k : Nat} {x : α} (h : l[k]? = some x) : (l.take (k + 1)).map f = (l.take k).map f ++ [f x] := by
  rw [List.take_add_one, h]
  simp
theorem all_take_stepB {α : Type} {f : α → Bool} {l : List α} {k : Nat} {x : α} (h0 : (l.take k).all f = true) (h : l[k]? = some x) (hx : f x = true) : (l.take (k + 1)).all f = true := by
  rw [List.take_add_one, h, List.all_append, h0]
  simp [hx]
theorem numOk_nil : numOk [] = false := rfl
theorem signed_ok {r : List UInt8} (hr : r ≠ []) : (numOk r && decide (0 < numV r)) = numOk (45 :: r) ∧ (numOk (45 :: r) = true → numV (45 :: r) = -numV r) := by
  have e1 : digsOf (45 :: r) = r := rfl
  obtain ⟨c, r', hc⟩ : ∃ c r', r = c :: r' := by
    cases r with
    | nil => exact absurd rfl hr
    | cons c r' => exact ⟨c, r', rfl⟩
  by_cases h45 : c = 45
  · have hn : neg45 r = true := by rw [hc, h45]; rfl
    have h1 : numOk (45 :: r) = false := by
      unfold numOk
      rw [e1, hc, h45]
      have : isDig 45 = false := by decide
      simp [this]
    have h2 : ¬ 0 < numV r := by
      unfold numV
      rw [if_pos hn]
      omega
    rw [h1, decide_eq_false h2]
    exact ⟨by simp, fun h => by cases h⟩
  · have hn : neg45 r = false := by rw [hc]; simp [neg45, h45]
    have e2 : digsOf r = r := by unfold digsOf; rw [hn]; rfl
    have hV : numV r = (digV 0 r : Nat) := by unfold numV; rw [hn, e2]; rfl
    have hV2 : numV (45 :: r) = -((digV 0 r : Nat) : Int) := rfl
    refine ⟨?_, fun _ => by rw [hV, hV2]⟩
    by_cases hall : r.all isDig = true
    · by_cases h48 : r[0]? = some 48
      · have h1 : numOk (45 :: r) = false := by
          unfold numOk
          rw [e1, h48]
          have : decide (1 < (45 :: r).length) = true := decide_eq_true (by rw [hc]; simp)
          rw [this]
          simp
        rw [h1]
        cases hk : numOk r with
        | false => rfl
        | true =>
          unfold numOk at hk
          rw [e2, h48] at hk
          have hl : r.length = 1 := by
            simp only [Bool.and_eq_true, decide_eq_true_eq, Bool.not_eq_true', Bool.and_eq_false_iff, decide_eq_false_iff_not] at hk
            rcases hk.2.2 with h | h
            · exact absurd trivial h
            · have := hk.1.1
              omega
          have hr1 : r = [48] := by
            rw [hc] at hl h48 ⊢
            have : r' = [] := by simpa using hl
            rw [this] at h48 ⊢
            simpa using h48
          rw [hV, hr1]
          rfl
      · have hpos := (dec_digV r.length r rfl hr hall (.inl h48)).2 h48
        have h0 : decide (0 < numV r) = true := by rw [hV]; exact decide_eq_true (by omega)
        rw [h0, Bool.and_true]
        unfold numOk
        rw [e1, e2]
        simp [h48]
    · have hall' : r.all isDig = false := by simpa using hall
      have h1 : numOk (45 :: r) = false := by unfold numOk; rw [e1, hall']; simp
      have h2 : numOk r = false := by unfold numOk; rw [e2, hall']; simp
      rw [h1, h2]
      rfl
theorem readN_snd (s : List UInt8) : (readN s).2 = numOk s := by unfold readN; cases numOk s <;> rfl
theorem readN_fst {s : List UInt8} (h : numOk s = true) : (readN s).1 = numV s := by unfold readN; rw [if_pos h]
def noStar : TStar := ⟨[], 0, 0, 0, 0⟩
def starD (o : Option TStar) : D := .tup [.agg (encStar (o.getD noStar)), .bool o.isSome]
theorem star5_len {w : List (List UInt8)} (h : w.length ≠ 5) : star5 w = none := by
  unfold star5
  split
  · exact absurd rfl h
  · rfl
theorem five_of {w : List (List UInt8)} (h : w.length = 5) : ∃ a b c d e, w = [a, b, c, d, e] := by
  match w, h with
  | [a, b, c, d, e], _ => exact ⟨a, b, c, d, e, rfl⟩
theorem star5_bad {a : List UInt8} {w : List (List UInt8)} {k : Nat} {p : List UInt8} (hw : w.length = 4) (hp : w[k]? = some p) (h : numOk p = false) : star5 (a :: w) = none := by
  match w, hw with
  | [b, c, d, e], _ =>
    unfold star5
    simp only
    rw [if_neg]
    rintro ⟨h1, h2, h3, h4⟩
    have := List.mem_of_getElem? hp
    simp at this
    rcases this with rfl | rfl | rfl | rfl
    · rw [h1] at h; cases h
    · rw [h2] at h; cases h
    · rw [h3] at h; cases h
    · rw [h4] at h; cases h
/-! ### The program -/
theorem filter_step {l : List (List UInt8)} {k : Nat} {p : List UInt8} (h : l[k]? = some p) : (l.take (k + 1)).filter (fun p => !p.isEmpty) = (l.take k).filter (fun p => !p.isEmpty) ++ (if p = [] then [] else [p]) := by
  rw [List.take_add_one, h, List.filter_append]
  congr 1
  cases p with
  | nil => rfl
  | cons c r => rfl
theorem c_impl_SplitWords (s : List UInt8) (hs : s.length ≤ 1048576) : FnC Tryz.prog 116 G0 0 [] [.str s] (fun d os => d = .sl 1 ((wordsOf s).map encS) ∧ os = []) := by
  have hsp := c_strings_Split s 32 (by omega)
  have hsl := splitC_length 32 s
  have hcn := List.count_le_length (a := (32 : UInt8)) (l := s)
  refine fn_rule Tryz.func116 rfl (by decide +kernel) rfl (fun w0 F0 lent β0 => ?_)
  repeat' (first | refine sC ?_ | ((with_reducible refine isAwp ?_); first | (refine sS ?_; intro Q' hn he hr) | refine sA ?_) | (refine sH ?_; clear hn he hr Q') | refine sO ?_ | ((conv => whnf); first | refine sK ?_ | (refine sB ?_; repeat' (first | refine sb0 ?_ | (refine sb2 ?_ ?_ <;> intro hb <;> try exact cls))) | ((with_reducible refine isCall ?_); first | (refine call_pure (hsp) rfl rfl ?_)) | ((with_reducible refine isCallQ ?_); first | (refine callQ_pure (hsp) rfl rfl ?_)) | refine sP ?_ | (refine sE ?_; intro x hx) | (refine sF ?_; intro i y hi hy) | (refine sI ?_; intro i hi) | (refine sL ?_; intro hlen) | (refine sQ ?_; intro c hc hcm; try simp only [lnM, lnA, lnC, lnN] at hc) | (refine sX ?_; intro i1 i2 hi1 hi2 hj1 hj2; try simp only [cutL, lnM, lnA, lnC, lnN, lnT, lnD, lnR] at hi1 hi2 hj2) | refine sD ?_ | (refine ret_pick [] rfl rfl rfl ⟨?_, rfl⟩; conv => lhs; whnf) | (refine ret_pick [0] rfl rfl rfl ⟨rfl, ?_⟩) | (refine sH ?_; clear hn he hr Q')))
  refine loop_env (fun k : Nat => [(7,.sl 1 ((splitC 32 s).map encS)),(8,.int .i64 (splitC 32 s).length),(9,.int .i64 k),(3,.h 0)]) (fun k => [.row 9 1 ((((splitC 32 s).take k).filter (fun p => !p.isEmpty)).map encS)]) (fun k => k ≤ (splitC 32 s).length) (fun k => (splitC 32 s).length - k) 0 (by omega) (by refine Weak.trans (weak_adopt 3 9 1 rfl rfl) (weak_to rfl rfl rfl ?_); exact ⟨rfl, rfl, rfl, rfl, trivial⟩) (fun k hk Q' hn he hr => ?_)
  have hlk : ((((splitC 32 s).take k).filter (fun p => !p.isEmpty))).length ≤ k := Nat.le_trans (List.length_filter_le _ _) (by rw [List.length_take]; omega)
  repeat' (first | refine sC ?_ | ((with_reducible refine isAwp ?_); first | (refine sS ?_; intro Q' hn he hr) | refine sA ?_) | (refine sH ?_; clear hn he hr Q') | refine sO ?_ | ((conv => whnf); first | refine sK ?_ | (refine sB ?_; repeat' (first | refine sb0 ?_ | (refine sb2 ?_ ?_ <;> intro hb <;> try exact cls))) | ((with_reducible refine isRet ?_); first | (refine ret_freeze 0 rfl (Nat.zero_le _) ?_; refine ret_pick [] rfl rfl rfl ⟨?_, rfl⟩)) | refine sP ?_ | (refine sE ?_; intro x hx) | (refine sF ?_; intro i y hi hy) | (refine sI ?_; intro i hi) | (refine sL ?_; intro hlen) | (refine sQ ?_; intro c hc hcm; try simp only [lnM, lnA, lnC, lnN] at hc) | (refine sX ?_; intro i1 i2 hi1 hi2 hj1 hj2; try simp only [cutL, lnM, lnA, lnC, lnN, lnT, lnD, lnR] at hi1 hi2 hj2) | refine sD ?_ | (refine ret_pick [] rfl rfl rfl ⟨?_, rfl⟩; conv => lhs; whnf) | (refine ret_pick [0] rfl rfl rfl ⟨rfl, ?_⟩) | (refine sH ?_; clear hn he hr Q')))
  · refine ⟨k + 1, by omega, by omega, ?_⟩
    exact (by refine weak_to rfl rfl (by rw [filter_step hx, if_neg hb, List.map_append]; rfl) ?_; ((repeat' (first | exact trivial | refine And.intro ?_ ?_)) <;> (first | rfl | (conv => rhs; whnf) <;> (first | rfl | (refine congrArg (D.int _) ?_; omega)))))
  · refine ⟨k + 1, by omega, by omega, ?_⟩
    exact (by refine weak_to rfl rfl (by rw [filter_step hx, if_pos hb, List.append_nil]; rfl) ?_; ((repeat' (first | exact trivial | refine And.intro ?_ ?_)) <;> (first | rfl | (conv => rhs; whnf) <;> (first | rfl | (refine congrArg (D.int _) ?_; omega)))))
  · obtain rfl : k = (splitC 32 s).length := by omega
    rw [List.take_length]
    rfl
theorem c_impl_readNumbers_ok (e1 e2 : Value) (hif : isIfc e1) (W : List (List UInt8)) (hW : W.length ≤ 1048576) (hl : ∀ p ∈ W, p.length ≤ 1048576) (hok : W.all numOk = true) : FnC Tryz.prog 117 (GE e1 e2) 0 [] [.sl 1 (W.map encS)] (fun d os => d = .tup [.sl 1 ((W.map numV).map encI), .bool true] ∧ os = []) := by
  refine fn_rule Tryz.func117 rfl (by decide +kernel) rfl (fun w0 F0 lent β0 => ?_)
  repeat' (first | refine sC ?_ | ((with_reducible refine isAwp ?_); first | (refine sS ?_; intro Q' hn he hr) | refine sA ?_) | (refine sH ?_; clear hn he hr Q') | refine sO ?_ | ((conv => whnf); first | refine sK ?_ | (refine sB ?_; repeat' (first | refine sb0 ?_ | (refine sb2 ?_ ?_ <;> intro hb <;> try exact cls))) | refine sP ?_ | (refine sE ?_; intro x hx) | (refine sF ?_; intro i y hi hy) | (refine sI ?_; intro i hi) | (refine sL ?_; intro hlen) | (refine sQ ?_; intro c hc hcm; try simp only [lnM, lnA, lnC, lnN] at hc) | (refine sX ?_; intro i1 i2 hi1 hi2 hj1 hj2; try simp only [cutL, lnM, lnA, lnC, lnN, lnT, lnD, lnR] at hi1 hi2 hj2) | refine sD ?_ | (refine ret_pick [] rfl rfl rfl ⟨?_, rfl⟩; conv => lhs; whnf) | (refine ret_pick [0] rfl rfl rfl ⟨rfl, ?_⟩) | (refine sH ?_; clear hn he hr Q')))
  refine loop_env (fun k : Nat => [(12,.sl 1 (W.map encS)),(13,.int .i64 W.length),(14,.int .i64 k),(4,.h 0)]) (fun k => [.row 2 1 (fill encI [.int .i64 0] (W.map numV) k)]) (fun k => k ≤ W.length) (fun k => W.length - k) 0 (by omega) (by refine weak_to rfl rfl (by rw [fill_zero, List.length_map]; rfl) ?_; exact ⟨rfl, rfl, rfl, rfl, trivial⟩) (fun k hk Q' hn he hr => ?_)
  have hfl : (fill encI [.int .i64 0] (W.map numV) k).length = W.length := by rw [fill_length _ _ _ (by rw [List.length_map]; exact hk), List.length_map]
  by_cases hkl : k < W.length
  · obtain ⟨p, hp⟩ : ∃ p, W[k]? = some p := ⟨_, List.getElem?_eq_getElem hkl⟩
    have hpm := List.mem_of_getElem? hp
    have hpk := List.all_eq_true.1 hok p hpm
    have hrd := c_impl_ReadDecimal e1 e2 hif p (hl p hpm)
    rw [readN_snd, hpk, readN_fst hpk] at hrd
    repeat' (first | refine sC ?_ | ((with_reducible refine isAwp ?_); first | (refine sS ?_; intro Q' hn he hr) | refine sA ?_) | (refine sH ?_; clear hn he hr Q') | refine sO ?_ | ((conv => whnf); first | refine sK ?_ | (refine sB ?_; repeat' (first | refine sb0 ?_ | (refine sb2 ?_ ?_ <;> intro hb <;> try exact cls))) | (refine ElemS.the hp ?_) | (refine InS.nat (by rw [hfl]; exact hkl) ?_) | (refine ElemS.fill (by rw [List.length_map]; exact hkl) ?_) | ((with_reducible refine isCall ?_); first | (refine call_pure (hrd) rfl rfl ?_)) | ((with_reducible refine isCallQ ?_); first | (refine callQ_pure (hrd) rfl rfl ?_)) | refine sP ?_ | (refine sE ?_; intro x hx) | (refine sF ?_; intro i y hi hy) | (refine sI ?_; intro i hi) | (refine sL ?_; intro hlen) | (refine sQ ?_; intro c hc hcm; try simp only [lnM, lnA, lnC, lnN] at hc) | (refine sX ?_; intro i1 i2 hi1 hi2 hj1 hj2; try simp only [cutL, lnM, lnA, lnC, lnN, lnT, lnD, lnR] at hi1 hi2 hj2) | refine sD ?_ | (refine ret_pick [] rfl rfl rfl ⟨?_, rfl⟩; conv => lhs; whnf) | (refine ret_pick [0] rfl rfl rfl ⟨rfl, ?_⟩) | (refine sH ?_; clear hn he hr Q')))
    refine ⟨k + 1, by omega, by omega, ?_⟩
    exact (by refine weak_to rfl rfl (by rw [← fill_set _ _ _ (show (W.map numV)[k]? = some (numV p) by rw [List.getElem?_map, hp]; rfl)]; rfl) ?_; ((repeat' (first | exact trivial | refine And.intro ?_ ?_)) <;> (first | rfl | (conv => rhs; whnf) <;> (first | rfl | (refine congrArg (D.int _) ?_; omega)))))
  · obtain rfl : k = W.length := by omega
    repeat' (first | refine sC ?_ | ((with_reducible refine isAwp ?_); first | (refine sS ?_; intro Q' hn he hr) | refine sA ?_) | (refine sH ?_; clear hn he hr Q') | refine sO ?_ | ((conv => whnf); first | refine sK ?_ | (refine sB ?_; repeat' (first | refine sb0 ?_ | (refine sb2 ?_ ?_ <;> intro hb <;> try exact cls))) | ((with_reducible refine isRet ?_); first | (refine ret_freeze 0 rfl (Nat.zero_le _) ?_; refine ret_pick [] rfl rfl rfl ⟨?_, rfl⟩)) | refine sP ?_ | (refine sE ?_; intro x hx) | (refine sF ?_; intro i y hi hy) | (refine sI ?_; intro i hi) | (refine sL ?_; intro hlen) | (refine sQ ?_; intro c hc hcm; try simp only [lnM, lnA, lnC, lnN] at hc) | (refine sX ?_; intro i1 i2 hi1 hi2 hj1 hj2; try simp only [cutL, lnM, lnA, lnC, lnN, lnT, lnD, lnR] at hi1 hi2 hj2) | refine sD ?_ | (refine ret_pick [] rfl rfl rfl ⟨?_, rfl⟩; conv => lhs; whnf) | (refine ret_pick [0] rfl rfl rfl ⟨rfl, ?_⟩) | (refine sH ?_; clear hn he hr Q')))
    have h9 := fill_all encI [.int .i64 0] (W.map numV)
    rw [List.length_map] at h9
    rw [← h9]
    rfl
theorem c_impl_readNumbers_bad (e1 e2 : Value) (hif : isIfc e1) (W : List (List UInt8)) (hW : W.length ≤ 1048576) (hl : ∀ p ∈ W, p.length ≤ 1048576) (hok : W.all numOk = false) : FnC Tryz.prog 117 (GE e1 e2) 0 [] [.sl 1 (W.map encS)] (fun d os => d = .tup [.sl 1 [], .bool false] ∧ os = []) := by
  refine fn_rule Tryz.func117 rfl (by decide +kernel) rfl (fun w0 F0 lent β0 => ?_)
  repeat' (first | refine sC ?_ | ((with_reducible refine isAwp ?_); first | (refine sS ?_; intro Q' hn he hr) | refine sA ?_) | (refine sH ?_; clear hn he hr Q') | refine sO ?_ | ((conv => whnf); first | refine sK ?_ | (refine sB ?_; repeat' (first | refine sb0 ?_ | (refine sb2 ?_ ?_ <;> intro hb <;> try exact cls))) | refine sP ?_ | (refine sE ?_; intro x hx) | (refine sF ?_; intro i y hi hy) | (refine sI ?_; intro i hi) | (refine sL ?_; intro hlen) | (refine sQ ?_; intro c hc hcm; try simp only [lnM, lnA, lnC, lnN] at hc) | (refine sX ?_; intro i1 i2 hi1 hi2 hj1 hj2; try simp only [cutL, lnM, lnA, lnC, lnN, lnT, lnD, lnR] at hi1 hi2 hj2) | refine sD ?_ | (refine ret_pick [] rfl rfl rfl ⟨?_, rfl⟩; conv => lhs; whnf) | (refine ret_pick [0] rfl rfl rfl ⟨rfl, ?_⟩) | (refine sH ?_; clear hn he hr Q')))
  refine loop_env (fun k : Nat => [(12,.sl 1 (W.map encS)),(13,.int .i64 W.length),(14,.int .i64 k),(4,.h 0)]) (fun k => [.row 2 1 (fill encI [.int .i64 0] (W.map numV) k)]) (fun k => k ≤ W.length ∧ (W.take k).all numOk = true) (fun k => W.length - k) 0 ⟨by omega, rfl⟩ (by refine weak_to rfl rfl (by rw [fill_zero, List.length_map]; rfl) ?_; exact ⟨rfl, rfl, rfl, rfl, trivial⟩) (fun k hk Q' hn he hr => ?_)
  obtain ⟨hk, hk2⟩ := hk
  have hfl : (fill encI [.int .i64 0] (W.map numV) k).length = W.length := by rw [fill_length _ _ _ (by rw [List.length_map]; exact hk), List.length_map]
  by_cases hkl : k < W.length
  · obtain ⟨p, hp⟩ : ∃ p, W[k]? = some p := ⟨_, List.getElem?_eq_getElem hkl⟩
    have hpm := List.mem_of_getElem? hp
    have hrd := c_impl_ReadDecimal e1 e2 hif p (hl p hpm)
    cases hpk : numOk p with
    | true =>
      rw [readN_snd, hpk, readN_fst hpk] at hrd
      repeat' (first | refine sC ?_ | ((with_reducible refine isAwp ?_); first | (refine sS ?_; intro Q' hn he hr) | refine sA ?_) | (refine sH ?_; clear hn he hr Q') | refine sO ?_ | ((conv => whnf); first | refine sK ?_ | (refine sB ?_; repeat' (first | refine sb0 ?_ | (refine sb2 ?_ ?_ <;> intro hb <;> try exact cls))) | (refine ElemS.the hp ?_) | (refine InS.nat (by rw [hfl]; exact hkl) ?_) | (refine ElemS.fill (by rw [List.length_map]; exact hkl) ?_) | ((with_reducible refine isCall ?_); first | (refine call_pure (hrd) rfl rfl ?_)) | ((with_reducible refine isCallQ ?_); first | (refine callQ_pure (hrd) rfl rfl ?_)) | refine sP ?_ | (refine sE ?_; intro x hx) | (refine sF ?_; intro i y hi hy) | (refine sI ?_; intro i hi) | (refine sL ?_; intro hlen) | (refine sQ ?_; intro c hc hcm; try simp only [lnM, lnA, lnC, lnN] at hc) | (refine sX ?_; intro i1 i2 hi1 hi2 hj1 hj2; try simp only [cutL, lnM, lnA, lnC, lnN, lnT, lnD, lnR] at hi1 hi2 hj2) | refine sD ?_ | (refine ret_pick [] rfl rfl rfl ⟨?_, rfl⟩; conv => lhs; whnf) | (refine ret_pick [0] rfl rfl rfl ⟨rfl, ?_⟩) | (refine sH ?_; clear hn he hr Q')))
      refine ⟨k + 1, ⟨by omega, all_take_stepB hk2 hp hpk⟩, by omega, ?_⟩
      exact (by refine weak_to rfl rfl (by rw [← fill_set _ _ _ (show (W.map numV)[k]? = some (numV p) by rw [List.getElem?_map, hp]; rfl)]; rfl) ?_; ((repeat' (first | exact trivial | refine And.intro ?_ ?_)) <;> (first | rfl | (conv => rhs; whnf) <;> (first | rfl | (refine congrArg (D.int _) ?_; omega)))))
    | false =>
      rw [readN_snd, hpk] at hrd
      repeat' (first | refine sC ?_ | ((with_reducible refine isAwp ?_); first | (refine sS ?_; intro Q' hn he hr) | refine sA ?_) | (refine sH ?_; clear hn he hr Q') | refine sO ?_ | ((conv => whnf); first | refine sK ?_ | (refine sB ?_; repeat' (first | refine sb0 ?_ | (refine sb2 ?_ ?_ <;> intro hb <;> try exact cls))) | (refine ElemS.the hp ?_) | ((with_reducible refine isCall ?_); first | (refine call_pure (hrd) rfl rfl ?_)) | ((with_reducible refine isCallQ ?_); first | (refine callQ_pure (hrd) rfl rfl ?_)) | ((with_reducible refine isRet ?_); first | (refine ret_nil 1 ?_; refine ret_pick [] rfl rfl rfl ⟨?_, rfl⟩)) | refine sP ?_ | (refine sE ?_; intro x hx) | (refine sF ?_; intro i y hi hy) | (refine sI ?_; intro i hi) | (refine sL ?_; intro hlen) | (refine sQ ?_; intro c hc hcm; try simp only [lnM, lnA, lnC, lnN] at hc) | (refine sX ?_; intro i1 i2 hi1 hi2 hj1 hj2; try simp only [cutL, lnM, lnA, lnC, lnN, lnT, lnD, lnR] at hi1 hi2 hj2) | refine sD ?_ | (refine ret_pick [] rfl rfl rfl ⟨?_, rfl⟩; conv => lhs; whnf) | (refine ret_pick [0] rfl rfl rfl ⟨rfl, ?_⟩) | (refine sH ?_; clear hn he hr Q')))
      all_goals rfl
  · obtain rfl : k = W.length := by omega
    rw [List.take_length, hok] at hk2
    cases hk2
theorem c_impl_ReadStar (e1 e2 : Value) (hif : isIfc e1) (s : List UInt8) (hs : s.length ≤ 1048576) : FnC Tryz.prog 78 (GE e1 e2) 0 [] [.str s] (fun d os => d = starD (readStar s) ∧ os = []) := by
  have hsp := c_impl_SplitWords s hs
  have hle : ∀ p ∈ wordsOf s, p.length ≤ 1048576 := fun p hp => Nat.le_trans (splitC_le 32 s p (List.mem_filter.1 hp).1) hs
  rw [← readStarP_eq]
  have hnone : star5 (wordsOf s) = none → readStarP s = none := fun h => by unfold readStarP; rw [h]
  by_cases h5 : (wordsOf s).length = 5
  case neg =>
    rw [hnone (star5_len h5)]
    refine fn_rule Tryz.func78 rfl (by decide +kernel) rfl (fun w0 F0 lent β0 => ?_)
    repeat' (first | refine sC ?_ | ((with_reducible refine isAwp ?_); first | (refine sS ?_; intro Q' hn he hr) | refine sA ?_) | (refine sH ?_; clear hn he hr Q') | refine sO ?_ | ((conv => whnf); first | refine sK ?_ | (refine sB ?_; repeat' (first | refine sb0 ?_ | (refine sb2 ?_ ?_ <;> intro hb <;> try exact cls))) | ((with_reducible refine isCall ?_); first | (refine call_pure (FnC.anyG (hsp)) rfl rfl ?_)) | ((with_reducible refine isCallQ ?_); first | (refine callQ_pure (FnC.anyG (hsp)) rfl rfl ?_)) | refine sP ?_ | (refine sE ?_; intro x hx) | (refine sF ?_; intro i y hi hy) | (refine sI ?_; intro i hi) | (refine sL ?_; intro hlen) | (refine sQ ?_; intro c hc hcm; try simp only [lnM, lnA, lnC, lnN] at hc) | (refine sX ?_; intro i1 i2 hi1 hi2 hj1 hj2; try simp only [cutL, lnM, lnA, lnC, lnN, lnT, lnD, lnR] at hi1 hi2 hj2) | refine sD ?_ | (refine ret_pick [] rfl rfl rfl ⟨?_, rfl⟩; conv => lhs; whnf) | (refine ret_pick [0] rfl rfl rfl ⟨rfl, ?_⟩) | (refine sH ?_; clear hn he hr Q')))
    all_goals first | rfl | (exfalso; omega)
  obtain ⟨a, b, c, d, e, hw⟩ := five_of h5
  rw [hw] at hsp hle hnone
  have hle4 : ∀ p ∈ [b, c, d, e], p.length ≤ 1048576 := fun p hp => hle p (List.mem_cons_of_mem _ hp)
  cases hok : ([b, c, d, e] : List (List UInt8)).all numOk with
  | false =>
    have hn : star5 (a :: [b, c, d, e]) = none := by
      unfold star5
      simp only
      rw [if_neg]
      rintro ⟨h1, h2, h3, h4⟩
      simp [h1, h2, h3, h4] at hok
    rw [hnone hn]
    have hrn := c_impl_readNumbers_bad e1 e2 hif [b, c, d, e] (by simp) hle4 hok
    refine fn_rule Tryz.func78 rfl (by decide +kernel) rfl (fun w0 F0 lent β0 => ?_)
    repeat' (first | refine sC ?_ | ((with_reducible refine isAwp ?_); first | (refine sS ?_; intro Q' hn he hr) | refine sA ?_) | (refine sH ?_; clear hn he hr Q') | refine sO ?_ | ((conv => whnf); first | refine sK ?_ | (refine sB ?_; repeat' (first | refine sb0 ?_ | (refine sb2 ?_ ?_ <;> intro hb <;> try exact cls))) | (refine CutS.lo 1 rfl (by simp) ?_) | ((with_reducible refine isCall ?_); first | (refine call_pure (FnC.anyG (hsp)) rfl rfl ?_) | (refine call_pure (hrn) rfl rfl ?_)) | ((with_reducible refine isCallQ ?_); first | (refine callQ_pure (FnC.anyG (hsp)) rfl rfl ?_) | (refine callQ_pure (hrn) rfl rfl ?_)) | refine sP ?_ | (refine sE ?_; intro x hx) | (refine sF ?_; intro i y hi hy) | (refine sI ?_; intro i hi) | (refine sL ?_; intro hlen) | (refine sQ ?_; intro c hc hcm; try simp only [lnM, lnA, lnC, lnN] at hc) | (refine sX ?_; intro i1 i2 hi1 hi2 hj1 hj2; try simp only [cutL, lnM, lnA, lnC, lnN, lnT, lnD, lnR] at hi1 hi2 hj2) | refine sD ?_ | (refine ret_pick [] rfl rfl rfl ⟨?_, rfl⟩; conv => lhs; whnf) | (refine ret_pick [0] rfl rfl rfl ⟨rfl, ?_⟩) | (refine sH ?_; clear hn he hr Q')))
    all_goals first | rfl | (exfalso; omega)
  | true =>
    have hrn := c_impl_readNumbers_ok e1 e2 hif [b, c, d, e] (by simp) hle4 hok
    have hall : numOk b = true ∧ numOk c = true ∧ numOk d = true ∧ numOk e = true := by simpa using hok
    have hS : star5 (a :: [b, c, d, e]) = if starB (starOf a b c d e) = true then some (starOf a b c d e) else none := by
      unfold star5
      simp only
      rw [if_pos hall]
    have hvs := c_impl_ValidStar (starOf a b c d e)
    cases hg : starB (starOf a b c d e) with
    | false =>
      rw [hg] at hvs hS
      rw [hnone hS]
      refine fn_rule Tryz.func78 rfl (by decide +kernel) rfl (fun w0 F0 lent β0 => ?_)
      repeat' (first | refine sC ?_ | ((with_reducible refine isAwp ?_); first | (refine sS ?_; intro Q' hn he hr) | refine sA ?_) | (refine sH ?_; clear hn he hr Q') | refine sO ?_ | ((conv => whnf); first | refine sK ?_ | (refine sB ?_; repeat' (first | refine sb0 ?_ | (refine sb2 ?_ ?_ <;> intro hb <;> try exact cls))) | (refine CutS.lo 1 rfl (by simp) ?_) | (refine ElemS.lit 0 rfl rfl ?_) | (refine ElemS.lit 1 rfl rfl ?_) | (refine ElemS.lit 2 rfl rfl ?_) | (refine ElemS.lit 3 rfl rfl ?_) | (refine draw_late 16 7 (by decide +kernel) (by decide +kernel) ?_) | (refine LateS.mk rfl ?_) | ((with_reducible refine isCall ?_); first | (refine call_pure (FnC.anyG (hsp)) rfl rfl ?_) | (refine call_pure (hrn) rfl rfl ?_) | (refine call_pure (FnC.anyG (hvs)) rfl rfl ?_)) | ((with_reducible refine isCallQ ?_); first | (refine callQ_pure (FnC.anyG (hsp)) rfl rfl ?_) | (refine callQ_pure (hrn) rfl rfl ?_) | (refine callQ_pure (FnC.anyG (hvs)) rfl rfl ?_)) | refine sP ?_ | (refine sE ?_; intro x hx) | (refine sF ?_; intro i y hi hy) | (refine sI ?_; intro i hi) | (refine sL ?_; intro hlen) | (refine sQ ?_; intro c hc hcm; try simp only [lnM, lnA, lnC, lnN] at hc) | (refine sX ?_; intro i1 i2 hi1 hi2 hj1 hj2; try simp only [cutL, lnM, lnA, lnC, lnN, lnT, lnD, lnR] at hi1 hi2 hj2) | refine sD ?_ | (refine ret_pick [] rfl rfl rfl ⟨?_, rfl⟩; conv => lhs; whnf) | (refine ret_pick [0] rfl rfl rfl ⟨rfl, ?_⟩) | (refine sH ?_; clear hn he hr Q')))
      all_goals first | rfl | (exfalso; omega)
    | true =>
      rw [hg] at hvs hS
      have hst := FnC.atE (c_impl_StarText (starOf a b c d e) hg) e1 e2
      have hP : readStarP s = if starText (starOf a b c d e) = s then some (starOf a b c d e) else none := by
        unfold readStarP
        rw [hw, hS]
        rfl
      by_cases ht : starText (starOf a b c d e) = s
      · rw [hP, if_pos ht]
        refine fn_rule Tryz.func78 rfl (by decide +kernel) rfl (fun w0 F0 lent β0 => ?_)
        repeat' (first | refine sC ?_ | ((with_reducible refine isAwp ?_); first | (refine sS ?_; intro Q' hn he hr) | refine sA ?_) | (refine sH ?_; clear hn he hr Q') | refine sO ?_ | ((conv => whnf); first | refine sK ?_ | (refine sB ?_; repeat' (first | refine sb0 ?_ | (refine sb2 ?_ ?_ <;> intro hb <;> try exact cls))) | (refine CutS.lo 1 rfl (by simp) ?_) | (refine ElemS.lit 0 rfl rfl ?_) | (refine ElemS.lit 1 rfl rfl ?_) | (refine ElemS.lit 2 rfl rfl ?_) | (refine ElemS.lit 3 rfl rfl ?_) | (refine draw_late 16 7 (by decide +kernel) (by decide +kernel) ?_) | (refine LateS.mk rfl ?_) | ((with_reducible refine isCall ?_); first | (refine call_pure (FnC.anyG (hsp)) rfl rfl ?_) | (refine call_pure (hrn) rfl rfl ?_) | (refine call_pure (FnC.anyG (hvs)) rfl rfl ?_) | (refine call_pure (hst) rfl rfl ?_)) | ((with_reducible refine isCallQ ?_); first | (refine callQ_pure (FnC.anyG (hsp)) rfl rfl ?_) | (refine callQ_pure (hrn) rfl rfl ?_) | (refine callQ_pure (FnC.anyG (hvs)) rfl rfl ?_) | (refine callQ_pure (hst) rfl rfl ?_)) | refine sP ?_ | (refine sE ?_; intro x hx) | (refine sF ?_; intro i y hi hy) | (refine sI ?_; intro i hi) | (refine sL ?_; intro hlen) | (refine sQ ?_; intro c hc hcm; try simp only [lnM, lnA, lnC, lnN] at hc) | (refine sX ?_; intro i1 i2 hi1 hi2 hj1 hj2; try simp only [cutL, lnM, lnA, lnC, lnN, lnT, lnD, lnR] at hi1 hi2 hj2) | refine sD ?_ | (refine ret_pick [] rfl rfl rfl ⟨?_, rfl⟩; conv => lhs; whnf) | (refine ret_pick [0] rfl rfl rfl ⟨rfl, ?_⟩) | (refine sH ?_; clear hn he hr Q')))
        all_goals first | rfl | exact absurd ht (by assumption) | (exfalso; omega)
      · rw [hP, if_neg ht]
        refine fn_rule Tryz.func78 rfl (by decide +kernel) rfl (fun w0 F0 lent β0 => ?_)
        repeat' (first | refine sC ?_ | ((with_reducible refine isAwp ?_); first | (refine sS ?_; intro Q' hn he hr) | refine sA ?_) | (refine sH ?_; clear hn he hr Q') | refine sO ?_ | ((conv => whnf); first | refine sK ?_ | (refine sB ?_; repeat' (first | refine sb0 ?_ | (refine sb2 ?_ ?_ <;> intro hb <;> try exact cls))) | (refine CutS.lo 1 rfl (by simp) ?_) | (refine ElemS.lit 0 rfl rfl ?_) | (refine ElemS.lit 1 rfl rfl ?_) | (refine ElemS.lit 2 rfl rfl ?_) | (refine ElemS.lit 3 rfl rfl ?_) | (refine draw_late 16 7 (by decide +kernel) (by decide +kernel) ?_) | (refine LateS.mk rfl ?_) | ((with_reducible refine isCall ?_); first | (refine call_pure (FnC.anyG (hsp)) rfl rfl ?_) | (refine call_pure (hrn) rfl rfl ?_) | (refine call_pure (FnC.anyG (hvs)) rfl rfl ?_) | (refine call_pure (hst) rfl rfl ?_)) | ((with_reducible refine isCallQ ?_); first | (refine callQ_pure (FnC.anyG (hsp)) rfl rfl ?_) | (refine callQ_pure (hrn) rfl rfl ?_) | (refine callQ_pure (FnC.anyG (hvs)) rfl rfl ?_) | (refine callQ_pure (hst) rfl rfl ?_)) | refine sP ?_ | (refine sE ?_; intro x hx) | (refine sF ?_; intro i y hi hy) | (refine sI ?_; intro i hi) | (refine sL ?_; intro hlen) | (refine sQ ?_; intro c hc hcm; try simp only [lnM, lnA, lnC, lnN] at hc) | (refine sX ?_; intro i1 i2 hi1 hi2 hj1 hj2; try simp only [cutL, lnM, lnA, lnC, lnN, lnT, lnD, lnR] at hi1 hi2 hj2) | refine sD ?_ | (refine ret_pick [] rfl rfl rfl ⟨?_, rfl⟩; conv => lhs; whnf) | (refine ret_pick [0] rfl rfl rfl ⟨rfl, ?_⟩) | (refine sH ?_; clear hn he hr Q')))
        all_goals first | rfl | exact absurd (by assumption) ht | (exfalso; omega)
end Go.Eng
