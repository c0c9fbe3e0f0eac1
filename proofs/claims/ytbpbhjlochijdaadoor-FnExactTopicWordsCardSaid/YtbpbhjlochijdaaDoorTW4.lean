/-
  The words of the most notes, by the reference.
  No conditions.
-/
import Derived.Test.YtbpbhjlochijdaaDoorED
import Derived.Test.YtbpbhjlochijdaaDoorTW3
set_option linter.unusedVariables false
set_option linter.unusedSimpArgs false
set_option maxHeartbeats 4000000
namespace Go.Eng
open Go Go.RowKit Go.Proofs
set_option maxRecDepth 100000
theorem c_spec_TopicWords_bad (a : List TNote) (hv : validNs a = false) : FnC Tryd.prog 15 G0 0 [] [.sl 2 (a.map encNote)] (fun d os => d = .tup [.sl 1 [], .int .i64 1] ∧ os = []) := by
  refine fn_rule Tryd.func15 rfl (by decide +kernel) rfl (fun w0 F0 lent β0 => ?_)
  repeat' (first | refine sC ?_ | ((with_reducible refine isAwp ?_); first | (refine sS ?_; intro Q' hn he hr) | refine sA ?_) | (refine sH ?_; clear hn he hr Q') | refine sO ?_ | ((conv => whnf); first | refine sK ?_ | (refine sB ?_; repeat' (first | refine sb0 ?_ | (refine sb2 ?_ ?_ <;> intro hb <;> try exact cls))) | ((with_reducible refine isCall ?_); first | (refine call_pure (c_spec_l30Ok _) rfl rfl ?_)) | ((with_reducible refine isCallQ ?_); first | (refine callQ_pure (c_spec_l30Ok _) rfl rfl ?_)) | ((with_reducible refine isRet ?_); first | (refine ret_nil 1 ?_; refine ret_pick [] rfl rfl rfl ⟨?_, rfl⟩)) | refine sP ?_ | (refine sE ?_; intro x hx) | (refine sF ?_; intro i y hi hy) | (refine sI ?_; intro i hi) | (refine sL ?_; intro hlen) | (refine sQ ?_; intro c hc hcm; try simp only [lnM, lnA, lnC, lnN] at hc) | (refine sX ?_; intro i1 i2 hi1 hi2 hj1 hj2; try simp only [cutL, lnM, lnA, lnC, lnN, lnT, lnD, lnR] at hi1 hi2 hj2) | refine sD ?_ | (refine ret_pick [] rfl rfl rfl ⟨?_, rfl⟩; conv => lhs; whnf) | (refine ret_pick [0] rfl rfl rfl ⟨rfl, ?_⟩) | (refine sH ?_; clear hn he hr Q')))
  all_goals rfl
def insT (l : List (List UInt8)) : List (List UInt8) := l.foldl insS []
theorem insT_snoc (l : List (List UInt8)) (w : List UInt8) : insT (l ++ [w]) = insS (insT l) w := by simp [insT]
def topP (T : List (List (List UInt8))) (k : Nat) : List (List UInt8) := (topD (cntT T) (allS T) T.length k).take 12
def topQ (T : List (List (List UInt8))) (k j : Nat) : List (List UInt8) := (topD (cntT T) (allS T) T.length k ++ ((allS T).take j).filter fun w => decide (cntT T w = T.length - k)).take 12
theorem topQ_zero (T : List (List (List UInt8))) (k : Nat) : topQ T k 0 = topP T k := by simp [topQ, topP]
theorem topQ_hit {T : List (List (List UInt8))} {k j : Nat} {w : List UInt8} (h : (allS T)[j]? = some w) (hc : cntT T w = T.length - k) (hl : (topQ T k j).length < 12) : topQ T k (j + 1) = topQ T k j ++ [w] := by
  have e : (allS T).take (j + 1) = (allS T).take j ++ [w] := by rw [List.take_add_one, h]; rfl
  unfold topQ at hl ⊢
  rw [e, List.filter_append, ← List.append_assoc]
  have e2 : [w].filter (fun w => decide (cntT T w = T.length - k)) = [w] := by simp [hc]
  rw [e2, takeN_snoc w hl]
theorem topQ_miss {T : List (List (List UInt8))} {k j : Nat} {w : List UInt8} (h : (allS T)[j]? = some w) (hc : ¬ cntT T w = T.length - k) : topQ T k (j + 1) = topQ T k j := by
  have e : (allS T).take (j + 1) = (allS T).take j ++ [w] := by rw [List.take_add_one, h]; rfl
  unfold topQ
  rw [e, List.filter_append]
  have e2 : [w].filter (fun w => decide (cntT T w = T.length - k)) = [] := by simp [hc]
  rw [e2, List.append_nil]
theorem topQ_end (T : List (List (List UInt8))) (k : Nat) : topQ T k (allS T).length = topP T (k + 1) := by
  unfold topQ topP
  rw [List.take_length, topD]
theorem topQ_full {T : List (List (List UInt8))} {k j : Nat} (hl : ¬ (topQ T k j).length < 12) : topQ T k j = topP T (k + 1) := by
  have e : (allS T).filter (fun w => decide (cntT T w = T.length - k)) = ((allS T).take j).filter (fun w => decide (cntT T w = T.length - k)) ++ ((allS T).drop j).filter (fun w => decide (cntT T w = T.length - k)) := by
    rw [← List.filter_append, List.take_append_drop]
  unfold topQ at hl ⊢
  unfold topP
  rw [topD, e, ← List.append_assoc, takeN_app _ hl]
set_option maxHeartbeats 8000000 in
theorem c_spec_TopicWords_ok (a : List TNote) (hv : validNs a = true) : FnC Tryd.prog 15 G0 0 [] [.sl 2 (a.map encNote)] (fun d os => d = .tup [.h 0, .int .i64 0] ∧ os = [.row 9 1 ((topWords (tableW a)).map encS)]) := by
  have hl := (validNs_iff.1 hv).1
  have htl := tableW_len a
  have hC2 := c_spec_l30Table a hv
  have hfl := flatT_len hv
  have hTw : ∀ (i : Nat) (W : List (List UInt8)), (tableW a)[i]? = some W → W.length ≤ 200 := fun i W h => by
    obtain ⟨x, hx, rfl⟩ := List.mem_map.1 (List.mem_of_getElem? h)
    obtain ⟨j, hj⟩ := List.getElem?_of_mem hx
    have h2 := (textB_facts (validNs_at hv hj).1).1
    have h3 := wordsL_len x.fText
    omega
  have hfa : insT (flatT (tableW a) (tableW a).length) = allS (tableW a) := by
    unfold insT allS flatT
    rw [List.take_length]
  generalize hTe : tableW a = T at *
  refine fn_rule Tryd.func15 rfl (by decide +kernel) rfl (fun w0 F0 lent β0 => ?_)
  repeat' (first | refine sC ?_ | ((with_reducible refine isAwp ?_); first | (refine sS ?_; intro Q' hn he hr) | refine sA ?_) | (refine sH ?_; clear hn he hr Q') | refine sO ?_ | ((conv => whnf); first | refine sK ?_ | (refine sB ?_; repeat' (first | refine sb0 ?_ | (refine sb2 ?_ ?_ <;> intro hb <;> try exact cls))) | ((with_reducible refine isCall ?_); first | (refine call_pure (c_spec_l30Ok _) rfl rfl ?_) | (refine call_mk hC2 rfl (by first | exact (rfl : _ = 0) | exact (rfl : _ = 1) | exact (rfl : _ = 2) | exact (rfl : _ = 3) | exact (rfl : _ = 4) | exact (rfl : _ = 5) | exact (rfl : _ = 6) | exact (rfl : _ = 7) | exact (rfl : _ = 8) | exact (rfl : _ = 9) | exact (rfl : _ = 10) | exact (rfl : _ = 11) | exact (rfl : _ = 12) | exact (rfl : _ = 13) | exact (rfl : _ = 14) | exact (rfl : _ = 15) | exact (rfl : _ = 16) | exact (rfl : _ = 17) | exact (rfl : _ = 18) | exact (rfl : _ = 19) | exact (rfl : _ = 20) | exact (rfl : _ = 21) | exact (rfl : _ = 22) | exact (rfl : _ = 23) | exact (rfl : _ = 24) | exact (rfl : _ = 25) | exact (rfl : _ = 26) | exact (rfl : _ = 27) | exact (rfl : _ = 28) | exact (rfl : _ = 29) | exact (rfl : _ = 30) | exact (rfl : _ = 31) | exact (rfl : _ = 32) | exact (rfl : _ = 33) | exact (rfl : _ = 34) | exact (rfl : _ = 35) | exact (rfl : _ = 36) | exact (rfl : _ = 37) | exact (rfl : _ = 38) | exact (rfl : _ = 39)) ?_)) | ((with_reducible refine isCallQ ?_); first | (refine callQ_pure (c_spec_l30Ok _) rfl rfl ?_)) | refine sP ?_ | (refine sE ?_; intro x hx) | (refine sF ?_; intro i y hi hy) | (refine sI ?_; intro i hi) | (refine sL ?_; intro hlen) | (refine sQ ?_; intro c hc hcm; try simp only [lnM, lnA, lnC, lnN] at hc) | (refine sX ?_; intro i1 i2 hi1 hi2 hj1 hj2; try simp only [cutL, lnM, lnA, lnC, lnN, lnT, lnD, lnR] at hi1 hi2 hj2) | refine sD ?_ | (refine ret_pick [] rfl rfl rfl ⟨?_, rfl⟩; conv => lhs; whnf) | (refine ret_pick [0] rfl rfl rfl ⟨rfl, ?_⟩) | (refine sH ?_; clear hn he hr Q')))
  refine loop_env (fun i : Nat => [(4,.h 0),(5,.h 1),(6,.int .i64 i)]) (fun i => [.row 36 1 (T.map encW), .row 9 1 ((insT (flatT T i)).map encS)]) (fun i => i ≤ T.length) (fun i => T.length - i) 0 (Nat.zero_le _) (by refine weak_to rfl rfl rfl ?_; ((repeat' (first | exact trivial | refine And.intro ?_ ?_)) <;> (first | rfl | (conv => rhs; whnf) <;> (first | rfl | (refine congrArg (D.int _) ?_; omega))))) (fun i hi Q' hn he hr => ?_)
  by_cases hil : i < T.length
  · obtain ⟨W, hTi⟩ : ∃ W, T[i]? = some W := ⟨_, List.getElem?_eq_getElem hil⟩
    have hWl := hTw i W hTi
    have hfs := flatT_step hTi
    have hfi := hfl i
    repeat' (first | refine sC ?_ | ((with_reducible refine isAwp ?_); first | (refine sS ?_; intro Q' hn he hr) | refine sA ?_) | (refine sH ?_; clear hn he hr Q') | refine sO ?_ | ((conv => whnf); first | refine sK ?_ | (refine sB ?_; repeat' (first | refine sb0 ?_ | (refine sb2 ?_ ?_ <;> intro hb <;> try exact cls))) | refine sP ?_ | (refine sE ?_; intro x hx) | (refine sF ?_; intro i y hi hy) | (refine sI ?_; intro i hi) | (refine sL ?_; intro hlen) | (refine sQ ?_; intro c hc hcm; try simp only [lnM, lnA, lnC, lnN] at hc) | (refine sX ?_; intro i1 i2 hi1 hi2 hj1 hj2; try simp only [cutL, lnM, lnA, lnC, lnN, lnT, lnD, lnR] at hi1 hi2 hj2) | refine sD ?_ | (refine ret_pick [] rfl rfl rfl ⟨?_, rfl⟩; conv => lhs; whnf) | (refine ret_pick [0] rfl rfl rfl ⟨rfl, ?_⟩) | (refine sH ?_; clear hn he hr Q')))
    refine loop_env (fun j : Nat => [(4,.h 0),(5,.h 1),(6,.int .i64 i),(7,.int .i64 j)]) (fun j => [.row 36 1 (T.map encW), .row 9 1 ((insT (flatT T i ++ W.take j)).map encS)]) (fun j => j ≤ W.length) (fun j => W.length - j) 0 (Nat.zero_le _) (by rw [List.take_zero, List.append_nil]; exact (by refine weak_to rfl rfl rfl ?_; ((repeat' (first | exact trivial | refine And.intro ?_ ?_)) <;> (first | rfl | (conv => rhs; whnf) <;> (first | rfl | (refine congrArg (D.int _) ?_; omega)))))) (fun j hj Q' hn he hr => ?_)
    by_cases hjl : j < W.length
    · obtain ⟨w, hWj⟩ : ∃ w, W[j]? = some w := ⟨_, List.getElem?_eq_getElem hjl⟩
      have htk : W.take (j + 1) = W.take j ++ [w] := by rw [List.take_add_one, hWj]; rfl
      generalize hle : flatT T i ++ W.take j = l at *
      have hl' : flatT T i ++ W.take (j + 1) = l ++ [w] := by rw [htk, ← List.append_assoc, hle]
      have hll : l.length ≤ 4200 := by
        rw [← hle, List.length_append, List.length_take]
        omega
      have hil2 : (insT l).length ≤ l.length := by
        have := foldS_len l []
        simpa [insT] using this
      have hP := c_spec_l30Put (insT l) w (foldS_chain l rfl) (by omega)
      rw [← insT_snoc] at hP
      repeat' (first | refine sC ?_ | ((with_reducible refine isAwp ?_); first | (refine sS ?_; intro Q' hn he hr) | refine sA ?_) | (refine sH ?_; clear hn he hr Q') | refine sO ?_ | ((conv => whnf); first | refine sK ?_ | (refine sB ?_; repeat' (first | refine sb0 ?_ | (refine sb2 ?_ ?_ <;> intro hb <;> try exact cls))) | (refine ElemS.the hTi ?_) | (refine ElemS.the hWj ?_) | (refine InS.nat (by rw [List.length_map]; omega) ?_) | ((with_reducible refine isCall ?_); first | (refine call_mk_look hP rfl (flat_one (FlatO.map fun _ => rfl)) (by first | exact (rfl : _ = 0) | exact (rfl : _ = 1) | exact (rfl : _ = 2) | exact (rfl : _ = 3) | exact (rfl : _ = 4) | exact (rfl : _ = 5) | exact (rfl : _ = 6) | exact (rfl : _ = 7) | exact (rfl : _ = 8) | exact (rfl : _ = 9) | exact (rfl : _ = 10) | exact (rfl : _ = 11) | exact (rfl : _ = 12) | exact (rfl : _ = 13) | exact (rfl : _ = 14) | exact (rfl : _ = 15) | exact (rfl : _ = 16) | exact (rfl : _ = 17) | exact (rfl : _ = 18) | exact (rfl : _ = 19) | exact (rfl : _ = 20) | exact (rfl : _ = 21) | exact (rfl : _ = 22) | exact (rfl : _ = 23) | exact (rfl : _ = 24) | exact (rfl : _ = 25) | exact (rfl : _ = 26) | exact (rfl : _ = 27) | exact (rfl : _ = 28) | exact (rfl : _ = 29) | exact (rfl : _ = 30) | exact (rfl : _ = 31) | exact (rfl : _ = 32) | exact (rfl : _ = 33) | exact (rfl : _ = 34) | exact (rfl : _ = 35) | exact (rfl : _ = 36) | exact (rfl : _ = 37) | exact (rfl : _ = 38) | exact (rfl : _ = 39)) ?_)) | refine sP ?_ | (refine sE ?_; intro x hx) | (refine sF ?_; intro i y hi hy) | (refine sI ?_; intro i hi) | (refine sL ?_; intro hlen) | (refine sQ ?_; intro c hc hcm; try simp only [lnM, lnA, lnC, lnN] at hc) | (refine sX ?_; intro i1 i2 hi1 hi2 hj1 hj2; try simp only [cutL, lnM, lnA, lnC, lnN, lnT, lnD, lnR] at hi1 hi2 hj2) | refine sD ?_ | (refine ret_pick [] rfl rfl rfl ⟨?_, rfl⟩; conv => lhs; whnf) | (refine ret_pick [0] rfl rfl rfl ⟨rfl, ?_⟩) | (refine sH ?_; clear hn he hr Q')))
      all_goals
        refine ⟨j + 1, by omega, by omega, ?_⟩
        rw [hl']
        refine weak_selp [0, 2] rfl ?_ ?_ <;> (repeat' (first | exact trivial | rfl | refine And.intro ?_ ?_))
    · obtain rfl : j = W.length := by omega
      repeat' (first | refine sC ?_ | ((with_reducible refine isAwp ?_); first | (refine sS ?_; intro Q' hn he hr) | refine sA ?_) | (refine sH ?_; clear hn he hr Q') | refine sO ?_ | ((conv => whnf); first | refine sK ?_ | (refine sB ?_; repeat' (first | refine sb0 ?_ | (refine sb2 ?_ ?_ <;> intro hb <;> try exact cls))) | (refine ElemS.the hTi ?_) | (refine InS.nat (by rw [List.length_map]; omega) ?_) | refine sP ?_ | (refine sE ?_; intro x hx) | (refine sF ?_; intro i y hi hy) | (refine sI ?_; intro i hi) | (refine sL ?_; intro hlen) | (refine sQ ?_; intro c hc hcm; try simp only [lnM, lnA, lnC, lnN] at hc) | (refine sX ?_; intro i1 i2 hi1 hi2 hj1 hj2; try simp only [cutL, lnM, lnA, lnC, lnN, lnT, lnD, lnR] at hi1 hi2 hj2) | refine sD ?_ | (refine ret_pick [] rfl rfl rfl ⟨?_, rfl⟩; conv => lhs; whnf) | (refine ret_pick [0] rfl rfl rfl ⟨rfl, ?_⟩) | (refine sH ?_; clear hn he hr Q')))
      all_goals
        refine ⟨i + 1, by omega, by omega, ?_⟩
        rw [hfs, List.take_length]
        exact (by refine weak_to rfl rfl rfl ?_; ((repeat' (first | exact trivial | refine And.intro ?_ ?_)) <;> (first | rfl | (conv => rhs; whnf) <;> (first | rfl | (refine congrArg (D.int _) ?_; omega)))))
  · obtain rfl : i = T.length := by omega
    rw [hfa]
    have hSl : (allS T).length ≤ 4200 := by
      have h1 := foldS_len (flatT T T.length) []
      have h2 := hfl T.length
      have h3 : (insT (flatT T T.length)).length ≤ (flatT T T.length).length := by simpa [insT] using h1
      rw [hfa] at h3
      omega
    repeat' (first | refine sC ?_ | ((with_reducible refine isAwp ?_); first | (refine sS ?_; intro Q' hn he hr) | refine sA ?_) | (refine sH ?_; clear hn he hr Q') | refine sO ?_ | ((conv => whnf); first | refine sK ?_ | (refine sB ?_; repeat' (first | refine sb0 ?_ | (refine sb2 ?_ ?_ <;> intro hb <;> try exact cls))) | refine sP ?_ | (refine sE ?_; intro x hx) | (refine sF ?_; intro i y hi hy) | (refine sI ?_; intro i hi) | (refine sL ?_; intro hlen) | (refine sQ ?_; intro c hc hcm; try simp only [lnM, lnA, lnC, lnN] at hc) | (refine sX ?_; intro i1 i2 hi1 hi2 hj1 hj2; try simp only [cutL, lnM, lnA, lnC, lnN, lnT, lnD, lnR] at hi1 hi2 hj2) | refine sD ?_ | (refine ret_pick [] rfl rfl rfl ⟨?_, rfl⟩; conv => lhs; whnf) | (refine ret_pick [0] rfl rfl rfl ⟨rfl, ?_⟩) | (refine sH ?_; clear hn he hr Q')))
    refine loop_env2 (fun (m k : Nat) => [(4,.h 0),(5,.h 1),(8,.h 2),(9,.int .i64 m)]) (fun m k => [.row 36 1 (T.map encW), .row 9 1 ((allS T).map encS), .row 9 1 ((topP T k).map encS)]) (fun m k => m + k = T.length) (fun m k => m) T.length 0 (by omega) (by refine weak_to rfl rfl rfl ?_; ((repeat' (first | exact trivial | refine And.intro ?_ ?_)) <;> (first | rfl | (conv => rhs; whnf) <;> (first | rfl | (refine congrArg (D.int _) ?_; omega))))) (fun m k hk Q' hn he hr => ?_)
    by_cases hm0 : 0 < m
    · have hpl : ∀ j, (topQ T k j).length ≤ 12 := fun j => by unfold topQ; rw [List.length_take]; omega
      repeat' (first | refine sC ?_ | ((with_reducible refine isAwp ?_); first | (refine sS ?_; intro Q' hn he hr) | refine sA ?_) | (refine sH ?_; clear hn he hr Q') | refine sO ?_ | ((conv => whnf); first | refine sK ?_ | (refine sB ?_; repeat' (first | refine sb0 ?_ | (refine sb2 ?_ ?_ <;> intro hb <;> try exact cls))) | refine sP ?_ | (refine sE ?_; intro x hx) | (refine sF ?_; intro i y hi hy) | (refine sI ?_; intro i hi) | (refine sL ?_; intro hlen) | (refine sQ ?_; intro c hc hcm; try simp only [lnM, lnA, lnC, lnN] at hc) | (refine sX ?_; intro i1 i2 hi1 hi2 hj1 hj2; try simp only [cutL, lnM, lnA, lnC, lnN, lnT, lnD, lnR] at hi1 hi2 hj2) | refine sD ?_ | (refine ret_pick [] rfl rfl rfl ⟨?_, rfl⟩; conv => lhs; whnf) | (refine ret_pick [0] rfl rfl rfl ⟨rfl, ?_⟩) | (refine sH ?_; clear hn he hr Q')))
      refine loop_env (fun j : Nat => [(4,.h 0),(5,.h 1),(8,.h 2),(9,.int .i64 m),(10,.int .i64 j)]) (fun j => [.row 36 1 (T.map encW), .row 9 1 ((allS T).map encS), .row 9 1 ((topQ T k j).map encS)]) (fun j => j ≤ (allS T).length) (fun j => (allS T).length - j) 0 (Nat.zero_le _) (by rw [topQ_zero]; exact (by refine weak_to rfl rfl rfl ?_; ((repeat' (first | exact trivial | refine And.intro ?_ ?_)) <;> (first | rfl | (conv => rhs; whnf) <;> (first | rfl | (refine congrArg (D.int _) ?_; omega)))))) (fun j hj Q' hn he hr => ?_)
      have hpj := hpl j
      by_cases hgo : j < (allS T).length ∧ (topQ T k j).length < 12
      · obtain ⟨w, hSj⟩ : ∃ w, (allS T)[j]? = some w := ⟨_, List.getElem?_eq_getElem hgo.1⟩
        have hWi := c_spec_l30With T w (by omega)
        have hNl := natI_len (withAll T w)
        have hcw : cntT T w = (withAll T w).length := rfl
        by_cases hc : cntT T w = T.length - k
        · have hq := topQ_hit hSj hc hgo.2
          have hD : (topQ T k j ++ [w]).map encS = (topQ T k j).map encS ++ [[.str w]] := by rw [List.map_append]; rfl
          repeat' (first | refine sC ?_ | ((with_reducible refine isAwp ?_); first | (refine sS ?_; intro Q' hn he hr) | refine sA ?_) | (refine sH ?_; clear hn he hr Q') | refine sO ?_ | ((conv => whnf); first | refine sK ?_ | (refine sB ?_; repeat' (first | refine sb0 ?_ | (refine sb2 ?_ ?_ <;> intro hb <;> try exact cls))) | (refine ElemS.the hSj ?_) | (refine InS.nat (by rw [List.length_map]; omega) ?_) | ((with_reducible refine isCall ?_); first | (refine call_mk_look hWi rfl (flat_one (FlatO.map fun _ => rfl)) (by first | exact (rfl : _ = 0) | exact (rfl : _ = 1) | exact (rfl : _ = 2) | exact (rfl : _ = 3) | exact (rfl : _ = 4) | exact (rfl : _ = 5) | exact (rfl : _ = 6) | exact (rfl : _ = 7) | exact (rfl : _ = 8) | exact (rfl : _ = 9) | exact (rfl : _ = 10) | exact (rfl : _ = 11) | exact (rfl : _ = 12) | exact (rfl : _ = 13) | exact (rfl : _ = 14) | exact (rfl : _ = 15) | exact (rfl : _ = 16) | exact (rfl : _ = 17) | exact (rfl : _ = 18) | exact (rfl : _ = 19) | exact (rfl : _ = 20) | exact (rfl : _ = 21) | exact (rfl : _ = 22) | exact (rfl : _ = 23) | exact (rfl : _ = 24) | exact (rfl : _ = 25) | exact (rfl : _ = 26) | exact (rfl : _ = 27) | exact (rfl : _ = 28) | exact (rfl : _ = 29) | exact (rfl : _ = 30) | exact (rfl : _ = 31) | exact (rfl : _ = 32) | exact (rfl : _ = 33) | exact (rfl : _ = 34) | exact (rfl : _ = 35) | exact (rfl : _ = 36) | exact (rfl : _ = 37) | exact (rfl : _ = 38) | exact (rfl : _ = 39)) ?_)) | refine sP ?_ | (refine sE ?_; intro x hx) | (refine sF ?_; intro i y hi hy) | (refine sI ?_; intro i hi) | (refine sL ?_; intro hlen) | (refine sQ ?_; intro c hc hcm; try simp only [lnM, lnA, lnC, lnN] at hc) | (refine sX ?_; intro i1 i2 hi1 hi2 hj1 hj2; try simp only [cutL, lnM, lnA, lnC, lnN, lnT, lnD, lnR] at hi1 hi2 hj2) | refine sD ?_ | (refine ret_pick [] rfl rfl rfl ⟨?_, rfl⟩; conv => lhs; whnf) | (refine ret_pick [0] rfl rfl rfl ⟨rfl, ?_⟩) | (refine sH ?_; clear hn he hr Q')))
          all_goals first
            | (exfalso; omega)
            | (refine ⟨j + 1, by omega, by omega, ?_⟩
               rw [hq, hD]
               refine weak_selp [0, 1, 2] rfl ?_ ?_ <;> (repeat' (first | exact trivial | rfl | refine And.intro ?_ ?_)))
            | trace_state
        · have hq := topQ_miss hSj hc
          repeat' (first | refine sC ?_ | ((with_reducible refine isAwp ?_); first | (refine sS ?_; intro Q' hn he hr) | refine sA ?_) | (refine sH ?_; clear hn he hr Q') | refine sO ?_ | ((conv => whnf); first | refine sK ?_ | (refine sB ?_; repeat' (first | refine sb0 ?_ | (refine sb2 ?_ ?_ <;> intro hb <;> try exact cls))) | (refine ElemS.the hSj ?_) | (refine InS.nat (by rw [List.length_map]; omega) ?_) | ((with_reducible refine isCall ?_); first | (refine call_mk_look hWi rfl (flat_one (FlatO.map fun _ => rfl)) (by first | exact (rfl : _ = 0) | exact (rfl : _ = 1) | exact (rfl : _ = 2) | exact (rfl : _ = 3) | exact (rfl : _ = 4) | exact (rfl : _ = 5) | exact (rfl : _ = 6) | exact (rfl : _ = 7) | exact (rfl : _ = 8) | exact (rfl : _ = 9) | exact (rfl : _ = 10) | exact (rfl : _ = 11) | exact (rfl : _ = 12) | exact (rfl : _ = 13) | exact (rfl : _ = 14) | exact (rfl : _ = 15) | exact (rfl : _ = 16) | exact (rfl : _ = 17) | exact (rfl : _ = 18) | exact (rfl : _ = 19) | exact (rfl : _ = 20) | exact (rfl : _ = 21) | exact (rfl : _ = 22) | exact (rfl : _ = 23) | exact (rfl : _ = 24) | exact (rfl : _ = 25) | exact (rfl : _ = 26) | exact (rfl : _ = 27) | exact (rfl : _ = 28) | exact (rfl : _ = 29) | exact (rfl : _ = 30) | exact (rfl : _ = 31) | exact (rfl : _ = 32) | exact (rfl : _ = 33) | exact (rfl : _ = 34) | exact (rfl : _ = 35) | exact (rfl : _ = 36) | exact (rfl : _ = 37) | exact (rfl : _ = 38) | exact (rfl : _ = 39)) ?_)) | refine sP ?_ | (refine sE ?_; intro x hx) | (refine sF ?_; intro i y hi hy) | (refine sI ?_; intro i hi) | (refine sL ?_; intro hlen) | (refine sQ ?_; intro c hc hcm; try simp only [lnM, lnA, lnC, lnN] at hc) | (refine sX ?_; intro i1 i2 hi1 hi2 hj1 hj2; try simp only [cutL, lnM, lnA, lnC, lnN, lnT, lnD, lnR] at hi1 hi2 hj2) | refine sD ?_ | (refine ret_pick [] rfl rfl rfl ⟨?_, rfl⟩; conv => lhs; whnf) | (refine ret_pick [0] rfl rfl rfl ⟨rfl, ?_⟩) | (refine sH ?_; clear hn he hr Q')))
          all_goals first
            | (exfalso; omega)
            | (refine ⟨j + 1, by omega, by omega, ?_⟩
               rw [hq]
               refine weak_selp [0, 1, 2] rfl ?_ ?_ <;> (repeat' (first | exact trivial | rfl | refine And.intro ?_ ?_)))
            | trace_state
      · have hq : topQ T k j = topP T (k + 1) := by
          by_cases hj2 : j < (allS T).length
          · exact topQ_full fun h => hgo ⟨hj2, h⟩
          · obtain rfl : j = (allS T).length := by omega
            exact topQ_end T k
        repeat' (first | refine sC ?_ | ((with_reducible refine isAwp ?_); first | (refine sS ?_; intro Q' hn he hr) | refine sA ?_) | (refine sH ?_; clear hn he hr Q') | refine sO ?_ | ((conv => whnf); first | refine sK ?_ | (refine sB ?_; repeat' (first | refine sb0 ?_ | (refine sb2 ?_ ?_ <;> intro hb <;> try exact cls))) | refine sP ?_ | (refine sE ?_; intro x hx) | (refine sF ?_; intro i y hi hy) | (refine sI ?_; intro i hi) | (refine sL ?_; intro hlen) | (refine sQ ?_; intro c hc hcm; try simp only [lnM, lnA, lnC, lnN] at hc) | (refine sX ?_; intro i1 i2 hi1 hi2 hj1 hj2; try simp only [cutL, lnM, lnA, lnC, lnN, lnT, lnD, lnR] at hi1 hi2 hj2) | refine sD ?_ | (refine ret_pick [] rfl rfl rfl ⟨?_, rfl⟩; conv => lhs; whnf) | (refine ret_pick [0] rfl rfl rfl ⟨rfl, ?_⟩) | (refine sH ?_; clear hn he hr Q')))
        all_goals first
          | (exfalso; omega)
          | (refine ⟨m - 1, k + 1, by omega, by omega, ?_⟩
             rw [← hq]
             refine weak_selp [0, 1, 2] rfl ?_ ?_ <;> (repeat' (first | exact trivial | rfl | refine And.intro ?_ ?_)) <;> ((conv => rhs; whnf); refine congrArg (D.int _) ?_; omega))
          | trace_state
    · obtain rfl : m = 0 := by omega
      obtain rfl : k = T.length := by omega
      repeat' (first | refine sC ?_ | ((with_reducible refine isAwp ?_); first | (refine sS ?_; intro Q' hn he hr) | refine sA ?_) | (refine sH ?_; clear hn he hr Q') | refine sO ?_ | ((conv => whnf); first | refine sK ?_ | (refine sB ?_; repeat' (first | refine sb0 ?_ | (refine sb2 ?_ ?_ <;> intro hb <;> try exact cls))) | ((with_reducible refine isRet ?_); first | (refine ret_pick [2] rfl rfl rfl ⟨rfl, ?_⟩)) | refine sP ?_ | (refine sE ?_; intro x hx) | (refine sF ?_; intro i y hi hy) | (refine sI ?_; intro i hi) | (refine sL ?_; intro hlen) | (refine sQ ?_; intro c hc hcm; try simp only [lnM, lnA, lnC, lnN] at hc) | (refine sX ?_; intro i1 i2 hi1 hi2 hj1 hj2; try simp only [cutL, lnM, lnA, lnC, lnN, lnT, lnD, lnR] at hi1 hi2 hj2) | refine sD ?_ | (refine ret_pick [] rfl rfl rfl ⟨?_, rfl⟩; conv => lhs; whnf) | (refine ret_pick [0] rfl rfl rfl ⟨rfl, ?_⟩) | (refine sH ?_; clear hn he hr Q')))
      all_goals rfl
end Go.Eng
