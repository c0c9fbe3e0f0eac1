/-
  The words of the most notes, by the program.
  No conditions.
-/
import Derived.Test.YtbpbhjlochijdaaDoorED
import Derived.Test.YtbpbhjlochijdaaDoorTW2
set_option linter.unusedVariables false
set_option linter.unusedSimpArgs false
set_option maxHeartbeats 4000000
namespace Go.Eng
open Go Go.RowKit Go.Proofs
set_option maxRecDepth 100000
theorem call_mk_hsW {P : Program} {w0 : World} {F0 lent : Nat → Prop} {β0 : Nat → Option Value} {env : List (Nat × D)} {nt : Nat} {objs : List Obj} {g : Nat → Option (List D)} {pin : Nat} {f : FuncId} {K : D → St → Prop} {d : D} {oo : List Obj} {n o s b : Nat} {T : TypeId} {es : List (List D)}
    (ho : objs.getD o .dead = .row T s es) (hb : b ≤ es.length) (hc : FnC P f g 0 [] [.sl s (es.take b)] (fun d' os => d' = d ∧ os = oo)) (hd : flat d = true) (hf : ∀ o ∈ oo, FlatO o) (hl : objs.length = n) (hk : K (ren (n + ·) d) ⟨env, nt, objs ++ oo, g, pin⟩) :
    CallS ⟨P, w0, F0, lent, β0⟩ f [.hs o s 0 b] ⟨env, nt, objs, g, pin⟩ K := by
  refine call_mk_look ?_ hd hf hl hk
  have e : view ⟨env, nt, objs, g, pin⟩ (.hs o s 0 b) = .sl s (es.take b) := by
    have h1 : (St.mk env nt objs g pin).obj o = .row T s es := ho
    show viewC ⟨env, nt, objs, g, pin⟩ (.hs o s 0 b) = _
    unfold viewC
    simp only [h1]
    have h2 : (Nat.beq s s && Nat.ble b es.length) = true := by simp [hb]
    rw [h2]
    simp
  show FnC P f g 0 [] [view ⟨env, nt, objs, g, pin⟩ (.hs o s 0 b)] _
  rw [e]
  exact hc
theorem c_slices_CloneW (a : List (List UInt8)) (hl : a.length ≤ 1048576) : FnC Tryd.prog 44 G0 0 [] [.sl 1 (a.map encS)] (fun d os => d = .h 0 ∧ os = [.row 9 1 (a.map encS)]) := by
  refine fn_rule Tryd.func44 rfl (by decide +kernel) rfl (fun w0 F0 lent β0 => ?_)
  repeat' (first | refine sC ?_ | ((with_reducible refine isAwp ?_); first | (refine sS ?_; intro Q' hn he hr) | refine sA ?_) | (refine sH ?_; clear hn he hr Q') | refine sO ?_ | ((conv => whnf); first | refine sK ?_ | (refine sB ?_; repeat' (first | refine sb0 ?_ | (refine sb2 ?_ ?_ <;> intro hb <;> try exact cls))) | (refine NilS.mk (fun hnil => ?_) ?_) | ((with_reducible refine isRet ?_); first | (refine ret_adopt 9 1 ?_; refine ret_pick [0] rfl rfl rfl ⟨rfl, ?_⟩)) | refine sP ?_ | (refine sE ?_; intro x hx) | (refine sF ?_; intro i y hi hy) | (refine sI ?_; intro i hi) | (refine sL ?_; intro hlen) | (refine sQ ?_; intro c hc hcm; try simp only [lnM, lnA, lnC, lnN] at hc) | (refine sX ?_; intro i1 i2 hi1 hi2 hj1 hj2; try simp only [cutL, lnM, lnA, lnC, lnN, lnT, lnD, lnR] at hi1 hi2 hj2) | refine sD ?_ | (refine ret_pick [] rfl rfl rfl ⟨?_, rfl⟩; conv => lhs; whnf) | (refine ret_pick [0] rfl rfl rfl ⟨rfl, ?_⟩) | (refine sH ?_; clear hn he hr Q')))
  · rw [hnil]; rfl
  · rfl
theorem c_slices_CloneT (a : List (List UInt8)) (m : Nat) (hl : a.length ≤ 1048576) : FnC Tryd.prog 44 G0 0 [] [.sl 1 ((a.map encS).take m)] (fun d os => d = .h 0 ∧ os = [.row 9 1 ((a.take m).map encS)]) := by
  rw [← List.map_take]
  exact c_slices_CloneW _ (by rw [List.length_take]; omega)
theorem CutS.min12 {n N : Nat} {K : Nat → Nat → Prop} (hn : N = n) (h : ∀ m, m = min n 12 → K 0 m) : CutS 0 (bif false then (if (12 : Int) > (N : Int) then 12 else (N : Int)) else (if (12 : Int) < (N : Int) then 12 else (N : Int))) n K := by
  subst hn
  have e : (bif false then (if (12 : Int) > (N : Int) then 12 else (N : Int)) else (if (12 : Int) < (N : Int) then 12 else (N : Int))) = ((min N 12 : Nat) : Int) := by
    show (if (12 : Int) < (N : Int) then 12 else (N : Int)) = _
    split <;> omega
  rw [e]
  exact CutS.mk ⟨Int.le_refl 0, by omega, by omega, by simpa using h _ rfl⟩
/-- How often each word stands in a list. -/
def cntF (l : List (List UInt8)) : List UInt8 → Int := fun y => ((l.count y : Nat) : Int)
theorem cntF_step (l : List (List UInt8)) (w : List UInt8) : (fun y => if y = w then cntF l w + 1 else cntF l y) = cntF (l ++ [w]) := by
  funext y
  unfold cntF
  by_cases h : y = w
  · subst h
    rw [if_pos rfl, List.count_append, List.count_singleton_self]
    omega
  · rw [if_neg h, List.count_append, List.count_singleton]
    have h2 : (w == y) = false := by simpa using fun e : w = y => h e.symm
    rw [h2]
    simp
def flatT (T : List (List (List UInt8))) (i : Nat) : List (List UInt8) := (T.take i).flatten
theorem flatT_step {T : List (List (List UInt8))} {i : Nat} {W : List (List UInt8)} (h : T[i]? = some W) : flatT T (i + 1) = flatT T i ++ W := by
  unfold flatT
  rw [List.take_add_one, h]
  simp
theorem flatT_len {a : List TNote} (hv : validNs a = true) : ∀ i, (flatT (tableW a) i).length ≤ 200 * i
  | 0 => by simp [flatT]
  | i + 1 => by
    have ih := flatT_len hv i
    cases hx : a[i]? with
    | none =>
      have : flatT (tableW a) (i + 1) = flatT (tableW a) i := by
        unfold flatT
        have h2 := List.getElem?_eq_none_iff.1 hx
        rw [List.take_of_length_le (by rw [tableW_len]; omega), List.take_of_length_le (by rw [tableW_len]; omega)]
      rw [this]; omega
    | some x =>
      rw [flatT_step (tableW_at hx), List.length_append]
      have h2 := (textB_facts (validNs_at hv hx).1).1
      have h3 := wordsL_len x.fText
      omega
theorem wordsL_nodup (s : List UInt8) : (wordsL s).Nodup := by
  have h : (wordsL s).Pairwise fun x y => Op.bytesLess x y = true := (chain_pairwise (lt := Op.bytesLess) less_trans).1 (foldS_chain _ rfl)
  exact h.imp fun h => less_ne h
theorem tableW_nodup (a : List TNote) : ∀ ws ∈ tableW a, ws.Nodup := fun ws h => by
  obtain ⟨x, _, rfl⟩ := List.mem_map.1 h
  exact wordsL_nodup _
/-- The words of the most notes. -/
def topWords (T : List (List (List UInt8))) : List (List UInt8) := (topD (cntT T) (allS T) T.length T.length).take 12
theorem mapOK : MapOK Tryd.prog 9 3 := ⟨k_law, Tryd.underlying9, Tryd.underlying3, k_zero⟩
theorem c_impl_TopicWords_bad (a : List TNote) (hv : validNs a = false) : FnC Tryd.prog 17 G0 0 [] [.sl 2 (a.map encNote)] (fun d os => d = .tup [.sl 1 [], .int .i64 1] ∧ os = []) := by
  refine fn_rule Tryd.func17 rfl (by decide +kernel) rfl (fun w0 F0 lent β0 => ?_)
  repeat' (first | refine sC ?_ | ((with_reducible refine isAwp ?_); first | (refine sS ?_; intro Q' hn he hr) | refine sA ?_) | (refine sH ?_; clear hn he hr Q') | refine sO ?_ | ((conv => whnf); first | refine sK ?_ | (refine sB ?_; repeat' (first | refine sb0 ?_ | (refine sb2 ?_ ?_ <;> intro hb <;> try exact cls))) | ((with_reducible refine isCall ?_); first | (refine call_pure (c_impl_ValidNotes _) rfl rfl ?_)) | ((with_reducible refine isCallQ ?_); first | (refine callQ_pure (c_impl_ValidNotes _) rfl rfl ?_)) | ((with_reducible refine isRet ?_); first | (refine ret_nil 1 ?_; refine ret_pick [] rfl rfl rfl ⟨?_, rfl⟩)) | refine sP ?_ | (refine sE ?_; intro x hx) | (refine sF ?_; intro i y hi hy) | (refine sI ?_; intro i hi) | (refine sL ?_; intro hlen) | (refine sQ ?_; intro c hc hcm; try simp only [lnM, lnA, lnC, lnN] at hc) | (refine sX ?_; intro i1 i2 hi1 hi2 hj1 hj2; try simp only [cutL, lnM, lnA, lnC, lnN, lnT, lnD, lnR] at hi1 hi2 hj2) | refine sD ?_ | (refine ret_pick [] rfl rfl rfl ⟨?_, rfl⟩; conv => lhs; whnf) | (refine ret_pick [0] rfl rfl rfl ⟨rfl, ?_⟩) | (refine sH ?_; clear hn he hr Q')))
  all_goals rfl
set_option maxHeartbeats 8000000 in
theorem c_impl_TopicWords_ok (a : List TNote) (hv : validNs a = true) : FnC Tryd.prog 17 G0 0 [] [.sl 2 (a.map encNote)] (fun d os => d = .tup [.h 0, .int .i64 0] ∧ os = [.row 9 1 ((topWords (tableW a)).map encS)]) := by
  have hl := (validNs_iff.1 hv).1
  have htl := tableW_len a
  refine fn_rule Tryd.func17 rfl (by decide +kernel) rfl (fun w0 F0 lent β0 => ?_)
  repeat' (first | refine sC ?_ | ((with_reducible refine isAwp ?_); first | (refine sS ?_; intro Q' hn he hr) | refine sA ?_) | (refine sH ?_; clear hn he hr Q') | refine sO ?_ | ((conv => whnf); first | refine sK ?_ | (refine sB ?_; repeat' (first | refine sb0 ?_ | (refine sb2 ?_ ?_ <;> intro hb <;> try exact cls))) | (refine AskS.mk ⟨mapOK, ?_⟩) | ((with_reducible refine isCall ?_); first | (refine call_pure (c_impl_ValidNotes _) rfl rfl ?_)) | ((with_reducible refine isCallQ ?_); first | (refine callQ_pure (c_impl_ValidNotes _) rfl rfl ?_)) | refine sP ?_ | (refine sE ?_; intro x hx) | (refine sF ?_; intro i y hi hy) | (refine sI ?_; intro i hi) | (refine sL ?_; intro hlen) | (refine sQ ?_; intro c hc hcm; try simp only [lnM, lnA, lnC, lnN] at hc) | (refine sX ?_; intro i1 i2 hi1 hi2 hj1 hj2; try simp only [cutL, lnM, lnA, lnC, lnN, lnT, lnD, lnR] at hi1 hi2 hj2) | refine sD ?_ | (refine ret_pick [] rfl rfl rfl ⟨?_, rfl⟩; conv => lhs; whnf) | (refine ret_pick [0] rfl rfl rfl ⟨rfl, ?_⟩) | (refine sH ?_; clear hn he hr Q')))
  refine loop_env (fun i : Nat => [(4,.hp 1 0),(5,.h 2),(14,.sl 2 (a.map encNote)),(15,.int .i64 a.length),(16,.int .i64 i)]) (fun i => [.map Tryd.prog 9 3 (flatT (tableW a) i).length (cntF (flatT (tableW a) i)), .box [.h 0], .row 9 1 ((seenU (flatT (tableW a) i)).map encS)]) (fun i => i ≤ a.length) (fun i => a.length - i) 0 (Nat.zero_le _) (by refine Weak.trans (weak_adopt 5 9 1 rfl rfl) (weak_to rfl rfl rfl ?_); exact ⟨rfl, rfl, rfl, rfl, rfl, trivial⟩) (fun i hi Q' hn he hr => ?_)
  by_cases hil : i < a.length
  · obtain ⟨x, hax⟩ : ∃ x, a[i]? = some x := ⟨_, List.getElem?_eq_getElem hil⟩
    have hTi := tableW_at hax
    obtain ⟨hq1, hq2⟩ := textB_facts (validNs_at hv hax).1
    have hwl := wordsL_len x.fText
    have hfl := flatT_len hv i
    have hfs := flatT_step hTi
    repeat' (first | refine sC ?_ | ((with_reducible refine isAwp ?_); first | (refine sS ?_; intro Q' hn he hr) | refine sA ?_) | (refine sH ?_; clear hn he hr Q') | refine sO ?_ | ((conv => whnf); first | refine sK ?_ | (refine sB ?_; repeat' (first | refine sb0 ?_ | (refine sb2 ?_ ?_ <;> intro hb <;> try exact cls))) | (refine ElemS.the hax ?_) | ((with_reducible refine isCall ?_); first | (refine call_mk (c_impl_wordsOf x.fText (by omega) hq2) rfl (by first | exact (rfl : _ = 0) | exact (rfl : _ = 1) | exact (rfl : _ = 2) | exact (rfl : _ = 3) | exact (rfl : _ = 4) | exact (rfl : _ = 5) | exact (rfl : _ = 6) | exact (rfl : _ = 7) | exact (rfl : _ = 8) | exact (rfl : _ = 9) | exact (rfl : _ = 10) | exact (rfl : _ = 11) | exact (rfl : _ = 12) | exact (rfl : _ = 13) | exact (rfl : _ = 14) | exact (rfl : _ = 15) | exact (rfl : _ = 16) | exact (rfl : _ = 17) | exact (rfl : _ = 18) | exact (rfl : _ = 19) | exact (rfl : _ = 20) | exact (rfl : _ = 21) | exact (rfl : _ = 22) | exact (rfl : _ = 23) | exact (rfl : _ = 24) | exact (rfl : _ = 25) | exact (rfl : _ = 26) | exact (rfl : _ = 27) | exact (rfl : _ = 28) | exact (rfl : _ = 29) | exact (rfl : _ = 30) | exact (rfl : _ = 31) | exact (rfl : _ = 32) | exact (rfl : _ = 33) | exact (rfl : _ = 34) | exact (rfl : _ = 35) | exact (rfl : _ = 36) | exact (rfl : _ = 37) | exact (rfl : _ = 38) | exact (rfl : _ = 39)) ?_)) | refine sP ?_ | (refine sE ?_; intro x hx) | (refine sF ?_; intro i y hi hy) | (refine sI ?_; intro i hi) | (refine sL ?_; intro hlen) | (refine sQ ?_; intro c hc hcm; try simp only [lnM, lnA, lnC, lnN] at hc) | (refine sX ?_; intro i1 i2 hi1 hi2 hj1 hj2; try simp only [cutL, lnM, lnA, lnC, lnN, lnT, lnD, lnR] at hi1 hi2 hj2) | refine sD ?_ | (refine ret_pick [] rfl rfl rfl ⟨?_, rfl⟩; conv => lhs; whnf) | (refine ret_pick [0] rfl rfl rfl ⟨rfl, ?_⟩) | (refine sH ?_; clear hn he hr Q')))
    generalize hWe : wordsL x.fText = W at *
    refine loop_env (fun j : Nat => [(4,.hp 1 0),(5,.h 2),(14,.sl 2 (a.map encNote)),(15,.int .i64 a.length),(16,.int .i64 i),(22,.h 3),(23,.int .i64 W.length),(24,.int .i64 j)]) (fun j => [.map Tryd.prog 9 3 (flatT (tableW a) i ++ W.take j).length (cntF (flatT (tableW a) i ++ W.take j)), .box [.h 0], .row 9 1 ((seenU (flatT (tableW a) i ++ W.take j)).map encS), .row 9 1 (W.map encS)]) (fun j => j ≤ W.length) (fun j => W.length - j) 0 (Nat.zero_le _) (by rw [List.take_zero, List.append_nil]; refine weak_selp [0, 1, 2, 4] rfl ?_ ?_ <;> (repeat' (first | exact trivial | rfl | refine And.intro ?_ ?_))) (fun j hj Q' hn he hr => ?_)
    by_cases hjl : j < W.length
    · obtain ⟨w, hWj⟩ : ∃ w, W[j]? = some w := ⟨_, List.getElem?_eq_getElem hjl⟩
      have htk : W.take (j + 1) = W.take j ++ [w] := by rw [List.take_add_one, hWj]; rfl
      generalize hle : flatT (tableW a) i ++ W.take j = l at *
      have hl' : flatT (tableW a) i ++ W.take (j + 1) = l ++ [w] := by rw [htk, ← List.append_assoc, hle]
      have hll : l.length ≤ 4200 := by
        rw [← hle, List.length_append, List.length_take]
        omega
      have hsl := seenU_len l
      have hcl : 0 ≤ cntF l w ∧ cntF l w ≤ l.length := by
        unfold cntF
        have := List.count_le_length (a := w) (l := l)
        omega
      have hB := cntF_step l w
      have hA : (l ++ [w]).length = l.length + 1 := by simp
      by_cases hs : (seenU l).contains w = true
      · have hv : ¬ cntF l w = 0 := fun e => by
          have h1 : l.count w = 0 := by unfold cntF at e; omega
          exact (count_seen.1 h1) hs
        have hC : seenU (l ++ [w]) = seenU l := by rw [seenU_snoc, if_pos hs]
        repeat' (first | refine sC ?_ | ((with_reducible refine isAwp ?_); first | (refine sS ?_; intro Q' hn he hr) | refine sA ?_) | (refine sH ?_; clear hn he hr Q') | refine sO ?_ | ((conv => whnf); first | refine sK ?_ | (refine sB ?_; repeat' (first | refine sb0 ?_ | (refine sb2 ?_ ?_ <;> intro hb <;> try exact cls))) | (refine ElemS.the hWj ?_) | (refine InS.nat (by rw [List.length_map]; omega) ?_) | (refine AskS.mk ⟨⟨rfl, Tryd.underlying69⟩, ?_⟩) | (refine ArithS.in64 (by omega) ?_) | (refine AskS.mk ⟨⟨⟨rfl, Tryd.underlying69⟩, by unfold maxLen; omega, WalkArith.wf_i64 (by omega)⟩, ?_⟩) | refine sP ?_ | (refine sE ?_; intro x hx) | (refine sF ?_; intro i y hi hy) | (refine sI ?_; intro i hi) | (refine sL ?_; intro hlen) | (refine sQ ?_; intro c hc hcm; try simp only [lnM, lnA, lnC, lnN] at hc) | (refine sX ?_; intro i1 i2 hi1 hi2 hj1 hj2; try simp only [cutL, lnM, lnA, lnC, lnN, lnT, lnD, lnR] at hi1 hi2 hj2) | refine sD ?_ | (refine ret_pick [] rfl rfl rfl ⟨?_, rfl⟩; conv => lhs; whnf) | (refine ret_pick [0] rfl rfl rfl ⟨rfl, ?_⟩) | (refine sH ?_; clear hn he hr Q')))
        all_goals
          refine ⟨j + 1, by omega, by omega, ?_⟩
          rw [hl', hA, hC, ← hB]
          exact (by refine weak_to rfl rfl rfl ?_; ((repeat' (first | exact trivial | refine And.intro ?_ ?_)) <;> (first | rfl | (conv => rhs; whnf) <;> (first | rfl | (refine congrArg (D.int _) ?_; omega)))))
      · have hv : cntF l w = 0 := by
          have h1 := count_seen.2 hs
          unfold cntF
          omega
        have hC : seenU (l ++ [w]) = seenU l ++ [w] := by rw [seenU_snoc, if_neg hs]
        have hD : (seenU l ++ [w]).map encS = (seenU l).map encS ++ [[.str w]] := by rw [List.map_append]; rfl
        repeat' (first | refine sC ?_ | ((with_reducible refine isAwp ?_); first | (refine sS ?_; intro Q' hn he hr) | refine sA ?_) | (refine sH ?_; clear hn he hr Q') | refine sO ?_ | ((conv => whnf); first | refine sK ?_ | (refine sB ?_; repeat' (first | refine sb0 ?_ | (refine sb2 ?_ ?_ <;> intro hb <;> try exact cls))) | (refine ElemS.the hWj ?_) | (refine InS.nat (by rw [List.length_map]; omega) ?_) | (refine AskS.mk ⟨⟨rfl, Tryd.underlying69⟩, ?_⟩) | (refine ArithS.in64 (by omega) ?_) | (refine AskS.mk ⟨⟨⟨rfl, Tryd.underlying69⟩, by unfold maxLen; omega, WalkArith.wf_i64 (by omega)⟩, ?_⟩) | refine sP ?_ | (refine sE ?_; intro x hx) | (refine sF ?_; intro i y hi hy) | (refine sI ?_; intro i hi) | (refine sL ?_; intro hlen) | (refine sQ ?_; intro c hc hcm; try simp only [lnM, lnA, lnC, lnN] at hc) | (refine sX ?_; intro i1 i2 hi1 hi2 hj1 hj2; try simp only [cutL, lnM, lnA, lnC, lnN, lnT, lnD, lnR] at hi1 hi2 hj2) | refine sD ?_ | (refine ret_pick [] rfl rfl rfl ⟨?_, rfl⟩; conv => lhs; whnf) | (refine ret_pick [0] rfl rfl rfl ⟨rfl, ?_⟩) | (refine sH ?_; clear hn he hr Q')))
        all_goals
          refine ⟨j + 1, by omega, by omega, ?_⟩
          rw [hl', hA, hC, hD, ← hB]
          refine weak_selp [0, 1, 2, 3] rfl ?_ ?_ <;> (repeat' (first | exact trivial | rfl | refine And.intro ?_ ?_))
    · obtain rfl : j = W.length := by omega
      repeat' (first | refine sC ?_ | ((with_reducible refine isAwp ?_); first | (refine sS ?_; intro Q' hn he hr) | refine sA ?_) | (refine sH ?_; clear hn he hr Q') | refine sO ?_ | ((conv => whnf); first | refine sK ?_ | (refine sB ?_; repeat' (first | refine sb0 ?_ | (refine sb2 ?_ ?_ <;> intro hb <;> try exact cls))) | refine sP ?_ | (refine sE ?_; intro x hx) | (refine sF ?_; intro i y hi hy) | (refine sI ?_; intro i hi) | (refine sL ?_; intro hlen) | (refine sQ ?_; intro c hc hcm; try simp only [lnM, lnA, lnC, lnN] at hc) | (refine sX ?_; intro i1 i2 hi1 hi2 hj1 hj2; try simp only [cutL, lnM, lnA, lnC, lnN, lnT, lnD, lnR] at hi1 hi2 hj2) | refine sD ?_ | (refine ret_pick [] rfl rfl rfl ⟨?_, rfl⟩; conv => lhs; whnf) | (refine ret_pick [0] rfl rfl rfl ⟨rfl, ?_⟩) | (refine sH ?_; clear hn he hr Q')))
      all_goals
        refine ⟨i + 1, by omega, by omega, ?_⟩
        rw [hfs, List.take_length]
        refine weak_selp [0, 1, 2] rfl ?_ ?_ <;> (repeat' (first | exact trivial | rfl | refine And.intro ?_ ?_))
  · obtain rfl : i = a.length := by omega
    have hft : flatT (tableW a) a.length = (tableW a).flatten := by
      unfold flatT
      rw [← htl, List.take_length]
    have hfl := flatT_len hv a.length
    have hsl := seenU_len (flatT (tableW a) a.length)
    have hcf : ∀ l, cntF (flatT (tableW a) a.length) l = (cntT (tableW a) l : Nat) := fun l => by
      rw [hft, ← cntT_count (tableW_nodup a)]
      rfl
    have hms : ((seenU (flatT (tableW a) a.length)).mergeSort fun x y => !ltT (cntT (tableW a)) y x) = topD (cntT (tableW a)) (allS (tableW a)) (tableW a).length (tableW a).length := by
      rw [hft]
      exact topic_law (tableW_nodup a)
    have hml : ((seenU (flatT (tableW a) a.length)).mergeSort fun x y => !ltT (cntT (tableW a)) y x).length = (seenU (flatT (tableW a) a.length)).length := List.length_mergeSort _
    generalize hTe : ((seenU (flatT (tableW a) a.length)).mergeSort fun x y => !ltT (cntT (tableW a)) y x) = M at *
    repeat' (first | refine sC ?_ | ((with_reducible refine isAwp ?_); first | (refine sS ?_; intro Q' hn he hr) | refine sA ?_) | (refine sH ?_; clear hn he hr Q') | refine sO ?_ | ((conv => whnf); first | refine sK ?_ | (refine sB ?_; repeat' (first | refine sb0 ?_ | (refine sb2 ?_ ?_ <;> intro hb <;> try exact cls))) | (refine CutS.min12 (by rw [List.length_map]) fun m hm => ?_; rw [List.length_map] at hm) | ((with_reducible refine isCall ?_); first | (refine call_sortF (cntT (tableW a)) rfl rfl rfl hcf (by omega) ?_; rw [hTe]) | (refine call_mk_hsW rfl (by rw [List.length_map]; omega) (c_slices_CloneT M _ (by omega)) rfl (flat_one (FlatO.map fun _ => rfl)) (by first | exact (rfl : _ = 0) | exact (rfl : _ = 1) | exact (rfl : _ = 2) | exact (rfl : _ = 3) | exact (rfl : _ = 4) | exact (rfl : _ = 5) | exact (rfl : _ = 6) | exact (rfl : _ = 7) | exact (rfl : _ = 8) | exact (rfl : _ = 9) | exact (rfl : _ = 10) | exact (rfl : _ = 11) | exact (rfl : _ = 12) | exact (rfl : _ = 13) | exact (rfl : _ = 14) | exact (rfl : _ = 15) | exact (rfl : _ = 16) | exact (rfl : _ = 17) | exact (rfl : _ = 18) | exact (rfl : _ = 19) | exact (rfl : _ = 20) | exact (rfl : _ = 21) | exact (rfl : _ = 22) | exact (rfl : _ = 23) | exact (rfl : _ = 24) | exact (rfl : _ = 25) | exact (rfl : _ = 26) | exact (rfl : _ = 27) | exact (rfl : _ = 28) | exact (rfl : _ = 29) | exact (rfl : _ = 30) | exact (rfl : _ = 31) | exact (rfl : _ = 32) | exact (rfl : _ = 33) | exact (rfl : _ = 34) | exact (rfl : _ = 35) | exact (rfl : _ = 36) | exact (rfl : _ = 37) | exact (rfl : _ = 38) | exact (rfl : _ = 39)) ?_)) | ((with_reducible refine isRet ?_); first | (refine ret_pick [3] rfl rfl rfl ⟨rfl, ?_⟩)) | refine sP ?_ | (refine sE ?_; intro x hx) | (refine sF ?_; intro i y hi hy) | (refine sI ?_; intro i hi) | (refine sL ?_; intro hlen) | (refine sQ ?_; intro c hc hcm; try simp only [lnM, lnA, lnC, lnN] at hc) | (refine sX ?_; intro i1 i2 hi1 hi2 hj1 hj2; try simp only [cutL, lnM, lnA, lnC, lnN, lnT, lnD, lnR] at hi1 hi2 hj2) | refine sD ?_ | (refine ret_pick [] rfl rfl rfl ⟨?_, rfl⟩; conv => lhs; whnf) | (refine ret_pick [0] rfl rfl rfl ⟨rfl, ?_⟩) | (refine sH ?_; clear hn he hr Q')))
    all_goals
      show [Obj.row 9 1 ((M.take m).map encS)] = [Obj.row 9 1 ((topWords (tableW a)).map encS)]
      have h9 : M.take m = topWords (tableW a) := by
        unfold topWords
        rw [← hms, hm]
        by_cases h12 : M.length ≤ 12
        · rw [Nat.min_eq_left h12, List.take_length, List.take_of_length_le h12]
        · rw [Nat.min_eq_right (by omega)]
      rw [h9]
end Go.Eng
