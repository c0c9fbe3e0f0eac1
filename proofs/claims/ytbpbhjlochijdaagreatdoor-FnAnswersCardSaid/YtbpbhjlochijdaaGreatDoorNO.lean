/-
  The program's RankNotes.
  No conditions.
-/
import Derived.Test.YtbpbhjlochijdaaGreatDoorED
import Derived.Test.YtbpbhjlochijdaaGreatDoorNQ
import Derived.Test.YtbpbhjlochijdaaGreatDoorNY
set_option linter.unusedVariables false
set_option linter.unusedSimpArgs false
set_option maxHeartbeats 4000000
namespace Go.Eng
open Go Go.RowKit Go.Proofs
set_option maxRecDepth 100000
theorem c_impl_RankNotes_bad (a : List TNote) (q : List UInt8) (hv : validNs a = false) : FnC Tryz.prog 7 G0 0 [] [.sl 2 (a.map encNote), .str q] (fun d os => d = .tup [.sl 1 [], .int .i64 1] ∧ os = []) := by
  refine fn_rule Tryz.func7 rfl (by decide +kernel) rfl (fun w0 F0 lent β0 => ?_)
  repeat' (first | refine sC ?_ | ((with_reducible refine isAwp ?_); first | (refine sS ?_; intro Q' hn he hr) | refine sA ?_) | (refine sH ?_; clear hn he hr Q') | refine sO ?_ | ((conv => whnf); first | refine sK ?_ | (refine sB ?_; repeat' (first | refine sb0 ?_ | (refine sb2 ?_ ?_ <;> intro hb <;> try exact cls))) | ((with_reducible refine isCall ?_); first | (refine call_pure (c_impl_ValidNotes _) rfl rfl ?_)) | ((with_reducible refine isCallQ ?_); first | (refine callQ_pure (c_impl_ValidNotes _) rfl rfl ?_)) | ((with_reducible refine isRet ?_); first | (refine ret_nil 1 ?_; refine ret_pick [] rfl rfl rfl ⟨?_, rfl⟩)) | refine sP ?_ | (refine sE ?_; intro x hx) | (refine sF ?_; intro i y hi hy) | (refine sI ?_; intro i hi) | (refine sL ?_; intro hlen) | (refine sQ ?_; intro c hc hcm; try simp only [lnM, lnA, lnC, lnN] at hc) | (refine sX ?_; intro i1 i2 hi1 hi2 hj1 hj2; try simp only [cutL, lnM, lnA, lnC, lnN, lnT, lnD, lnR] at hi1 hi2 hj2) | refine sD ?_ | (refine ret_pick [] rfl rfl rfl ⟨?_, rfl⟩; conv => lhs; whnf) | (refine ret_pick [0] rfl rfl rfl ⟨rfl, ?_⟩) | (refine sH ?_; clear hn he hr Q')))
  all_goals rfl
theorem c_impl_RankNotes_out (a : List TNote) (q : List UInt8) (hv : validNs a = true) (hv2 : textB q = false) : FnC Tryz.prog 7 G0 0 [] [.sl 2 (a.map encNote), .str q] (fun d os => d = .tup [.sl 1 [], .int .i64 2] ∧ os = []) := by
  refine fn_rule Tryz.func7 rfl (by decide +kernel) rfl (fun w0 F0 lent β0 => ?_)
  repeat' (first | refine sC ?_ | ((with_reducible refine isAwp ?_); first | (refine sS ?_; intro Q' hn he hr) | refine sA ?_) | (refine sH ?_; clear hn he hr Q') | refine sO ?_ | ((conv => whnf); first | refine sK ?_ | (refine sB ?_; repeat' (first | refine sb0 ?_ | (refine sb2 ?_ ?_ <;> intro hb <;> try exact cls))) | ((with_reducible refine isCall ?_); first | (refine call_pure (c_impl_ValidNotes _) rfl rfl ?_) | (refine call_pure (c_impl_isNoteText _) rfl rfl ?_)) | ((with_reducible refine isCallQ ?_); first | (refine callQ_pure (c_impl_ValidNotes _) rfl rfl ?_) | (refine callQ_pure (c_impl_isNoteText _) rfl rfl ?_)) | ((with_reducible refine isRet ?_); first | (refine ret_nil 1 ?_; refine ret_pick [] rfl rfl rfl ⟨?_, rfl⟩)) | refine sP ?_ | (refine sE ?_; intro x hx) | (refine sF ?_; intro i y hi hy) | (refine sI ?_; intro i hi) | (refine sL ?_; intro hlen) | (refine sQ ?_; intro c hc hcm; try simp only [lnM, lnA, lnC, lnN] at hc) | (refine sX ?_; intro i1 i2 hi1 hi2 hj1 hj2; try simp only [cutL, lnM, lnA, lnC, lnN, lnT, lnD, lnR] at hi1 hi2 hj2) | refine sD ?_ | (refine ret_pick [] rfl rfl rfl ⟨?_, rfl⟩; conv => lhs; whnf) | (refine ret_pick [0] rfl rfl rfl ⟨rfl, ?_⟩) | (refine sH ?_; clear hn he hr Q')))
  all_goals rfl
def sizesW (T : List (List (List UInt8))) : List Nat := T.map List.length
theorem sizesW_len (T : List (List (List UInt8))) : (sizesW T).length = T.length := by simp [sizesW]
set_option maxHeartbeats 8000000 in
theorem c_impl_RankNotes_ok (a : List TNote) (q : List UInt8) (hv : validNs a = true) (hv2 : textB q = true) : FnC Tryz.prog 7 G0 0 [] [.sl 2 (a.map encNote), .str q] (fun d os => d = .tup [.h 0, .int .i64 0] ∧ os = [.row 2 1 ((natI (rankN (scoresW (tableW a) (wordsL q)) (sizesW (tableW a)) a.length)).map encI)]) := by
  obtain ⟨hl, hval⟩ := validNs_iff.1 hv
  have htl := tableW_len a
  have hzl := sizesW_len (tableW a)
  have hC := c_impl_noteScores a q hv hv2
  have hsl := scoresW_len (tableW a) (wordsL q)
  have hsr : ∀ (k : Nat) (s : Int), (scoresW (tableW a) (wordsL q))[k]? = some s → 0 ≤ s := fun k s h => by
    have hk : k < (tableW a).length := by have := (List.getElem?_eq_some_iff.1 h).1; omega
    rw [scoresW_at hk] at h
    cases h
    exact (scoreW_range (T := tableW a) (by omega) k (wordsL q)).1
  have hzs : ∀ (k : Nat) (x : TNote), a[k]? = some x → (sizesW (tableW a))[k]? = some (wordsL x.fText).length := fun k x h => by
    unfold sizesW
    rw [List.getElem?_map, tableW_at h]
    rfl
  generalize hS : scoresW (tableW a) (wordsL q) = S at *
  generalize hZ : sizesW (tableW a) = Z at *
  have hzn := natI_len Z
  refine fn_rule Tryz.func7 rfl (by decide +kernel) rfl (fun w0 F0 lent β0 => ?_)
  repeat' (first | refine sC ?_ | ((with_reducible refine isAwp ?_); first | (refine sS ?_; intro Q' hn he hr) | refine sA ?_) | (refine sH ?_; clear hn he hr Q') | refine sO ?_ | ((conv => whnf); first | refine sK ?_ | (refine sB ?_; repeat' (first | refine sb0 ?_ | (refine sb2 ?_ ?_ <;> intro hb <;> try exact cls))) | (refine MakeS.nat rfl (by omega) ?_) | ((with_reducible refine isCall ?_); first | (refine call_pure (c_impl_ValidNotes _) rfl rfl ?_) | (refine call_pure (c_impl_isNoteText _) rfl rfl ?_) | (refine call_mk_look hC rfl (flat_one (FlatO.map fun _ => rfl)) (by first | exact (rfl : _ = 0) | exact (rfl : _ = 1) | exact (rfl : _ = 2) | exact (rfl : _ = 3) | exact (rfl : _ = 4) | exact (rfl : _ = 5) | exact (rfl : _ = 6) | exact (rfl : _ = 7) | exact (rfl : _ = 8) | exact (rfl : _ = 9) | exact (rfl : _ = 10) | exact (rfl : _ = 11) | exact (rfl : _ = 12) | exact (rfl : _ = 13) | exact (rfl : _ = 14) | exact (rfl : _ = 15) | exact (rfl : _ = 16) | exact (rfl : _ = 17) | exact (rfl : _ = 18) | exact (rfl : _ = 19) | exact (rfl : _ = 20) | exact (rfl : _ = 21) | exact (rfl : _ = 22) | exact (rfl : _ = 23) | exact (rfl : _ = 24) | exact (rfl : _ = 25) | exact (rfl : _ = 26) | exact (rfl : _ = 27) | exact (rfl : _ = 28) | exact (rfl : _ = 29) | exact (rfl : _ = 30) | exact (rfl : _ = 31) | exact (rfl : _ = 32) | exact (rfl : _ = 33) | exact (rfl : _ = 34) | exact (rfl : _ = 35) | exact (rfl : _ = 36) | exact (rfl : _ = 37) | exact (rfl : _ = 38) | exact (rfl : _ = 39)) ?_)) | ((with_reducible refine isCallQ ?_); first | (refine callQ_pure (c_impl_ValidNotes _) rfl rfl ?_) | (refine callQ_pure (c_impl_isNoteText _) rfl rfl ?_)) | refine sP ?_ | (refine sE ?_; intro x hx) | (refine sF ?_; intro i y hi hy) | (refine sI ?_; intro i hi) | (refine sL ?_; intro hlen) | (refine sQ ?_; intro c hc hcm; try simp only [lnM, lnA, lnC, lnN] at hc) | (refine sX ?_; intro i1 i2 hi1 hi2 hj1 hj2; try simp only [cutL, lnM, lnA, lnC, lnN, lnT, lnD, lnR] at hi1 hi2 hj2) | refine sD ?_ | (refine ret_pick [] rfl rfl rfl ⟨?_, rfl⟩; conv => lhs; whnf) | (refine ret_pick [0] rfl rfl rfl ⟨rfl, ?_⟩) | (refine sH ?_; clear hn he hr Q')))
  refine loop_env (fun k : Nat => [(6,.hp 1 0),(7,.h 4),(8,.hp 3 0),(23,.sl 2 (a.map encNote)),(24,.int .i64 a.length),(25,.int .i64 k)]) (fun k => [.row 2 1 (S.map encI), .box [.h 0], .row 3 1 (fill encI [.int .i64 0] (natI Z) k), .box [.h 2], .row 2 1 ((natI (fitN S k)).map encI)]) (fun k => k ≤ a.length) (fun k => a.length - k) 0 (by omega) (by refine Weak.trans (weak_adopt 7 2 1 rfl rfl) (weak_to rfl rfl (by rw [fill_zero, show (natI Z).length = a.length by omega]; rfl) ?_); exact ⟨rfl, rfl, rfl, rfl, rfl, rfl, trivial⟩) (fun k hk Q' hn he hr => ?_)
  have hfl : (fill encI [.int .i64 0] (natI Z) k).length = a.length := by rw [fill_length _ _ _ (by omega)]; omega
  have hft := fitN_len S k
  have hfn := natI_len (fitN S k)
  by_cases hkl : k < a.length
  · obtain ⟨x, hax⟩ : ∃ x, a[k]? = some x := ⟨_, List.getElem?_eq_getElem hkl⟩
    obtain ⟨s, hSk⟩ : ∃ s, S[k]? = some s := ⟨_, List.getElem?_eq_getElem (by omega)⟩
    have hs0 := hsr k s hSk
    have hZk := hzs k x hax
    have hvx := hval.1 x (List.mem_of_getElem? hax)
    simp only [validN, Bool.and_eq_true] at hvx
    obtain ⟨hx1, hx2⟩ := textB_facts hvx.2.1
    have hCw := c_impl_wordsOf x.fText (by omega) hx2
    generalize hW : wordsL x.fText = W at *
    repeat' (first | refine sC ?_ | ((with_reducible refine isAwp ?_); first | (refine sS ?_; intro Q' hn he hr) | refine sA ?_) | (refine sH ?_; clear hn he hr Q') | refine sO ?_ | ((conv => whnf); first | refine sK ?_ | (refine sB ?_; repeat' (first | refine sb0 ?_ | (refine sb2 ?_ ?_ <;> intro hb <;> try exact cls))) | (refine ElemS.the hax ?_) | (refine ElemS.the hSk ?_) | (refine draw_cut (γ := Unit) (fun _ => [(6,.hp 1 0),(7,.h 4),(8,.hp 3 0),(9,.int .i64 k),(23,.sl 2 (a.map encNote)),(24,.int .i64 a.length),(25,.int .i64 k)]) (fun _ => [.row 2 1 (S.map encI), .box [.h 0], .row 3 1 (fill encI [.int .i64 0] (natI Z) (k + 1)), .box [.h 2], .row 2 1 ((natI (fitN S k)).map encI)]) (fun _ => True) (draw_tree3 (.cons 1 (.fork 0 (.line [2,3,4,5,6,7]) (.cons 2 (.fork 0 (.line [3,4,5,6,7]) (.cons 3 (.fork 0 (.line [4,5,6,7]) (.cons 4 (.fork 0 (.line [5,6,7]) (.line [5,0,6,7]))))))))) (by decide +kernel) (by decide +kernel) (by decide +kernel) ?_) (fun _ _ => ?_)) | ((with_reducible refine isTree ?_); first | refine treeK_cons rfl ?_ | refine treeK_fork rfl ?_ ?_ | refine treeK_nil ?_) | ((with_reducible refine isCall ?_); first | (refine call_mk_look hCw rfl (flat_one (FlatO.map fun _ => rfl)) (by first | exact (rfl : _ = 0) | exact (rfl : _ = 1) | exact (rfl : _ = 2) | exact (rfl : _ = 3) | exact (rfl : _ = 4) | exact (rfl : _ = 5) | exact (rfl : _ = 6) | exact (rfl : _ = 7) | exact (rfl : _ = 8) | exact (rfl : _ = 9) | exact (rfl : _ = 10) | exact (rfl : _ = 11) | exact (rfl : _ = 12) | exact (rfl : _ = 13) | exact (rfl : _ = 14) | exact (rfl : _ = 15) | exact (rfl : _ = 16) | exact (rfl : _ = 17) | exact (rfl : _ = 18) | exact (rfl : _ = 19) | exact (rfl : _ = 20) | exact (rfl : _ = 21) | exact (rfl : _ = 22) | exact (rfl : _ = 23) | exact (rfl : _ = 24) | exact (rfl : _ = 25) | exact (rfl : _ = 26) | exact (rfl : _ = 27) | exact (rfl : _ = 28) | exact (rfl : _ = 29) | exact (rfl : _ = 30) | exact (rfl : _ = 31) | exact (rfl : _ = 32) | exact (rfl : _ = 33) | exact (rfl : _ = 34) | exact (rfl : _ = 35) | exact (rfl : _ = 36) | exact (rfl : _ = 37) | exact (rfl : _ = 38) | exact (rfl : _ = 39)) ?_)) | refine sP ?_ | (refine sE ?_; intro x hx) | (refine sF ?_; intro i y hi hy) | (refine sI ?_; intro i hi) | (refine sL ?_; intro hlen) | (refine sQ ?_; intro c hc hcm; try simp only [lnM, lnA, lnC, lnN] at hc) | (refine sX ?_; intro i1 i2 hi1 hi2 hj1 hj2; try simp only [cutL, lnM, lnA, lnC, lnN, lnT, lnD, lnR] at hi1 hi2 hj2) | refine sD ?_ | (refine ret_pick [] rfl rfl rfl ⟨?_, rfl⟩; conv => lhs; whnf) | (refine ret_pick [0] rfl rfl rfl ⟨rfl, ?_⟩) | (refine sH ?_; clear hn he hr Q')))
    all_goals try (refine ⟨(), trivial, ?_⟩; exact (by refine weak_to rfl rfl (by rw [← fill_set _ _ _ (natI_at hZk)]; rfl) ?_; ((repeat' (first | exact trivial | refine And.intro ?_ ?_)) <;> (first | rfl | (conv => rhs; whnf) <;> (first | rfl | (refine congrArg (D.int _) ?_; omega))))))
    · have e1 : natI (fitN S (k + 1)) = natI (fitN S k) ++ [(k : Int)] := by rw [fitN_succ, getD_of hSk, if_neg (by omega)]; simp [natI]
      exact ⟨k + 1, by omega, by omega, (by refine weak_to rfl rfl (by rw [e1, List.map_append]; rfl) ?_; ((repeat' (first | exact trivial | refine And.intro ?_ ?_)) <;> (first | rfl | (conv => rhs; whnf) <;> (first | rfl | (refine congrArg (D.int _) ?_; omega)))))⟩
    · have e1 : natI (fitN S (k + 1)) = natI (fitN S k) := by rw [fitN_succ, getD_of hSk, if_pos (by omega), List.append_nil]
      exact ⟨k + 1, by omega, by omega, (by refine weak_to rfl rfl (by rw [e1]; rfl) ?_; ((repeat' (first | exact trivial | refine And.intro ?_ ?_)) <;> (first | rfl | (conv => rhs; whnf) <;> (first | rfl | (refine congrArg (D.int _) ?_; omega)))))⟩
  · obtain rfl : k = a.length := by omega
    have hfa := fill_all encI [.int .i64 0] (natI Z)
    rw [show (natI Z).length = a.length by omega] at hfa
    have hCs := c_SortStable S Z (fitN S a.length) (by omega) (fun i hi => by have := (fitN_mem.1 hi).1; omega) (by omega)
    rw [hfa]
    repeat' (first | refine sC ?_ | ((with_reducible refine isAwp ?_); first | (refine sS ?_; intro Q' hn he hr) | refine sA ?_) | (refine sH ?_; clear hn he hr Q') | refine sO ?_ | ((conv => whnf); first | refine sK ?_ | (refine sB ?_; repeat' (first | refine sb0 ?_ | (refine sb2 ?_ ?_ <;> intro hb <;> try exact cls))) | ((with_reducible refine isCall ?_); first | (refine call_lendv 4 rfl hCs (FlatO.map fun _ => rfl) ?_)) | ((with_reducible refine isRet ?_); first | (refine ret_pick [4] rfl rfl rfl ⟨rfl, ?_⟩)) | refine sP ?_ | (refine sE ?_; intro x hx) | (refine sF ?_; intro i y hi hy) | (refine sI ?_; intro i hi) | (refine sL ?_; intro hlen) | (refine sQ ?_; intro c hc hcm; try simp only [lnM, lnA, lnC, lnN] at hc) | (refine sX ?_; intro i1 i2 hi1 hi2 hj1 hj2; try simp only [cutL, lnM, lnA, lnC, lnN, lnT, lnD, lnR] at hi1 hi2 hj2) | refine sD ?_ | (refine ret_pick [] rfl rfl rfl ⟨?_, rfl⟩; conv => lhs; whnf) | (refine ret_pick [0] rfl rfl rfl ⟨rfl, ?_⟩) | (refine sH ?_; clear hn he hr Q')))
    all_goals rfl
end Go.Eng
