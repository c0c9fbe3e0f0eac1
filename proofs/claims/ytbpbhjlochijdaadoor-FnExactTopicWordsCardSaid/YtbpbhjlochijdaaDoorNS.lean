/-
  What the scaffolding functions of a law do with notes.
  No conditions.
-/
import Derived.Test.YtbpbhjlochijdaaDoorED
import Derived.Test.YtbpbhjlochijdaaDoorP1
import Derived.Test.YtbpbhjlochijdaaDoorTN
set_option linter.unusedVariables false
set_option linter.unusedSimpArgs false
set_option maxHeartbeats 4000000
namespace Go.Eng
open Go Go.RowKit Go.Proofs
set_option maxRecDepth 100000
theorem c_szNote (x : TNote) (left : Int) (h0 : 0 ≤ left) (h1 : left ≤ 1048576) : FnC Tryd.prog 31 G0 0 [] [.agg (encNote x), .int .i64 left] (fun d os => d = .int .i64 (if x.sz ≤ left then left - x.sz else -1) ∧ os = []) := by
  refine fn_rule Tryd.func31 rfl (by decide +kernel) rfl (fun w0 F0 lent β0 => ?_)
  repeat' (first | refine sC ?_ | ((with_reducible refine isAwp ?_); first | (refine sS ?_; intro Q' hn he hr) | refine sA ?_) | (refine sH ?_; clear hn he hr Q') | refine sO ?_ | ((conv => whnf); first | refine sK ?_ | (refine sB ?_; repeat' (first | refine sb0 ?_ | (refine sb2 ?_ ?_ <;> intro hb <;> try exact cls))) | refine sP ?_ | (refine sE ?_; intro x hx) | (refine sF ?_; intro i y hi hy) | (refine sI ?_; intro i hi) | (refine sL ?_; intro hlen) | (refine sQ ?_; intro c hc hcm; try simp only [lnM, lnA, lnC, lnN] at hc) | (refine sX ?_; intro i1 i2 hi1 hi2 hj1 hj2; try simp only [cutL, lnM, lnA, lnC, lnN, lnT, lnD, lnR] at hi1 hi2 hj2) | refine sD ?_ | (refine ret_pick [] rfl rfl rfl ⟨?_, rfl⟩; conv => lhs; whnf) | (refine ret_pick [0] rfl rfl rfl ⟨rfl, ?_⟩) | (refine sH ?_; clear hn he hr Q')))
  all_goals simp only [TNote.sz]
  all_goals (first | rfl | (refine congrArg (D.int _) ?_; first | rfl | omega | (split <;> omega)))
theorem c_szNoteS (a : List (TNote)) (left : Int) (h0 : 0 ≤ left) (h1 : left ≤ 1048576) : FnC Tryd.prog 14 G0 0 [] [.sl 2 (a.map encNote), .int .i64 left] (fun d os => d = .int .i64 (if szL TNote.sz a ≤ left then left - szL TNote.sz a else -1) ∧ os = []) := by
  have hz0 := szTo_zero TNote.sz a
  have hmono : ∀ k, k ≤ a.length → szTo TNote.sz a k ≤ szL TNote.sz a := fun k h => szTo_mono _ h
  have hm0 := hmono 0 (Nat.zero_le _)
  refine fn_rule Tryd.func14 rfl (by decide +kernel) rfl (fun w0 F0 lent β0 => ?_)
  repeat' (first | refine sC ?_ | ((with_reducible refine isAwp ?_); first | (refine sS ?_; intro Q' hn he hr) | refine sA ?_) | (refine sH ?_; clear hn he hr Q') | refine sO ?_ | ((conv => whnf); first | refine sK ?_ | (refine sB ?_; repeat' (first | refine sb0 ?_ | (refine sb2 ?_ ?_ <;> intro hb <;> try exact cls))) | refine sP ?_ | (refine sE ?_; intro x hx) | (refine sF ?_; intro i y hi hy) | (refine sI ?_; intro i hi) | (refine sL ?_; intro hlen) | (refine sQ ?_; intro c hc hcm; try simp only [lnM, lnA, lnC, lnN] at hc) | (refine sX ?_; intro i1 i2 hi1 hi2 hj1 hj2; try simp only [cutL, lnM, lnA, lnC, lnN, lnT, lnD, lnR] at hi1 hi2 hj2) | refine sD ?_ | (refine ret_pick [] rfl rfl rfl ⟨?_, rfl⟩; conv => lhs; whnf) | (refine ret_pick [0] rfl rfl rfl ⟨rfl, ?_⟩) | (refine sH ?_; clear hn he hr Q')))
  · (first | rfl | (refine congrArg (D.int _) ?_; first | rfl | omega | (split <;> omega)))
  · refine loop_env (fun k : Nat => [(0,.sl 2 (a.map encNote)),(1,.int .i64 (left - szTo TNote.sz a k)),(5,.int .i64 k)]) (fun _ => []) (fun k => k ≤ a.length ∧ (szTo TNote.sz a k : Int) ≤ left) (fun k => a.length - k) 0 ⟨by omega, by omega⟩ (by refine weak_to rfl rfl rfl ?_; ((repeat' (first | exact trivial | refine And.intro ?_ ?_)) <;> (first | rfl | (conv => rhs; whnf) <;> (first | rfl | (refine congrArg (D.int _) ?_; omega))))) (fun k hk Q' hn he hr => ?_)
    repeat' (first | refine sC ?_ | ((with_reducible refine isAwp ?_); first | (refine sS ?_; intro Q' hn he hr) | refine sA ?_) | (refine sH ?_; clear hn he hr Q') | refine sO ?_ | ((conv => whnf); first | refine sK ?_ | (refine sB ?_; repeat' (first | refine sb0 ?_ | (refine sb2 ?_ ?_ <;> intro hb <;> try exact cls))) | ((with_reducible refine isCall ?_); first | (refine call_pure (c_szNote x _ (by omega) (by omega)) rfl rfl ?_)) | refine sP ?_ | (refine sE ?_; intro x hx) | (refine sF ?_; intro i y hi hy) | (refine sI ?_; intro i hi) | (refine sL ?_; intro hlen) | (refine sQ ?_; intro c hc hcm; try simp only [lnM, lnA, lnC, lnN] at hc) | (refine sX ?_; intro i1 i2 hi1 hi2 hj1 hj2; try simp only [cutL, lnM, lnA, lnC, lnN, lnT, lnD, lnR] at hi1 hi2 hj2) | refine sD ?_ | (refine ret_pick [] rfl rfl rfl ⟨?_, rfl⟩; conv => lhs; whnf) | (refine ret_pick [0] rfl rfl rfl ⟨rfl, ?_⟩) | (refine sH ?_; clear hn he hr Q')))
    · have h2 := hmono (k + 1) (by omega)
      rw [szTo_succ ‹a[k]? = some _›] at h2
      split at hb <;> (first | rfl | (refine congrArg (D.int _) ?_; first | rfl | omega | (split <;> omega)))
    · have h2 := szTo_succ (f := TNote.sz) ‹a[k]? = some _›
      split at hb
      · rename_i h3
        refine ⟨k + 1, ⟨by omega, by omega⟩, by omega, ?_⟩
        rw [if_pos h3]
        exact (by refine weak_to rfl rfl rfl ?_; ((repeat' (first | exact trivial | refine And.intro ?_ ?_)) <;> (first | rfl | (conv => rhs; whnf) <;> (first | rfl | (refine congrArg (D.int _) ?_; omega)))))
      · omega
    · have h2 : k = a.length := by omega
      subst h2
      have h3 := szL_all TNote.sz a
      (first | rfl | (refine congrArg (D.int _) ?_; first | rfl | omega | (split <;> omega)))
theorem c_toNote (x : TNote) : FnC Tryd.prog 36 G0 0 [] [.agg (encNote x)] (fun d os => d = .agg (encNote x) ∧ os = []) := by
  refine fn_rule Tryd.func36 rfl (by decide +kernel) rfl (fun w0 F0 lent β0 => ?_)
  repeat' (first | refine sC ?_ | ((with_reducible refine isAwp ?_); first | (refine sS ?_; intro Q' hn he hr) | refine sA ?_) | (refine sH ?_; clear hn he hr Q') | refine sO ?_ | ((conv => whnf); first | refine sK ?_ | (refine sB ?_; repeat' (first | refine sb0 ?_ | (refine sb2 ?_ ?_ <;> intro hb <;> try exact cls))) | refine sP ?_ | (refine sE ?_; intro x hx) | (refine sF ?_; intro i y hi hy) | (refine sI ?_; intro i hi) | (refine sL ?_; intro hlen) | (refine sQ ?_; intro c hc hcm; try simp only [lnM, lnA, lnC, lnN] at hc) | (refine sX ?_; intro i1 i2 hi1 hi2 hj1 hj2; try simp only [cutL, lnM, lnA, lnC, lnN, lnT, lnD, lnR] at hi1 hi2 hj2) | refine sD ?_ | (refine ret_pick [] rfl rfl rfl ⟨?_, rfl⟩; conv => lhs; whnf) | (refine ret_pick [0] rfl rfl rfl ⟨rfl, ?_⟩) | (refine sH ?_; clear hn he hr Q')))
  all_goals rfl
def zNote : List D := [.str [], .str []]
theorem c_toNoteS (a : List (TNote)) (hs : a.length ≤ 1048576) : FnC Tryd.prog 16 G0 0 [] [.sl 2 (a.map encNote)] (fun d os => d = .h 0 ∧ os = [.row 67 2 (a.map encNote)]) := by
  refine fn_rule Tryd.func16 rfl (by decide +kernel) rfl (fun w0 F0 lent β0 => ?_)
  repeat' (first | refine sC ?_ | ((with_reducible refine isAwp ?_); first | (refine sS ?_; intro Q' hn he hr) | refine sA ?_) | (refine sH ?_; clear hn he hr Q') | refine sO ?_ | ((conv => whnf); first | refine sK ?_ | (refine sB ?_; repeat' (first | refine sb0 ?_ | (refine sb2 ?_ ?_ <;> intro hb <;> try exact cls))) | refine sP ?_ | (refine sE ?_; intro x hx) | (refine sF ?_; intro i y hi hy) | (refine sI ?_; intro i hi) | (refine sL ?_; intro hlen) | (refine sQ ?_; intro c hc hcm; try simp only [lnM, lnA, lnC, lnN] at hc) | (refine sX ?_; intro i1 i2 hi1 hi2 hj1 hj2; try simp only [cutL, lnM, lnA, lnC, lnN, lnT, lnD, lnR] at hi1 hi2 hj2) | refine sD ?_ | (refine ret_pick [] rfl rfl rfl ⟨?_, rfl⟩; conv => lhs; whnf) | (refine ret_pick [0] rfl rfl rfl ⟨rfl, ?_⟩) | (refine sH ?_; clear hn he hr Q')))
  refine loop_env (fun k : Nat => [(0,.sl 2 (a.map encNote)),(3,.h 0),(4,.int .i64 k)]) (fun k => [.row 67 2 (fill encNote zNote a k)]) (fun k => k ≤ a.length) (fun k => a.length - k) 0 (by omega) (by refine weak_to rfl rfl ?_ ?_; rw [fill_zero]; rfl; exact ⟨rfl, rfl, rfl, trivial⟩) (fun k hk Q' hn he hr => ?_)
  repeat' (first | refine sC ?_ | ((with_reducible refine isAwp ?_); first | (refine sS ?_; intro Q' hn he hr) | refine sA ?_) | (refine sH ?_; clear hn he hr Q') | refine sO ?_ | ((conv => whnf); first | refine sK ?_ | (refine sB ?_; repeat' (first | refine sb0 ?_ | (refine sb2 ?_ ?_ <;> intro hb <;> try exact cls))) | ((with_reducible refine isCall ?_); first | (refine call_pure (c_toNote x) rfl rfl ?_)) | ((with_reducible refine isRet ?_); first | (refine ret_pick [0] rfl rfl rfl ⟨rfl, ?_⟩)) | refine sP ?_ | (refine sE ?_; intro x hx) | (refine sF ?_; intro i y hi hy) | (refine sI ?_; intro i hi) | (refine sL ?_; intro hlen) | (refine sQ ?_; intro c hc hcm; try simp only [lnM, lnA, lnC, lnN] at hc) | (refine sX ?_; intro i1 i2 hi1 hi2 hj1 hj2; try simp only [cutL, lnM, lnA, lnC, lnN, lnT, lnD, lnR] at hi1 hi2 hj2) | refine sD ?_ | (refine ret_pick [] rfl rfl rfl ⟨?_, rfl⟩; conv => lhs; whnf) | (refine ret_pick [0] rfl rfl rfl ⟨rfl, ?_⟩) | (refine sH ?_; clear hn he hr Q')))
  · refine ⟨k + 1, by omega, by omega, ?_⟩
    refine weak_to rfl rfl ?_ ⟨rfl, rfl, rfl, trivial⟩
    rw [← fill_set _ _ _ hx]
    rfl
  · have h2 : k = a.length := by omega
    subst h2
    rw [← fill_all encNote zNote a]
    rfl
theorem c_eqNote (a b : TNote) : FnC Tryd.prog 45 G0 0 [] [.agg (encNote a), .agg (encNote b)] (fun d os => d = .bool (eqTNote a b) ∧ os = []) := by
  refine fn_rule Tryd.func45 rfl (by decide +kernel) rfl (fun w0 F0 lent β0 => ?_)
  repeat' (first | refine sC ?_ | ((with_reducible refine isAwp ?_); first | (refine sS ?_; intro Q' hn he hr) | refine sA ?_) | (refine sH ?_; clear hn he hr Q') | refine sO ?_ | ((conv => whnf); first | refine sK ?_ | (refine sB ?_; repeat' (first | refine sb0 ?_ | (refine sb2 ?_ ?_ <;> intro hb <;> try exact cls))) | refine sP ?_ | (refine sE ?_; intro x hx) | (refine sF ?_; intro i y hi hy) | (refine sI ?_; intro i hi) | (refine sL ?_; intro hlen) | (refine sQ ?_; intro c hc hcm; try simp only [lnM, lnA, lnC, lnN] at hc) | (refine sX ?_; intro i1 i2 hi1 hi2 hj1 hj2; try simp only [cutL, lnM, lnA, lnC, lnN, lnT, lnD, lnR] at hi1 hi2 hj2) | refine sD ?_ | (refine ret_pick [] rfl rfl rfl ⟨?_, rfl⟩; conv => lhs; whnf) | (refine ret_pick [0] rfl rfl rfl ⟨rfl, ?_⟩) | (refine sH ?_; clear hn he hr Q')))
  all_goals simp_all [eqTNote, eqI, eqStr, eqBo]
theorem c_eqNoteS (a b : List (TNote)) : FnC Tryd.prog 19 G0 0 [] [.sl 2 (a.map encNote), .sl 2 (b.map encNote)] (fun d os => d = .bool (eqL eqTNote a b) ∧ os = []) := by
  refine fn_rule Tryd.func19 rfl (by decide +kernel) rfl (fun w0 F0 lent β0 => ?_)
  repeat' (first | refine sC ?_ | ((with_reducible refine isAwp ?_); first | (refine sS ?_; intro Q' hn he hr) | refine sA ?_) | (refine sH ?_; clear hn he hr Q') | refine sO ?_ | ((conv => whnf); first | refine sK ?_ | (refine sB ?_; repeat' (first | refine sb0 ?_ | (refine sb2 ?_ ?_ <;> intro hb <;> try exact cls))) | refine sP ?_ | (refine sE ?_; intro x hx) | (refine sF ?_; intro i y hi hy) | (refine sI ?_; intro i hi) | (refine sL ?_; intro hlen) | (refine sQ ?_; intro c hc hcm; try simp only [lnM, lnA, lnC, lnN] at hc) | (refine sX ?_; intro i1 i2 hi1 hi2 hj1 hj2; try simp only [cutL, lnM, lnA, lnC, lnN, lnT, lnD, lnR] at hi1 hi2 hj2) | refine sD ?_ | (refine ret_pick [] rfl rfl rfl ⟨?_, rfl⟩; conv => lhs; whnf) | (refine ret_pick [0] rfl rfl rfl ⟨rfl, ?_⟩) | (refine sH ?_; clear hn he hr Q')))
  · rw [eqL_len hb]
  · refine loop_env (fun k : Nat => [(0,.sl 2 (a.map encNote)),(1,.sl 2 (b.map encNote)),(5,.int .i64 k)]) (fun _ => []) (fun k => k ≤ a.length ∧ eqTo eqTNote a b k) (fun k => a.length - k) 0 ⟨by omega, eqTo_zero⟩ (by refine weak_to rfl rfl rfl ?_; ((repeat' (first | exact trivial | refine And.intro ?_ ?_)) <;> (first | rfl | (conv => rhs; whnf) <;> (first | rfl | (refine congrArg (D.int _) ?_; omega))))) (fun k hk Q' hn he hr => ?_)
    repeat' (first | refine sC ?_ | ((with_reducible refine isAwp ?_); first | (refine sS ?_; intro Q' hn he hr) | refine sA ?_) | (refine sH ?_; clear hn he hr Q') | refine sO ?_ | ((conv => whnf); first | refine sK ?_ | (refine sB ?_; repeat' (first | refine sb0 ?_ | (refine sb2 ?_ ?_ <;> intro hb <;> try exact cls))) | ((with_reducible refine isCallQ ?_); first | (refine callQ_plain (.bool (eqTNote _ _)) (c_eqNote _ _) rfl (by rintro d os ⟨rfl, rfl⟩; rfl) ?_)) | refine sP ?_ | (refine sE ?_; intro x hx) | (refine sF ?_; intro i y hi hy) | (refine sI ?_; intro i hi) | (refine sL ?_; intro hlen) | (refine sQ ?_; intro c hc hcm; try simp only [lnM, lnA, lnC, lnN] at hc) | (refine sX ?_; intro i1 i2 hi1 hi2 hj1 hj2; try simp only [cutL, lnM, lnA, lnC, lnN, lnT, lnD, lnR] at hi1 hi2 hj2) | refine sD ?_ | (refine ret_pick [] rfl rfl rfl ⟨?_, rfl⟩; conv => lhs; whnf) | (refine ret_pick [0] rfl rfl rfl ⟨rfl, ?_⟩) | (refine sH ?_; clear hn he hr Q')))
    · rw [eqL_at ‹a[k]? = some _› ‹b[k]? = some _› hb]
    · exact ⟨k + 1, ⟨by omega, eqTo_succ hk.2 ‹a[k]? = some _› ‹b[k]? = some _› hb⟩, by omega, (by refine weak_to rfl rfl rfl ?_; ((repeat' (first | exact trivial | refine And.intro ?_ ?_)) <;> (first | rfl | (conv => rhs; whnf) <;> (first | rfl | (refine congrArg (D.int _) ?_; omega)))))⟩
    · rw [eqL_all (by omega) (fun j x y h => hk.2 j x y (by omega))]
def markNote (_ : TNote) (q : Int) : TNote := { fId := mtext (q), fText := mtext (q + 1) }
theorem c_markNoteS (a : List (TNote)) (q : Int) (h0 : 0 ≤ q ∧ q + 2 * a.length ≤ 4611686018427387904) : FnC Tryd.prog 20 G0 1 [.row 67 2 (a.map encNote)] [.h 0, .int .i64 q] (fun d os => d = .int .i64 (q + 2 * a.length) ∧ os = [.row 67 2 ((mkL markNote 2 q a).map encNote)]) := by
  refine fn_rule Tryd.func20 rfl (by decide +kernel) rfl (fun w0 F0 lent β0 => ?_)
  repeat' (first | refine sC ?_ | ((with_reducible refine isAwp ?_); first | (refine sS ?_; intro Q' hn he hr) | refine sA ?_) | (refine sH ?_; clear hn he hr Q') | refine sO ?_ | ((conv => whnf); first | refine sK ?_ | (refine sB ?_; repeat' (first | refine sb0 ?_ | (refine sb2 ?_ ?_ <;> intro hb <;> try exact cls))) | refine sP ?_ | (refine sE ?_; intro x hx) | (refine sF ?_; intro i y hi hy) | (refine sI ?_; intro i hi) | (refine sL ?_; intro hlen) | (refine sQ ?_; intro c hc hcm; try simp only [lnM, lnA, lnC, lnN] at hc) | (refine sX ?_; intro i1 i2 hi1 hi2 hj1 hj2; try simp only [cutL, lnM, lnA, lnC, lnN, lnT, lnD, lnR] at hi1 hi2 hj2) | refine sD ?_ | (refine ret_pick [] rfl rfl rfl ⟨?_, rfl⟩; conv => lhs; whnf) | (refine ret_pick [0] rfl rfl rfl ⟨rfl, ?_⟩) | (refine sH ?_; clear hn he hr Q')))
  refine loop_env (fun k : Nat => [(0,.h 0),(1,.int .i64 (q + 2 * k)),(5,.int .i64 k)]) (fun k => [.row 67 2 ((mkTo markNote 2 q a k).map encNote)]) (fun k => k ≤ a.length) (fun k => a.length - k) 0 (by omega) (by refine weak_to rfl rfl ?_ ?_; rw [mkTo_zero]; rfl; exact ⟨rfl, by (conv => rhs; whnf); refine congrArg (D.int _) ?_; omega, rfl, trivial⟩) (fun k hk Q' hn he hr => ?_)
  repeat' (first | refine sC ?_ | ((with_reducible refine isAwp ?_); first | (refine sS ?_; intro Q' hn he hr) | refine sA ?_) | (refine sH ?_; clear hn he hr Q') | refine sO ?_ | ((conv => whnf); first | refine sK ?_ | (refine sB ?_; repeat' (first | refine sb0 ?_ | (refine sb2 ?_ ?_ <;> intro hb <;> try exact cls))) | (refine LenS.mkTo fun hlen => ?_) | (refine InS.mkTo (by omega) ?_) | (refine InS.set ?_; repeat' (refine InS.set ?_); refine InS.mkTo (by omega) ?_) | (refine ElemS.mkTo (by omega) fun x hx => ?_) | (refine ElemS.set (by simp [mkTo_length]; omega) ?_) | ((with_reducible refine isCall ?_); first | (refine call_pure (c_markText _ (by omega)) rfl rfl ?_)) | ((with_reducible refine isRet ?_); first | (refine ret_pick [0] rfl rfl rfl ⟨?_, ?_⟩)) | refine sP ?_ | (refine sE ?_; intro x hx) | (refine sF ?_; intro i y hi hy) | (refine sI ?_; intro i hi) | (refine sL ?_; intro hlen) | (refine sQ ?_; intro c hc hcm; try simp only [lnM, lnA, lnC, lnN] at hc) | (refine sX ?_; intro i1 i2 hi1 hi2 hj1 hj2; try simp only [cutL, lnM, lnA, lnC, lnN, lnT, lnD, lnR] at hi1 hi2 hj2) | refine sD ?_ | (refine ret_pick [] rfl rfl rfl ⟨?_, rfl⟩; conv => lhs; whnf) | (refine ret_pick [0] rfl rfl rfl ⟨rfl, ?_⟩) | (refine sH ?_; clear hn he hr Q')))
  · refine ⟨k + 1, by omega, by omega, ?_⟩
    refine weak_to rfl rfl ?_ ⟨rfl, ?_, rfl, trivial⟩
    · rw [← mkTo_succ hx, List.map_set]
      try simp only [List.set_set]
      rfl
    · (conv => rhs; whnf); refine congrArg (D.int _) ?_; omega
  · have h2 : k = a.length := by omega
    subst h2
    rfl
  · have h2 : k = a.length := by omega
    subst h2
    rfl
theorem c_markNoteS_nil (q : Int) : FnC Tryd.prog 20 G0 0 [] [.sl 2 [], .int .i64 q] (fun d os => d = .int .i64 q ∧ os = []) := by
  refine fn_rule Tryd.func20 rfl (by decide +kernel) rfl (fun w0 F0 lent β0 => ?_)
  repeat' (first | refine sC ?_ | ((with_reducible refine isAwp ?_); first | (refine sS ?_; intro Q' hn he hr) | refine sA ?_) | (refine sH ?_; clear hn he hr Q') | refine sO ?_ | ((conv => whnf); first | refine sK ?_ | (refine sB ?_; repeat' (first | refine sb0 ?_ | (refine sb2 ?_ ?_ <;> intro hb <;> try exact cls))) | refine sP ?_ | (refine sE ?_; intro x hx) | (refine sF ?_; intro i y hi hy) | (refine sI ?_; intro i hi) | (refine sL ?_; intro hlen) | (refine sQ ?_; intro c hc hcm; try simp only [lnM, lnA, lnC, lnN] at hc) | (refine sX ?_; intro i1 i2 hi1 hi2 hj1 hj2; try simp only [cutL, lnM, lnA, lnC, lnN, lnT, lnD, lnR] at hi1 hi2 hj2) | refine sD ?_ | (refine ret_pick [] rfl rfl rfl ⟨?_, rfl⟩; conv => lhs; whnf) | (refine ret_pick [0] rfl rfl rfl ⟨rfl, ?_⟩) | (refine sH ?_; clear hn he hr Q')))
  refine loop_env (fun _ : Nat => [(0,.sl 2 []),(1,.int .i64 q),(5,.int .i64 0)]) (fun _ => []) (fun _ => True) (fun _ => 0) 0 trivial (by refine weak_to rfl rfl rfl ?_; ((repeat' (first | exact trivial | refine And.intro ?_ ?_)) <;> (first | rfl | (conv => rhs; whnf) <;> (first | rfl | (refine congrArg (D.int _) ?_; omega))))) (fun k hk Q' hn he hr => ?_)
  repeat' (first | refine sC ?_ | ((with_reducible refine isAwp ?_); first | (refine sS ?_; intro Q' hn he hr) | refine sA ?_) | (refine sH ?_; clear hn he hr Q') | refine sO ?_ | ((conv => whnf); first | refine sK ?_ | (refine sB ?_; repeat' (first | refine sb0 ?_ | (refine sb2 ?_ ?_ <;> intro hb <;> try exact cls))) | refine sP ?_ | (refine sE ?_; intro x hx) | (refine sF ?_; intro i y hi hy) | (refine sI ?_; intro i hi) | (refine sL ?_; intro hlen) | (refine sQ ?_; intro c hc hcm; try simp only [lnM, lnA, lnC, lnN] at hc) | (refine sX ?_; intro i1 i2 hi1 hi2 hj1 hj2; try simp only [cutL, lnM, lnA, lnC, lnN, lnT, lnD, lnR] at hi1 hi2 hj2) | refine sD ?_ | (refine ret_pick [] rfl rfl rfl ⟨?_, rfl⟩; conv => lhs; whnf) | (refine ret_pick [0] rfl rfl rfl ⟨rfl, ?_⟩) | (refine sH ?_; clear hn he hr Q')))
def okNote (x : TNote) : Prop := (fun l : List UInt8 => l.length ≤ maxLen) x.fId ∧ (fun l : List UInt8 => l.length ≤ maxLen) x.fText
end Go.Eng
