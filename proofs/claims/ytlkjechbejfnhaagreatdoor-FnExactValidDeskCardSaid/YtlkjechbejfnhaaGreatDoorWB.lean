/-
  The words of a text, by the reference.
  No conditions.
-/
import Derived.Test.YtlkjechbejfnhaaGreatDoorED
import Derived.Test.YtlkjechbejfnhaaGreatDoorWB0
import Derived.Test.YtlkjechbejfnhaaGreatDoorBA
import Derived.Test.YtlkjechbejfnhaaGreatDoorV0
import Derived.Test.YtlkjechbejfnhaaGreatDoorP1
set_option linter.unusedVariables false
set_option linter.unusedSimpArgs false
set_option maxHeartbeats 4000000
namespace Go.Eng
open Go Go.RowKit Go.Proofs
set_option maxRecDepth 100000
theorem insS_step {a : List (List UInt8)} (t : List UInt8) (h : chain Op.bytesLess a = true) {k : Nat} {x : List UInt8} (hx : a[k]? = some x) :
    insP Op.bytesLess (fun x y => x == y) a t (k + 1) = insP Op.bytesLess (fun x y => x == y) a t k ++ ((if insAt Op.bytesLess a t < k ∨ Op.bytesLess x t = true then [] else [t]) ++ (if x = t then [] else [x])) := by
  have e1 : (if x = t then ([] : List (List UInt8)) else [x]) = if (t == x) = true then [] else [x] := by
    by_cases e : x = t
    · rw [if_pos e, if_pos (by rw [e]; simp)]
    · rw [if_neg e, if_neg (fun h => e (eq_of_beq h).symm)]
  rw [e1]
  refine insP_step (lt := Op.bytesLess) (eqk := fun x y => x == y) less_trans (fun x => insS_tot x t) (fun x y => insS_con t x y) (fun x hl => ?_) (fun x hl => ?_) h hx
  · cases he : (t == x) with
    | false => rfl
    | true => rw [eq_of_beq he, less_irrefl] at hl; cases hl
  · cases he : (t == x) with
    | false => rfl
    | true => rw [eq_of_beq he, less_irrefl] at hl; cases hl
set_option maxHeartbeats 4000000 in
theorem c_spec_l30Put (a : List (List UInt8)) (t : List UInt8) (hs : chain Op.bytesLess a = true) (hl : a.length ≤ 1048576) : FnC Tryz.prog 311 G0 0 [] [.sl 1 (a.map encS), .str t] (fun d os => d = .h 0 ∧ os = [.row 9 1 ((insS a t).map encS)]) := by
  refine fn_rule Tryz.func311 rfl (by decide +kernel) rfl (fun w0 F0 lent β0 => ?_)
  repeat' (first | refine sC ?_ | ((with_reducible refine isAwp ?_); first | (refine sS ?_; intro Q' hn he hr) | refine sA ?_) | (refine sH ?_; clear hn he hr Q') | refine sO ?_ | ((conv => whnf); first | refine sK ?_ | (refine sB ?_; repeat' (first | refine sb0 ?_ | (refine sb2 ?_ ?_ <;> intro hb <;> try exact cls))) | refine sP ?_ | (refine sE ?_; intro x hx) | (refine sF ?_; intro i y hi hy) | (refine sI ?_; intro i hi) | (refine sL ?_; intro hlen) | (refine sQ ?_; intro c hc hcm; try simp only [lnM, lnA, lnC, lnN] at hc) | (refine sX ?_; intro i1 i2 hi1 hi2 hj1 hj2; try simp only [cutL, lnM, lnA, lnC, lnN, lnT, lnD, lnR] at hi1 hi2 hj2) | refine sD ?_ | (refine ret_pick [] rfl rfl rfl ⟨?_, rfl⟩; conv => lhs; whnf) | (refine ret_pick [0] rfl rfl rfl ⟨rfl, ?_⟩) | (refine sH ?_; clear hn he hr Q')))
  refine loop_env (fun k : Nat => [(0,.sl 1 (a.map encS)),(1,.str t),(5,.h 0),(6,.bool (decide (insAt Op.bytesLess a t < k))),(7,.int .i64 k)]) (fun k => [.row 9 1 ((insP Op.bytesLess (fun x y => x == y) a t k).map encS)]) (fun k => k ≤ a.length) (fun k => a.length - k) 0 (by omega) (by refine weak_to rfl rfl rfl ?_; exact ⟨rfl, rfl, rfl, rfl, rfl, trivial⟩) (fun k hk Q' hn he hr => ?_)
  have h8 := insP_length (lt := Op.bytesLess) (eqk := fun x y => x == y) a t k
  repeat' (first | refine sC ?_ | ((with_reducible refine isAwp ?_); first | (refine sS ?_; intro Q' hn he hr) | refine sA ?_) | (refine sH ?_; clear hn he hr Q') | refine sO ?_ | ((conv => whnf); first | refine sK ?_ | (refine sB ?_; repeat' (first | refine sb0 ?_ | (refine sb2 ?_ ?_ <;> intro hb <;> try exact cls))) | ((with_reducible refine isRet ?_); first | (refine ret_pick [0] rfl rfl rfl ⟨rfl, ?_⟩)) | refine sP ?_ | (refine sE ?_; intro x hx) | (refine sF ?_; intro i y hi hy) | (refine sI ?_; intro i hi) | (refine sL ?_; intro hlen) | (refine sQ ?_; intro c hc hcm; try simp only [lnM, lnA, lnC, lnN] at hc) | (refine sX ?_; intro i1 i2 hi1 hi2 hj1 hj2; try simp only [cutL, lnM, lnA, lnC, lnN, lnT, lnD, lnR] at hi1 hi2 hj2) | refine sD ?_ | (refine ret_pick [] rfl rfl rfl ⟨?_, rfl⟩; conv => lhs; whnf) | (refine ret_pick [0] rfl rfl rfl ⟨rfl, ?_⟩) | (refine sH ?_; clear hn he hr Q')))
  all_goals try (exact absurd ‹Op.bytesLess x t = true› (by rw [‹x = t›, less_irrefl]; simp))
  all_goals first
    | (have hst := insAt_step (lt := Op.bytesLess) (t := t) hx
       rw [decide_eq_true ‹insAt Op.bytesLess a t < k›] at hst ⊢
       refine ⟨k + 1, by omega, by omega, ?_⟩
       rw [hst]
       exact (by refine weak_to rfl rfl (by rw [insS_step t hs hx]; refine congrArg (fun l => [Obj.row 9 1 l]) ?_; simp [encS, less_irrefl, *]) ?_; ((repeat' (first | exact trivial | refine And.intro ?_ ?_)) <;> (first | rfl | (conv => rhs; whnf) <;> (first | rfl | (refine congrArg (D.int _) ?_; omega))))))
    | (have hst := insAt_step (lt := Op.bytesLess) (t := t) hx
       rw [decide_eq_false ‹¬ insAt Op.bytesLess a t < k›, ‹Op.bytesLess x t = _›] at hst
       refine ⟨k + 1, by omega, by omega, ?_⟩
       rw [hst]
       try rw [decide_eq_false ‹¬ insAt Op.bytesLess a t < k›]
       exact (by refine weak_to rfl rfl (by rw [insS_step t hs hx]; refine congrArg (fun l => [Obj.row 9 1 l]) ?_; simp [encS, less_irrefl, *]) ?_; ((repeat' (first | exact trivial | refine And.intro ?_ ?_)) <;> (first | rfl | (conv => rhs; whnf) <;> (first | rfl | (refine congrArg (D.int _) ?_; omega))))))
    | skip
  all_goals
    obtain rfl : k = a.length := by omega
    have hla := insP_last (lt := Op.bytesLess) (eqk := fun x y => x == y) a t
    refine congrArg (fun l => [Obj.row 9 1 l]) ?_
    show _ = (insL Op.bytesLess (fun x y => x == y) a t).map encS
  · rw [← hla, if_pos (by omega), List.map_append]
    rfl
  · rw [← hla, if_neg (by omega)]
theorem word_is {c : UInt8} (h : smallB c = true ∨ digitB c = true) : wordC c = true := by
  show (smallB c || digitB c) = true
  rcases h with h | h <;> simp [h]
theorem word_not {c : UInt8} (h1 : smallB c = false) (h2 : digitB c = false) : ¬ wordC c = true := by
  show ¬ (smallB c || digitB c) = true
  simp [h1, h2]
set_option maxHeartbeats 8000000 in
theorem c_spec_l30Words (s : List UInt8) (hs : s.length ≤ 1048575) : FnC Tryz.prog 270 G0 0 [] [.str s] (fun d os => d = .h 0 ∧ os = [.row 9 1 ((wordsL s).map encS)]) := by
  refine fn_rule Tryz.func270 rfl (by decide +kernel) rfl (fun w0 F0 lent β0 => ?_)
  repeat' (first | refine sC ?_ | ((with_reducible refine isAwp ?_); first | (refine sS ?_; intro Q' hn he hr) | refine sA ?_) | (refine sH ?_; clear hn he hr Q') | refine sO ?_ | ((conv => whnf); first | refine sK ?_ | (refine sB ?_; repeat' (first | refine sb0 ?_ | (refine sb2 ?_ ?_ <;> intro hb <;> try exact cls))) | refine sP ?_ | (refine sE ?_; intro x hx) | (refine sF ?_; intro i y hi hy) | (refine sI ?_; intro i hi) | (refine sL ?_; intro hlen) | (refine sQ ?_; intro c hc hcm; try simp only [lnM, lnA, lnC, lnN] at hc) | (refine sX ?_; intro i1 i2 hi1 hi2 hj1 hj2; try simp only [cutL, lnM, lnA, lnC, lnN, lnT, lnD, lnR] at hi1 hi2 hj2) | refine sD ?_ | (refine ret_pick [] rfl rfl rfl ⟨?_, rfl⟩; conv => lhs; whnf) | (refine ret_pick [0] rfl rfl rfl ⟨rfl, ?_⟩) | (refine sH ?_; clear hn he hr Q')))
  refine loop_env3 (fun (k : Nat) (out : List (List UInt8)) (word : List UInt8) => [(0,.str s),(3,.h 0),(4,.h 1),(5,.int .i64 k)]) (fun k out word => [.row 9 1 (out.map encS), .row 5 1 (word.map byteE)]) (fun k out word => WInv s k out word) (fun k _ _ => s.length + 1 - k) 0 [] [] (winv_zero s) (by refine weak_to rfl rfl rfl ?_; ((repeat' (first | exact trivial | refine And.intro ?_ ?_)) <;> (first | rfl | (conv => rhs; whnf) <;> (first | rfl | (refine congrArg (D.int _) ?_; omega))))) (fun k out word h Q' hn he hr => ?_)
  have hch := h.ch
  have hlen := h.len
  have hle := h.le
  by_cases hkl : k < s.length
  · obtain ⟨b, hbk⟩ : ∃ b, s[k]? = some b := ⟨_, List.getElem?_eq_getElem hkl⟩
    have hbl := b.toNat_lt
    have hat := winv_at hbk
    by_cases hu : 65 ≤ b.toNat ∧ b.toNat ≤ 90
    · have hlow := lowerB_up hu.1 hu.2
      repeat' (first | refine sC ?_ | ((with_reducible refine isAwp ?_); first | (refine sS ?_; intro Q' hn he hr) | refine sA ?_) | (refine sH ?_; clear hn he hr Q') | refine sO ?_ | ((conv => whnf); first | refine sK ?_ | (refine sB ?_; repeat' (first | refine sb0 ?_ | (refine sb2 ?_ ?_ <;> intro hb <;> try exact cls))) | (refine ByteS.the hbk ?_) | (refine ArithS.to ((Lib.lowerB b).toNat : Int) (by rw [hlow]; omega) (wrap8 (by omega)) ?_) | (refine BytesS.mk ⟨word, rfl, ?_⟩) | ((with_reducible refine isCall ?_); first | (refine call_pure (c_spec_l01Small (Lib.lowerB b)) rfl rfl ?_) | (refine call_pure (c_spec_l01Digit (Lib.lowerB b)) rfl rfl ?_) | (refine call_mk_look (c_spec_l30Put out word hch (by omega)) rfl (flat_one (FlatO.map fun _ => rfl)) (by first | exact (rfl : _ = 0) | exact (rfl : _ = 1) | exact (rfl : _ = 2) | exact (rfl : _ = 3) | exact (rfl : _ = 4) | exact (rfl : _ = 5) | exact (rfl : _ = 6) | exact (rfl : _ = 7) | exact (rfl : _ = 8) | exact (rfl : _ = 9) | exact (rfl : _ = 10) | exact (rfl : _ = 11) | exact (rfl : _ = 12) | exact (rfl : _ = 13) | exact (rfl : _ = 14) | exact (rfl : _ = 15) | exact (rfl : _ = 16) | exact (rfl : _ = 17) | exact (rfl : _ = 18) | exact (rfl : _ = 19) | exact (rfl : _ = 20) | exact (rfl : _ = 21) | exact (rfl : _ = 22) | exact (rfl : _ = 23) | exact (rfl : _ = 24) | exact (rfl : _ = 25) | exact (rfl : _ = 26) | exact (rfl : _ = 27) | exact (rfl : _ = 28) | exact (rfl : _ = 29) | exact (rfl : _ = 30) | exact (rfl : _ = 31) | exact (rfl : _ = 32) | exact (rfl : _ = 33) | exact (rfl : _ = 34) | exact (rfl : _ = 35) | exact (rfl : _ = 36) | exact (rfl : _ = 37) | exact (rfl : _ = 38) | exact (rfl : _ = 39)) ?_)) | ((with_reducible refine isCallQ ?_); first | (refine callQ_pure (c_spec_l01Small (Lib.lowerB b)) rfl rfl ?_) | (refine callQ_pure (c_spec_l01Digit (Lib.lowerB b)) rfl rfl ?_)) | refine sP ?_ | (refine sE ?_; intro x hx) | (refine sF ?_; intro i y hi hy) | (refine sI ?_; intro i hi) | (refine sL ?_; intro hlen) | (refine sQ ?_; intro c hc hcm; try simp only [lnM, lnA, lnC, lnN] at hc) | (refine sX ?_; intro i1 i2 hi1 hi2 hj1 hj2; try simp only [cutL, lnM, lnA, lnC, lnN, lnT, lnD, lnR] at hi1 hi2 hj2) | refine sD ?_ | (refine ret_pick [] rfl rfl rfl ⟨?_, rfl⟩; conv => lhs; whnf) | (refine ret_pick [0] rfl rfl rfl ⟨rfl, ?_⟩) | (refine sH ?_; clear hn he hr Q')))
      · exact ⟨k + 1, out, word ++ [Lib.lowerB b], winv_in h hbk (word_is (.inl hb)), by omega, (by refine weak_to rfl rfl (by rw [List.map_append]; rfl) ?_; ((repeat' (first | exact trivial | refine And.intro ?_ ?_)) <;> (first | rfl | (conv => rhs; whnf) <;> (first | rfl | (refine congrArg (D.int _) ?_; omega)))))⟩
      · exact ⟨k + 1, out, word ++ [Lib.lowerB b], winv_in h hbk (word_is (.inr hb)), by omega, (by refine weak_to rfl rfl (by rw [List.map_append]; rfl) ?_; ((repeat' (first | exact trivial | refine And.intro ?_ ?_)) <;> (first | rfl | (conv => rhs; whnf) <;> (first | rfl | (refine congrArg (D.int _) ?_; omega)))))⟩
      · refine ⟨k + 1, insS out word, [], winv_cut h (List.length_pos_iff.1 (by omega)) hat (by omega) (word_not (by assumption) (by assumption)), by omega, ?_⟩
        refine weak_sel [2, 3] rfl ?_ ?_
        · repeat' (first | exact trivial | rfl | refine And.intro ?_ ?_)
        · repeat' (first | exact trivial | rfl | refine And.intro ?_ ?_)
      · obtain rfl : word = [] := List.length_eq_zero_iff.1 (by omega)
        exact ⟨k + 1, out, [], winv_gap h hat (by omega) (word_not (by assumption) (by assumption)), by omega, (by refine weak_to rfl rfl rfl ?_; ((repeat' (first | exact trivial | refine And.intro ?_ ?_)) <;> (first | rfl | (conv => rhs; whnf) <;> (first | rfl | (refine congrArg (D.int _) ?_; omega)))))⟩
    · have hlow := lowerB_else (c := b) (by omega)
      repeat' (first | refine sC ?_ | ((with_reducible refine isAwp ?_); first | (refine sS ?_; intro Q' hn he hr) | refine sA ?_) | (refine sH ?_; clear hn he hr Q') | refine sO ?_ | ((conv => whnf); first | refine sK ?_ | (refine sB ?_; repeat' (first | refine sb0 ?_ | (refine sb2 ?_ ?_ <;> intro hb <;> try exact cls))) | (refine ByteS.the hbk ?_) | (refine BytesS.mk ⟨word, rfl, ?_⟩) | ((with_reducible refine isCall ?_); first | (refine call_pure (c_spec_l01Small b) rfl rfl ?_) | (refine call_pure (c_spec_l01Digit b) rfl rfl ?_) | (refine call_mk_look (c_spec_l30Put out word hch (by omega)) rfl (flat_one (FlatO.map fun _ => rfl)) (by first | exact (rfl : _ = 0) | exact (rfl : _ = 1) | exact (rfl : _ = 2) | exact (rfl : _ = 3) | exact (rfl : _ = 4) | exact (rfl : _ = 5) | exact (rfl : _ = 6) | exact (rfl : _ = 7) | exact (rfl : _ = 8) | exact (rfl : _ = 9) | exact (rfl : _ = 10) | exact (rfl : _ = 11) | exact (rfl : _ = 12) | exact (rfl : _ = 13) | exact (rfl : _ = 14) | exact (rfl : _ = 15) | exact (rfl : _ = 16) | exact (rfl : _ = 17) | exact (rfl : _ = 18) | exact (rfl : _ = 19) | exact (rfl : _ = 20) | exact (rfl : _ = 21) | exact (rfl : _ = 22) | exact (rfl : _ = 23) | exact (rfl : _ = 24) | exact (rfl : _ = 25) | exact (rfl : _ = 26) | exact (rfl : _ = 27) | exact (rfl : _ = 28) | exact (rfl : _ = 29) | exact (rfl : _ = 30) | exact (rfl : _ = 31) | exact (rfl : _ = 32) | exact (rfl : _ = 33) | exact (rfl : _ = 34) | exact (rfl : _ = 35) | exact (rfl : _ = 36) | exact (rfl : _ = 37) | exact (rfl : _ = 38) | exact (rfl : _ = 39)) ?_)) | ((with_reducible refine isCallQ ?_); first | (refine callQ_pure (c_spec_l01Small b) rfl rfl ?_) | (refine callQ_pure (c_spec_l01Digit b) rfl rfl ?_)) | refine sP ?_ | (refine sE ?_; intro x hx) | (refine sF ?_; intro i y hi hy) | (refine sI ?_; intro i hi) | (refine sL ?_; intro hlen) | (refine sQ ?_; intro c hc hcm; try simp only [lnM, lnA, lnC, lnN] at hc) | (refine sX ?_; intro i1 i2 hi1 hi2 hj1 hj2; try simp only [cutL, lnM, lnA, lnC, lnN, lnT, lnD, lnR] at hi1 hi2 hj2) | refine sD ?_ | (refine ret_pick [] rfl rfl rfl ⟨?_, rfl⟩; conv => lhs; whnf) | (refine ret_pick [0] rfl rfl rfl ⟨rfl, ?_⟩) | (refine sH ?_; clear hn he hr Q')))
      all_goals rw [hlow] at hat
      all_goals first
        | exact ⟨k + 1, out, word ++ [Lib.lowerB b], winv_in h hbk (by rw [hlow]; exact word_is (.inl hb)), by omega, (by refine weak_to rfl rfl (by rw [hlow, List.map_append]; rfl) ?_; ((repeat' (first | exact trivial | refine And.intro ?_ ?_)) <;> (first | rfl | (conv => rhs; whnf) <;> (first | rfl | (refine congrArg (D.int _) ?_; omega)))))⟩
        | exact ⟨k + 1, out, word ++ [Lib.lowerB b], winv_in h hbk (by rw [hlow]; exact word_is (.inr hb)), by omega, (by refine weak_to rfl rfl (by rw [hlow, List.map_append]; rfl) ?_; ((repeat' (first | exact trivial | refine And.intro ?_ ?_)) <;> (first | rfl | (conv => rhs; whnf) <;> (first | rfl | (refine congrArg (D.int _) ?_; omega)))))⟩
        | (refine ⟨k + 1, insS out word, [], winv_cut h (List.length_pos_iff.1 (by omega)) hat (by omega) (word_not (by assumption) (by assumption)), by omega, ?_⟩
           refine weak_sel [2, 3] rfl ?_ ?_
           · repeat' (first | exact trivial | rfl | refine And.intro ?_ ?_)
           · repeat' (first | exact trivial | rfl | refine And.intro ?_ ?_))
        | (obtain rfl : word = [] := List.length_eq_zero_iff.1 (by omega)
           exact ⟨k + 1, out, [], winv_gap h hat (by omega) (word_not (by assumption) (by assumption)), by omega, (by refine weak_to rfl rfl rfl ?_; ((repeat' (first | exact trivial | refine And.intro ?_ ?_)) <;> (first | rfl | (conv => rhs; whnf) <;> (first | rfl | (refine congrArg (D.int _) ?_; omega)))))⟩)
  · have hat := winv_end s
    repeat' (first | refine sC ?_ | ((with_reducible refine isAwp ?_); first | (refine sS ?_; intro Q' hn he hr) | refine sA ?_) | (refine sH ?_; clear hn he hr Q') | refine sO ?_ | ((conv => whnf); first | refine sK ?_ | (refine sB ?_; repeat' (first | refine sb0 ?_ | (refine sb2 ?_ ?_ <;> intro hb <;> try exact cls))) | (refine BytesS.mk ⟨word, rfl, ?_⟩) | ((with_reducible refine isCall ?_); first | (refine call_pure (c_spec_l01Small 32) rfl rfl ?_) | (refine call_pure (c_spec_l01Digit 32) rfl rfl ?_) | (refine call_mk_look (c_spec_l30Put out word hch (by omega)) rfl (flat_one (FlatO.map fun _ => rfl)) (by first | exact (rfl : _ = 0) | exact (rfl : _ = 1) | exact (rfl : _ = 2) | exact (rfl : _ = 3) | exact (rfl : _ = 4) | exact (rfl : _ = 5) | exact (rfl : _ = 6) | exact (rfl : _ = 7) | exact (rfl : _ = 8) | exact (rfl : _ = 9) | exact (rfl : _ = 10) | exact (rfl : _ = 11) | exact (rfl : _ = 12) | exact (rfl : _ = 13) | exact (rfl : _ = 14) | exact (rfl : _ = 15) | exact (rfl : _ = 16) | exact (rfl : _ = 17) | exact (rfl : _ = 18) | exact (rfl : _ = 19) | exact (rfl : _ = 20) | exact (rfl : _ = 21) | exact (rfl : _ = 22) | exact (rfl : _ = 23) | exact (rfl : _ = 24) | exact (rfl : _ = 25) | exact (rfl : _ = 26) | exact (rfl : _ = 27) | exact (rfl : _ = 28) | exact (rfl : _ = 29) | exact (rfl : _ = 30) | exact (rfl : _ = 31) | exact (rfl : _ = 32) | exact (rfl : _ = 33) | exact (rfl : _ = 34) | exact (rfl : _ = 35) | exact (rfl : _ = 36) | exact (rfl : _ = 37) | exact (rfl : _ = 38) | exact (rfl : _ = 39)) ?_)) | ((with_reducible refine isCallQ ?_); first | (refine callQ_pure (c_spec_l01Small 32) rfl rfl ?_) | (refine callQ_pure (c_spec_l01Digit 32) rfl rfl ?_)) | ((with_reducible refine isRet ?_); first | (refine ret_pick [0] rfl rfl rfl ⟨rfl, ?_⟩)) | refine sP ?_ | (refine sE ?_; intro x hx) | (refine sF ?_; intro i y hi hy) | (refine sI ?_; intro i hi) | (refine sL ?_; intro hlen) | (refine sQ ?_; intro c hc hcm; try simp only [lnM, lnA, lnC, lnN] at hc) | (refine sX ?_; intro i1 i2 hi1 hi2 hj1 hj2; try simp only [cutL, lnM, lnA, lnC, lnN, lnT, lnD, lnR] at hi1 hi2 hj2) | refine sD ?_ | (refine ret_pick [] rfl rfl rfl ⟨?_, rfl⟩; conv => lhs; whnf) | (refine ret_pick [0] rfl rfl rfl ⟨rfl, ?_⟩) | (refine sH ?_; clear hn he hr Q')))
    · obtain rfl : k = s.length := by omega
      refine ⟨s.length + 1, insS out word, [], winv_cut h (List.length_pos_iff.1 (by omega)) hat (by omega) (by decide), by omega, ?_⟩
      refine weak_sel [2, 3] rfl ?_ ?_
      · repeat' (first | exact trivial | rfl | refine And.intro ?_ ?_)
      · repeat' (first | exact trivial | rfl | refine And.intro ?_ ?_)
    · obtain rfl : k = s.length := by omega
      obtain rfl : word = [] := List.length_eq_zero_iff.1 (by omega)
      exact ⟨s.length + 1, out, [], winv_gap h hat (by omega) (by decide), by omega, (by refine weak_to rfl rfl rfl ?_; ((repeat' (first | exact trivial | refine And.intro ?_ ?_)) <;> (first | rfl | (conv => rhs; whnf) <;> (first | rfl | (refine congrArg (D.int _) ?_; omega)))))⟩
    · obtain rfl : k = s.length + 1 := by omega
      rw [← winv_done h]
      rfl
end Go.Eng
