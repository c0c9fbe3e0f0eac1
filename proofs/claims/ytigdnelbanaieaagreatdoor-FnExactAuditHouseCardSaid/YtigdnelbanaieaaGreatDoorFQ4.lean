/-
  The names that a script fires, in order: the contracts of the program's functions and of the reference's.
  No conditions.
-/
import Derived.Test.YtigdnelbanaieaaGreatDoorED
import Derived.Test.YtigdnelbanaieaaGreatDoorQX
import Derived.Test.YtigdnelbanaieaaGreatDoorWS
import Derived.Test.YtigdnelbanaieaaGreatDoorVY
set_option linter.unusedVariables false
set_option linter.unusedSimpArgs false
set_option maxHeartbeats 4000000
namespace Go.Eng
open Go Go.RowKit Go.Proofs
set_option maxRecDepth 100000
set_option maxHeartbeats 8000000 in
theorem c_impl_CuesOfScript (S : List TLine) (hv : scrsB S = true) : FnC Tryz.prog 104 G0 0 [] [.sl 3 (S.map encLine)] (fun d os => d = .tup [.sl 1 ((fireS S).map encS), .int .i64 0] ∧ os = []) := by
  have hsl := scrs_len hv
  have hll := fireL_len S
  have hms : ((fireL S).mergeSort fun x y => decide (x ≤ y)).length = (fireL S).length := List.length_mergeSort _
  have hw : fireS S = Lib.compact ((fireL S).mergeSort fun x y => decide (x ≤ y)) := (words_sorted _).symm
  rw [hw]
  refine fn_rule Tryz.func104 rfl (by decide +kernel) rfl (fun w0 F0 lent β0 => ?_)
  repeat' (first | refine sC ?_ | ((with_reducible refine isAwp ?_); first | (refine sS ?_; intro Q' hn he hr) | refine sA ?_) | (refine sH ?_; clear hn he hr Q') | ((conv => whnf); first | refine sK ?_ | (refine sB ?_; repeat' (refine sb2 ?_ ?_ <;> intro hb <;> try exact cls)) | ((with_reducible refine isCall ?_); (refine call_pure (c_impl_ValidScript S) rfl rfl ?_)) | (refine sL ?_; intro hlen)))
  refine loop_env (fun k : Nat => [(4,.h 0),(10,.sl 3 (S.map encLine)),(11,.int .i64 S.length),(12,.int .i64 k)]) (fun k => [.row 9 1 ((fireL (S.take k)).map encS)]) (fun k => k ≤ S.length) (fun k => S.length - k) 0 (by omega) (by refine Weak.trans (weak_adopt 4 9 1 rfl rfl) (weak_to rfl rfl rfl ?_); exact ⟨rfl, rfl, rfl, rfl, trivial⟩) (fun k hk Q' hn he hr => ?_)
  have hkl2 := fireL_len (S.take k)
  have htl : (S.take k).length ≤ 40 := by rw [List.length_take]; omega
  by_cases hkl : k < S.length
  · obtain ⟨x, hx0⟩ : ∃ x, S[k]? = some x := ⟨_, List.getElem?_eq_getElem hkl⟩
    repeat' (first | refine sC ?_ | ((with_reducible refine isAwp ?_); first | (refine sS ?_; intro Q' hn he hr) | refine sA ?_) | (refine sH ?_; clear hn he hr Q') | ((conv => whnf); first | refine sK ?_ | (refine sB ?_; repeat' (refine sb2 ?_ ?_ <;> intro hb <;> try exact cls)) | (refine ElemS.the hx0 ?_) | refine sP ?_))
    all_goals first
      | (refine ⟨k + 1, by omega, by omega, ?_⟩
         exact (by refine weak_to rfl rfl (by rw [fireL_yes hx0 (by assumption), List.map_append]; rfl) ?_; ((repeat' (first | exact trivial | refine And.intro ?_ ?_)) <;> (first | rfl | (conv => rhs; whnf) <;> (first | rfl | (refine congrArg (D.int _) ?_; omega))))))
      | (refine ⟨k + 1, by omega, by omega, ?_⟩
         exact (by refine weak_to rfl rfl (by rw [fireL_no hx0 (by assumption)]; rfl) ?_; ((repeat' (first | exact trivial | refine And.intro ?_ ?_)) <;> (first | rfl | (conv => rhs; whnf) <;> (first | rfl | (refine congrArg (D.int _) ?_; omega))))))
  · obtain rfl : k = S.length := by omega
    rw [List.take_length]
    repeat' (first | refine sC ?_ | ((with_reducible refine isAwp ?_); first | (refine sS ?_; intro Q' hn he hr) | refine sA ?_) | (refine sH ?_; clear hn he hr Q') | ((conv => whnf); first | refine sK ?_ | (refine sB ?_; repeat' (refine sb2 ?_ ?_ <;> intro hb <;> try exact cls)) | ((with_reducible refine isCall ?_); first | (refine call_lend 0 rfl (c_slices_Sort (fireL S) (by omega)) ?_; rintro d os ⟨rfl, rfl⟩; refine ⟨_, _, rfl, ?_⟩) | (refine call_mv 0 rfl (c_slices_Compact _ (by omega)) rfl (flat_one (FlatO.map fun _ => rfl)) (by first | exact (rfl : _ = 0) | exact (rfl : _ = 1) | exact (rfl : _ = 2) | exact (rfl : _ = 3) | exact (rfl : _ = 4) | exact (rfl : _ = 5) | exact (rfl : _ = 6) | exact (rfl : _ = 7) | exact (rfl : _ = 8) | exact (rfl : _ = 9) | exact (rfl : _ = 10) | exact (rfl : _ = 11) | exact (rfl : _ = 12) | exact (rfl : _ = 13) | exact (rfl : _ = 14) | exact (rfl : _ = 15) | exact (rfl : _ = 16) | exact (rfl : _ = 17) | exact (rfl : _ = 18) | exact (rfl : _ = 19) | exact (rfl : _ = 20) | exact (rfl : _ = 21) | exact (rfl : _ = 22) | exact (rfl : _ = 23) | exact (rfl : _ = 24) | exact (rfl : _ = 25) | exact (rfl : _ = 26) | exact (rfl : _ = 27) | exact (rfl : _ = 28) | exact (rfl : _ = 29) | exact (rfl : _ = 30) | exact (rfl : _ = 31) | exact (rfl : _ = 32) | exact (rfl : _ = 33) | exact (rfl : _ = 34) | exact (rfl : _ = 35) | exact (rfl : _ = 36) | exact (rfl : _ = 37) | exact (rfl : _ = 38) | exact (rfl : _ = 39)) ?_)) | ((with_reducible refine isRet ?_); (refine ret_freeze 1 rfl (Nat.zero_le _) ?_; refine ret_pick [] rfl rfl rfl ⟨?_, rfl⟩)) | (refine sH ?_; clear hn he hr Q')))
    all_goals rfl
theorem ins_seg {A : List (List UInt8)} {t : List UInt8} {j : Nat} (hj : j ≤ A.length) : (A.take j ++ t :: A.drop j).map encS = [] ++ List.take (j - 0) (List.drop 0 (A.map encS)) ++ [[D.str t]] ++ List.take ((A.map encS).length - j) (List.drop j (A.map encS)) := by
  rw [List.take_of_length_le (l := List.drop j (A.map encS)) (by rw [List.length_drop]; exact Nat.le_refl _)]
  simp [List.map_append, List.map_take, List.map_drop, encS]
set_option maxHeartbeats 16000000 in
theorem c_spec_CuesOfScript (S : List TLine) (hv : scrsB S = true) : FnC Tryz.prog 139 G0 0 [] [.sl 3 (S.map encLine)] (fun d os => d = .tup [.sl 1 ((fireS S).map encS), .int .i64 0] ∧ os = []) := by
  have hsl := scrs_len hv
  refine fn_rule Tryz.func139 rfl (by decide +kernel) rfl (fun w0 F0 lent β0 => ?_)
  repeat' (first | refine sC ?_ | ((with_reducible refine isAwp ?_); first | (refine sS ?_; intro Q' hn he hr) | refine sA ?_) | (refine sH ?_; clear hn he hr Q') | ((conv => whnf); first | refine sK ?_ | (refine sB ?_; repeat' (refine sb2 ?_ ?_ <;> intro hb <;> try exact cls)) | ((with_reducible refine isCall ?_); (refine call_pure (c_spec_l15Ok S) rfl rfl ?_))))
  refine loop_env (fun k : Nat => [(0,.sl 3 (S.map encLine)),(4,.h 0),(5,.int .i64 k)]) (fun k => [.row 9 1 ((fireS (S.take k)).map encS)]) (fun k => k ≤ S.length) (fun k => S.length - k) 0 (by omega) (by refine weak_to rfl rfl rfl ?_; ((repeat' (first | exact trivial | refine And.intro ?_ ?_)) <;> (first | rfl | (conv => rhs; whnf) <;> (first | rfl | (refine congrArg (D.int _) ?_; omega))))) (fun k hk Q' hn he hr => ?_)
  have hkl2 := fireS_len (S.take k)
  have htl : (S.take k).length ≤ 40 := by rw [List.length_take]; omega
  by_cases hkl : k < S.length
  · obtain ⟨x, hx0⟩ : ∃ x, S[k]? = some x := ⟨_, List.getElem?_eq_getElem hkl⟩
    by_cases h3 : x.fKind = 3
    · have hst := fireS_yes hx0 h3
      generalize hA : fireS (S.take k) = A at *
      repeat' (first | refine sC ?_ | ((with_reducible refine isAwp ?_); first | (refine sS ?_; intro Q' hn he hr) | refine sA ?_) | (refine sH ?_; clear hn he hr Q') | ((conv => whnf); first | refine sK ?_ | (refine sB ?_; repeat' (refine sb2 ?_ ?_ <;> intro hb <;> try exact cls)) | (refine ElemS.the hx0 ?_) | (refine sL ?_; intro hlen)))
      refine loop_env (fun j : Nat => [(0,.sl 3 (S.map encLine)),(4,.h 0),(5,.int .i64 k),(6,.int .i64 j)]) (fun _ => [.row 9 1 (A.map encS)]) (fun j => j ≤ A.length ∧ noneTo (fun b => !Op.bytesLess b x.fName) A j) (fun j => A.length - j) 0 ⟨by omega, noneTo_zero⟩ (by refine weak_to rfl rfl rfl ?_; ((repeat' (first | exact trivial | refine And.intro ?_ ?_)) <;> (first | rfl | (conv => rhs; whnf) <;> (first | rfl | (refine congrArg (D.int _) ?_; omega))))) (fun j hj Q' hn he hr => ?_)
      by_cases hja : j < A.length
      · obtain ⟨y, hy0⟩ : ∃ y, A[j]? = some y := ⟨_, List.getElem?_eq_getElem hja⟩
        repeat' (first | refine sC ?_ | ((with_reducible refine isAwp ?_); first | (refine sS ?_; intro Q' hn he hr) | refine sA ?_) | (refine sH ?_; clear hn he hr Q') | refine sO ?_ | ((conv => whnf); first | refine sK ?_ | (refine sB ?_; repeat' (first | refine sb0 ?_ | (refine sb2 ?_ ?_ <;> intro hb <;> try exact cls))) | (refine ElemS.the hx0 ?_) | (refine ElemS.the hy0 ?_) | refine sP ?_ | (refine sL ?_; intro hlen) | (refine sX ?_; intro i1 i2 hi1 hi2 hj1 hj2; try simp only [cutL, lnM, lnA, lnC, lnN, lnT, lnD, lnR] at hi1 hi2 hj2) | refine sD ?_ | (refine sH ?_; clear hn he hr Q')))
        all_goals first
          | exact ⟨j + 1, ⟨by omega, noneTo_succ hj.2 hy0 (by simp [*])⟩, by omega, (by refine weak_to rfl rfl rfl ?_; ((repeat' (first | exact trivial | refine And.intro ?_ ?_)) <;> (first | rfl | (conv => rhs; whnf) <;> (first | rfl | (refine congrArg (D.int _) ?_; omega)))))⟩
          | (have hat : insAt Op.bytesLess A x.fName = j := firstAt_here hj.2 hy0 (by rw [show Op.bytesLess y x.fName = false by assumption]; rfl)
             have he2 : y = x.fName := by assumption
             have hst2 : fireS (S.take (k + 1)) = A := by rw [hst]; exact insS_have (by rw [hat, hy0, he2])
             refine ⟨k + 1, by omega, by omega, ?_⟩
             exact (by refine weak_to rfl rfl (by rw [hst2]; rfl) ?_; ((repeat' (first | exact trivial | refine And.intro ?_ ?_)) <;> (first | rfl | (conv => rhs; whnf) <;> (first | rfl | (refine congrArg (D.int _) ?_; omega))))))
          | (have hat : insAt Op.bytesLess A x.fName = j := firstAt_here hj.2 hy0 (by rw [show Op.bytesLess y x.fName = false by assumption]; rfl)
             have hne : ¬ y = x.fName := by assumption
             obtain rfl : i1 = j := by omega
             have hst2 := ins_seg (A := A) (t := x.fName) (j := i1) (by omega)
             rw [← hat, ← insS_new (fun z hz => by rw [hat, hy0] at hz; cases hz; exact hne), ← hst, hat] at hst2
             refine ⟨k + 1, by omega, by omega, ?_⟩
             refine weak_sel [1] rfl ?_ ?_
             · repeat' (first | exact trivial | rfl | exact hst2 | (rw [hst2]; rfl) | refine And.intro ?_ ?_)
             · repeat' (first | exact trivial | rfl | refine And.intro ?_ ?_))
          | skip
        all_goals (
             have hat : insAt Op.bytesLess A x.fName = j := firstAt_here hj.2 hy0 (by rw [show Op.bytesLess y x.fName = false by assumption]; rfl)
             have hne : ¬ y = x.fName := by assumption
             obtain rfl : i1 = j := by omega
             have hst2 := ins_seg (A := A) (t := x.fName) (j := i1) (by omega)
             rw [← hat, ← insS_new (fun z hz => by rw [hat, hy0] at hz; cases hz; exact hne), ← hst, hat] at hst2
             refine ⟨k + 1, by omega, by omega, ?_⟩
             refine weak_sel [1] rfl ?_ ?_
             · repeat' (first | exact trivial | rfl | exact hst2 | (rw [hst2]; rfl) | refine And.intro ?_ ?_)
             · repeat' (first | exact trivial | rfl | refine And.intro ?_ ?_))
      · repeat' (first | refine sC ?_ | ((with_reducible refine isAwp ?_); first | (refine sS ?_; intro Q' hn he hr) | refine sA ?_) | (refine sH ?_; clear hn he hr Q') | refine sO ?_ | ((conv => whnf); first | refine sK ?_ | (refine sB ?_; repeat' (first | refine sb0 ?_ | (refine sb2 ?_ ?_ <;> intro hb <;> try exact cls))) | (refine ElemS.the hx0 ?_) | refine sP ?_ | (refine sL ?_; intro hlen) | (refine sX ?_; intro i1 i2 hi1 hi2 hj1 hj2; try simp only [cutL, lnM, lnA, lnC, lnN, lnT, lnD, lnR] at hi1 hi2 hj2) | refine sD ?_ | (refine sH ?_; clear hn he hr Q')))
        all_goals first
          | (have hat : insAt Op.bytesLess A x.fName = j := (firstAt_none hj.2 (by omega)).trans (by omega)
             obtain rfl : i1 = j := by omega
             have hst2 := ins_seg (A := A) (t := x.fName) (j := i1) (by omega)
             rw [← hat, ← insS_new (fun z hz => by rw [hat, List.getElem?_eq_none (by omega)] at hz; cases hz), ← hst, hat] at hst2
             refine ⟨k + 1, by omega, by omega, ?_⟩
             refine weak_sel [1] rfl ?_ ?_
             · repeat' (first | exact trivial | rfl | exact hst2 | (rw [hst2]; rfl) | refine And.intro ?_ ?_)
             · repeat' (first | exact trivial | rfl | refine And.intro ?_ ?_))
          | trace_state
    · repeat' (first | refine sC ?_ | ((with_reducible refine isAwp ?_); first | (refine sS ?_; intro Q' hn he hr) | refine sA ?_) | (refine sH ?_; clear hn he hr Q') | ((conv => whnf); first | refine sK ?_ | (refine sB ?_; repeat' (refine sb2 ?_ ?_ <;> intro hb <;> try exact cls)) | (refine ElemS.the hx0 ?_) | refine sP ?_ | (refine sL ?_; intro hlen) | (refine sH ?_; clear hn he hr Q')))
      refine ⟨k + 1, by omega, by omega, ?_⟩
      exact (by refine weak_to rfl rfl (by rw [fireS_no hx0 h3]; rfl) ?_; ((repeat' (first | exact trivial | refine And.intro ?_ ?_)) <;> (first | rfl | (conv => rhs; whnf) <;> (first | rfl | (refine congrArg (D.int _) ?_; omega)))))
  · obtain rfl : k = S.length := by omega
    rw [List.take_length]
    repeat' (first | refine sC ?_ | ((with_reducible refine isAwp ?_); first | (refine sS ?_; intro Q' hn he hr) | refine sA ?_) | (refine sH ?_; clear hn he hr Q') | ((conv => whnf); first | refine sK ?_ | (refine sB ?_; repeat' (refine sb2 ?_ ?_ <;> intro hb <;> try exact cls)) | ((with_reducible refine isRet ?_); (refine ret_freeze 0 rfl (Nat.zero_le _) ?_; refine ret_pick [] rfl rfl rfl ⟨?_, rfl⟩)) | (refine sL ?_; intro hlen) | (refine sH ?_; clear hn he hr Q')))
    all_goals rfl
end Go.Eng
