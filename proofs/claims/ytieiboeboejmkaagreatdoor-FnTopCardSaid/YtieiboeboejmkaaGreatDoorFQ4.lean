/-
  The names that a script fires, in order: the contracts of the program's functions and of the reference's.
  No conditions.
-/
import Derived.Test.YtieiboeboejmkaaGreatDoorED
import Derived.Test.YtieiboeboejmkaaGreatDoorQX
import Derived.Test.YtieiboeboejmkaaGreatDoorWS
import Derived.Test.YtieiboeboejmkaaGreatDoorVY
set_option linter.unusedVariables false
set_option linter.unusedSimpArgs false
set_option maxHeartbeats 4000000
namespace Go.Eng
open Go Go.RowKit Go.Proofs
set_option maxRecDepth 100000
set_option maxHeartbeats 8000000 in
theorem c_impl_CuesOfScript (S : List TLine) (hv : scrsB S = true) : FnC Tryz.prog 146 G0 0 [] [.sl 3 (S.map encLine)] (fun d os => d = .tup [.sl 1 ((fireS S).map encS), .int .i64 0] ∧ os = []) := by
  have hsl := scrs_len hv
  have hll := fireL_len S
  have hms : ((fireL S).mergeSort fun x y => decide (x ≤ y)).length = (fireL S).length := List.length_mergeSort _
  have hw : fireS S = Lib.compact ((fireL S).mergeSort fun x y => decide (x ≤ y)) := (words_sorted _).symm
  rw [hw]
  refine fn_rule Tryz.func146 rfl (by decide +kernel) rfl (fun w0 F0 lent β0 => ?_)
  repeat' (first | refine sC ?_ | ((with_reducible refine isAwp ?_); first | (refine sS ?_; intro Q' hn he hr) | refine sA ?_) | (refine sH ?_; clear hn he hr Q') | ((conv => whnf); first | refine sK ?_ | (refine sB ?_; repeat' (refine sb2 ?_ ?_ <;> intro hb <;> try exact cls)) | ((with_reducible refine isCall ?_); (refine call_pure (c_impl_ValidScript S) rfl rfl ?_)) | (refine sL ?_; intro hlen)))
  refine loop_env (fun k : Nat => [(4,.h 0),(10,.sl 3 (S.map encLine)),(11,.int .i64 S.length),(12,.int .i64 k)]) (fun k => [.row 9 1 ((fireL (S.take k)).map encS)]) (fun k => k ≤ S.length) (fun k => S.length - k) 0 (by omega) (by refine Weak.trans (weak_adopt 4 9 1 rfl rfl) (weak_to rfl rfl rfl ?_); exact ⟨rfl, rfl, rfl, rfl, trivial⟩) (fun k hk Q' hn he hr => ?_)
  have hkl2 := fireL_len (S.take k)
  have htl : (S.take k).length ≤ 40 := by rw [List.length_take]; omega
  by_cases hkl : k < S.length
  · obtain ⟨x, hx0⟩ : ∃ x, S[k]? = some x := ⟨_, List.getElem?_eq_getElem hkl⟩
    repeat' (first | refine sC ?_ | ((with_reducible refine isAwp ?_); first | (refine sS ?_; intro Q' hn he hr) | refine sA ?_) | (refine sH ?_; clear hn he hr Q') | ((conv => whnf); first | refine sK ?_ | (refine sB ?_; repeat' (refine sb2 ?_ ?_ <;> intro hb <;> try exact cls)) | (refine ElemS.the hx0 ?_) | refine sP ?_))
    all_goals first
      | (refine ⟨k + 1, by omega, by omega, ?_⟩
         exact (by refine weak_to rfl rfl (by rw [fireL_yes hx0 (by assumption), List.map_append]; rfl) ?_; ((repeat' (first | exact trivial | refine And.intro ?_ ?_)) <;> (first | rfl | (conv => rhs; whnf) <;> (first | rfl | (refine congrArg (D.int _) ?_; omega))))))
      | (refine ⟨k + 1, by omega, by omega, ?_⟩
         exact (by refine weak_to rfl rfl (by rw [fireL_no hx0 (by assumption)]; rfl) ?_; ((repeat' (first | exact trivial | refine And.intro ?_ ?_)) <;> (first | rfl | (conv => rhs; whnf) <;> (first | rfl | (refine congrArg (D.int _) ?_; omega))))))
  · obtain rfl : k = S.length := by omega
    rw [List.take_length]
    repeat' (first | refine sC ?_ | ((with_reducible refine isAwp ?_); first | (refine sS ?_; intro Q' hn he hr) | refine sA ?_) | (refine sH ?_; clear hn he hr Q') | ((conv => whnf); first | refine sK ?_ | (refine sB ?_; repeat' (refine sb2 ?_ ?_ <;> intro hb <;> try exact cls)) | ((with_reducible refine isCall ?_); first | (refine call_lend 0 rfl (c_slices_Sort (fireL S) (by omega)) ?_; rintro d os ⟨rfl, rfl⟩; refine ⟨_, _, rfl, ?_⟩) | (refine call_mv 0 rfl (c_slices_Compact _ (by omega)) rfl (flat_one (FlatO.map fun _ => rfl)) (by first | exact (rfl : _ = 0) | exact (rfl : _ = 1) | exact (rfl : _ = 2) | exact (rfl : _ = 3) | exact (rfl : _ = 4) | exact (rfl : _ = 5) | exact (rfl : _ = 6) | exact (rfl : _ = 7) | exact (rfl : _ = 8) | exact (rfl : _ = 9) | exact (rfl : _ = 10) | exact (rfl : _ = 11) | exact (rfl : _ = 12) | exact (rfl : _ = 13) | exact (rfl : _ = 14) | exact (rfl : _ = 15) | exact (rfl : _ = 16) | exact (rfl : _ = 17) | exact (rfl : _ = 18) | exact (rfl : _ = 19) | exact (rfl : _ = 20) | exact (rfl : _ = 21) | exact (rfl : _ = 22) | exact (rfl : _ = 23) | exact (rfl : _ = 24) | exact (rfl : _ = 25) | exact (rfl : _ = 26) | exact (rfl : _ = 27) | exact (rfl : _ = 28) | exact (rfl : _ = 29) | exact (rfl : _ = 30) | exact (rfl : _ = 31) | exact (rfl : _ = 32) | exact (rfl : _ = 33) | exact (rfl : _ = 34) | exact (rfl : _ = 35) | exact (rfl : _ = 36) | exact (rfl : _ = 37) | exact (rfl : _ = 38) | exact (rfl : _ = 39)) ?_)) | ((with_reducible refine isRet ?_); (refine ret_freeze 1 rfl (Nat.zero_le _) ?_; refine ret_pick [] rfl rfl rfl ⟨?_, rfl⟩)) | (refine sH ?_; clear hn he hr Q')))
    all_goals rfl
end Go.Eng
