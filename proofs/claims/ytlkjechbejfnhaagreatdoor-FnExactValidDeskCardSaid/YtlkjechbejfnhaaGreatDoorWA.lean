/-
  The words of a text, by the program: the library's functions that it calls, and what they come to.
  No conditions.
-/
import Derived.Test.YtlkjechbejfnhaaGreatDoorED
import Derived.Test.YtlkjechbejfnhaaGreatDoorRW
import Derived.Test.YtlkjechbejfnhaaGreatDoorWF0
import Derived.Test.YtlkjechbejfnhaaGreatDoorShelf
import Derived.Test.YtlkjechbejfnhaaGreatDoorShelf3
import Derived.Test.YtlkjechbejfnhaaGreatDoorP1
import Derived.Test.YtlkjechbejfnhaaGreatDoorWS
set_option linter.unusedVariables false
set_option linter.unusedSimpArgs false
set_option maxHeartbeats 4000000
namespace Go.Eng
open Go Go.RowKit Go.Proofs
set_option maxRecDepth 100000
theorem lowerA_map (l : List UInt8) : Lib.toLowerA l = lowL l := rfl
theorem lowL_len (l : List UInt8) : (lowL l).length = l.length := by simp [lowL]
theorem lowerB_lt {c : UInt8} (h : c.toNat < 128) : (Lib.lowerB c).toNat < 128 := by
  have : ∀ i : Fin 128, (Lib.lowerB (UInt8.ofNat i.val)).toNat < 128 := by decide
  have h2 := this ⟨c.toNat, h⟩
  simpa using h2
theorem lowL_ascii {l : List UInt8} (h : ∀ c ∈ l, c.toNat < 128) : ∀ c ∈ lowL l, c.toNat < 128 := by
  intro c hc
  obtain ⟨b, hb, rfl⟩ := List.mem_map.1 hc
  exact lowerB_lt (h b hb)
theorem c_strings_ToLower (l : List UInt8) (hl : l.length ≤ 1048576) (ha : ∀ c ∈ l, c.toNat < 128) : FnC Tryz.prog 275 G0 0 [] [.str l] (fun d os => d = .str (lowL l) ∧ os = []) := by
  refine FnC.of_calls (callFunc_enter Tryz.func275 rfl (by decide +kernel)) fun w F vs hF hln hro hG => ?_
  have h0 : vs.getD 0 undef = .string ⟨l.toArray⟩ := (Rep.ro (β := fun _ => none) _ _ (hro 0 (Nat.lt_of_sub_eq_succ rfl))).str_inv
  have hvs : vs = [vs.getD 0 undef] := by
    match vs, hln with
    | [v], _ => rfl
  rw [hvs, h0]
  refine (Tryz.strings_ToLower_ascii ⟨l.toArray⟩ w (by simp [ByteArray.size]; omega) (fun j b hb => ha b (List.mem_of_getElem? (by simpa using hb)))).mono ?_
  rintro e w' ⟨rfl, hb⟩
  refine ⟨_, rfl, below_grown0 hb, ?_⟩
  have : RO (fun b => F b ∨ w.heap.size ≤ b ∧ b < w'.heap.size) w' (.string ⟨(lowL l).toArray⟩) (.str (lowL l)) := .str _ (by rw [lowL_len]; exact Nat.le_trans hl (by decide))
  simpa [lowerA_map] using this
/-- The program's test for the end of a word. -/
theorem c_gap (x : Nat) : FnC Tryz.prog 276 G0 0 [] [.int .i32 x] (fun d os => d = .bool (gapR x) ∧ os = []) := by
  refine fn_rule Tryz.func276 rfl (by decide +kernel) rfl (fun w0 F0 lent β0 => ?_)
  repeat' (first | refine sC ?_ | ((with_reducible refine isAwp ?_); first | (refine sS ?_; intro Q' hn he hr) | refine sA ?_) | (refine sH ?_; clear hn he hr Q') | refine sO ?_ | ((conv => whnf); first | refine sK ?_ | (refine sB ?_; repeat' (first | refine sb0 ?_ | (refine sb2 ?_ ?_ <;> intro hb <;> try exact cls))) | refine sP ?_ | (refine sE ?_; intro x hx) | (refine sF ?_; intro i y hi hy) | (refine sI ?_; intro i hi) | (refine sL ?_; intro hlen) | (refine sQ ?_; intro c hc hcm; try simp only [lnM, lnA, lnC, lnN] at hc) | (refine sX ?_; intro i1 i2 hi1 hi2 hj1 hj2; try simp only [cutL, lnM, lnA, lnC, lnN, lnT, lnD, lnR] at hi1 hi2 hj2) | refine sD ?_ | (refine ret_pick [] rfl rfl rfl ⟨?_, rfl⟩; conv => lhs; whnf) | (refine ret_pick [0] rfl rfl rfl ⟨rfl, ?_⟩) | (refine sH ?_; clear hn he hr Q')))
  all_goals
    refine congrArg D.bool ?_
    unfold gapR
    rw [Bool.eq_iff_iff]
    simp only [cond_true, cond_false, Bool.not_eq_true', Bool.not_true, Bool.not_false, Bool.or_eq_false_iff, Bool.and_eq_false_iff, decide_eq_false_iff_not, reduceCtorEq, true_iff, false_iff, Bool.false_eq_true]
    omega
theorem mem_le_sum : ∀ {l : List Nat} {x : Nat}, x ∈ l → x ≤ l.sum
  | y :: l, x, h => by
    rw [List.sum_cons]
    rcases List.mem_cons.1 h with h | h
    · omega
    · have := mem_le_sum h; omega
theorem c_strings_FieldsFunc (l : List UInt8) (hl : l.length ≤ 1048576) (ha : ∀ c ∈ l, c.toNat < 128) : FnC Tryz.prog 274 G0 0 [] [.str l, .clo (.func 276) []] (fun d os => d = .h 0 ∧ os = [.row 9 1 ((flds [] l).map encS)]) := by
  refine FnC.of_calls_new (callFunc_enter Tryz.func274 rfl (by decide +kernel)) fun w F vs hF hln hro hG => ?_
  have h0 : vs.getD 0 undef = .string ⟨l.toArray⟩ := (Rep.ro (β := fun _ => none) _ _ (hro 0 (Nat.lt_of_sub_eq_succ rfl))).str_inv
  have h1 : vs.getD 1 undef = .func (.func 276) #[] #[] := by
    have h2 : RO F w (vs.getD 1 undef) (.clo (.func 276) []) := hro 1 (Nat.lt_of_sub_eq_succ rfl)
    generalize vs.getD 1 undef = x at h2
    cases h2 with
    | clo f cs ds hlc h =>
      have : cs = [] := List.length_eq_zero_iff.1 hlc
      rw [this]
  have hvs : vs = [vs.getD 0 undef, vs.getD 1 undef] := by
    match vs, hln with
    | [v, u], _ => rfl
  rw [hvs, h0, h1]
  have hp : PredGrows Tryz.prog 276 #[] gapR w := fun W x hx hb => by
    have h3 := (c_gap x).truth (w := W) (vs := [.int .i32 x]) rfl (fun i hi => by
      have : i = 0 := by have h4 : i < 1 := hi; omega
      subst this
      exact .int _ _)
    simpa using h3
  refine (Tryz.strings_FieldsFunc_grows 276 #[] (callFunc_enter Tryz.func276 rfl (by decide +kernel)) gapR ⟨l.toArray⟩ w (by simp [ByteArray.size]; omega) hp).mono ?_
  rintro e w' ⟨A, rfl, hA, hown, hb⟩
  rw [goFields_flds l ha] at hown ⊢
  have hlen := flds_len l []
  have hsum := flds_sum l []
  rw [List.length_map] at hown ⊢
  refine ⟨_, rfl, below_grown0 hb, ?_, fun b hb => ?_⟩
  · rcases hown.2 with ⟨hn, _⟩ | ⟨g, cap, cur, hv, hbg, hg, hcap, hmax, hcs, htk⟩
    · cases hn
    · have e1 := hv
      simp only [Value.slice.injEq, Option.some.injEq, Addr.mk.injEq] at e1
      obtain ⟨⟨rfl, _⟩, _, rfl⟩ := e1
      refine strRow_in (cur := cur) hg (Nat.le_refl _) hmax (by simpa using hcs) (fun i t ht => ?_) (fun t ht => ?_)
      · have hi := (List.getElem?_eq_some_iff.1 ht).1
        have h5 := congrArg (fun z => z[i]?) htk
        simp only [Nat.mul_one, List.map_map] at h5
        rw [List.getElem?_take_of_lt (by omega), List.getElem?_map, ht] at h5
        rw [← Array.getElem?_toList]
        exact h5
      · have h6 : t.length ≤ ((flds [] l).map List.length).sum := mem_le_sum (List.mem_map_of_mem ht)
        simp at hsum
        exact Nat.le_trans (Nat.le_trans h6 (Nat.le_trans hsum hl)) (by decide)
  · have : A = b := Option.some.inj hb
    omega
theorem c_impl_wordsOf (l : List UInt8) (hl : l.length ≤ 1048576) (ha : ∀ c ∈ l, c.toNat < 128) : FnC Tryz.prog 224 G0 0 [] [.str l] (fun d os => d = .h 0 ∧ os = [.row 9 1 ((wordsL l).map encS)]) := by
  have hll := lowL_len l
  have hfl := flds_len (lowL l) []
  rw [List.length_nil, Nat.zero_add, hll] at hfl
  have hms : ((flds [] (lowL l)).mergeSort fun x y => decide (x ≤ y)).length = (flds [] (lowL l)).length := List.length_mergeSort _
  have hw : wordsL l = Lib.compact ((flds [] (lowL l)).mergeSort fun x y => decide (x ≤ y)) := (words_sorted _).symm
  rw [hw]
  refine fn_rule Tryz.func224 rfl (by decide +kernel) rfl (fun w0 F0 lent β0 => ?_)
  repeat' (first | refine sC ?_ | ((with_reducible refine isAwp ?_); first | (refine sS ?_; intro Q' hn he hr) | refine sA ?_) | (refine sH ?_; clear hn he hr Q') | refine sO ?_ | ((conv => whnf); first | refine sK ?_ | (refine sB ?_; repeat' (first | refine sb0 ?_ | (refine sb2 ?_ ?_ <;> intro hb <;> try exact cls))) | ((with_reducible refine isCall ?_); first | (refine call_pure (c_strings_ToLower l hl ha) rfl rfl ?_) | (refine call_mk_look (c_strings_FieldsFunc (lowL l) (by omega) (lowL_ascii ha)) rfl (flat_one (FlatO.map fun _ => rfl)) (by first | exact (rfl : _ = 0) | exact (rfl : _ = 1) | exact (rfl : _ = 2) | exact (rfl : _ = 3) | exact (rfl : _ = 4) | exact (rfl : _ = 5) | exact (rfl : _ = 6) | exact (rfl : _ = 7) | exact (rfl : _ = 8) | exact (rfl : _ = 9) | exact (rfl : _ = 10) | exact (rfl : _ = 11) | exact (rfl : _ = 12) | exact (rfl : _ = 13) | exact (rfl : _ = 14) | exact (rfl : _ = 15) | exact (rfl : _ = 16) | exact (rfl : _ = 17) | exact (rfl : _ = 18) | exact (rfl : _ = 19) | exact (rfl : _ = 20) | exact (rfl : _ = 21) | exact (rfl : _ = 22) | exact (rfl : _ = 23) | exact (rfl : _ = 24) | exact (rfl : _ = 25) | exact (rfl : _ = 26) | exact (rfl : _ = 27) | exact (rfl : _ = 28) | exact (rfl : _ = 29) | exact (rfl : _ = 30) | exact (rfl : _ = 31) | exact (rfl : _ = 32) | exact (rfl : _ = 33) | exact (rfl : _ = 34) | exact (rfl : _ = 35) | exact (rfl : _ = 36) | exact (rfl : _ = 37) | exact (rfl : _ = 38) | exact (rfl : _ = 39)) ?_) | (refine call_lend 0 rfl (c_slices_Sort _ (by omega)) ?_; rintro d os ⟨rfl, rfl⟩; refine ⟨_, _, rfl, ?_⟩) | (refine call_mv 0 rfl (c_slices_Compact _ (by omega)) rfl (flat_one (FlatO.map fun _ => rfl)) (by first | exact (rfl : _ = 0) | exact (rfl : _ = 1) | exact (rfl : _ = 2) | exact (rfl : _ = 3) | exact (rfl : _ = 4) | exact (rfl : _ = 5) | exact (rfl : _ = 6) | exact (rfl : _ = 7) | exact (rfl : _ = 8) | exact (rfl : _ = 9) | exact (rfl : _ = 10) | exact (rfl : _ = 11) | exact (rfl : _ = 12) | exact (rfl : _ = 13) | exact (rfl : _ = 14) | exact (rfl : _ = 15) | exact (rfl : _ = 16) | exact (rfl : _ = 17) | exact (rfl : _ = 18) | exact (rfl : _ = 19) | exact (rfl : _ = 20) | exact (rfl : _ = 21) | exact (rfl : _ = 22) | exact (rfl : _ = 23) | exact (rfl : _ = 24) | exact (rfl : _ = 25) | exact (rfl : _ = 26) | exact (rfl : _ = 27) | exact (rfl : _ = 28) | exact (rfl : _ = 29) | exact (rfl : _ = 30) | exact (rfl : _ = 31) | exact (rfl : _ = 32) | exact (rfl : _ = 33) | exact (rfl : _ = 34) | exact (rfl : _ = 35) | exact (rfl : _ = 36) | exact (rfl : _ = 37) | exact (rfl : _ = 38) | exact (rfl : _ = 39)) ?_)) | ((with_reducible refine isCallQ ?_); first | (refine callQ_pure (c_strings_ToLower l hl ha) rfl rfl ?_)) | ((with_reducible refine isRet ?_); first | (refine ret_pick [1] rfl rfl rfl ⟨rfl, ?_⟩)) | refine sP ?_ | (refine sE ?_; intro x hx) | (refine sF ?_; intro i y hi hy) | (refine sI ?_; intro i hi) | (refine sL ?_; intro hlen) | (refine sQ ?_; intro c hc hcm; try simp only [lnM, lnA, lnC, lnN] at hc) | (refine sX ?_; intro i1 i2 hi1 hi2 hj1 hj2; try simp only [cutL, lnM, lnA, lnC, lnN, lnT, lnD, lnR] at hi1 hi2 hj2) | refine sD ?_ | (refine ret_pick [] rfl rfl rfl ⟨?_, rfl⟩; conv => lhs; whnf) | (refine ret_pick [0] rfl rfl rfl ⟨rfl, ?_⟩) | (refine sH ?_; clear hn he hr Q')))
  all_goals rfl
end Go.Eng
