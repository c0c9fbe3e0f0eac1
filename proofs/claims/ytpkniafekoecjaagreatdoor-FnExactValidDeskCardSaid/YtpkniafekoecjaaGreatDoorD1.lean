/-
  Numbers in decimal: what the program's and the reference's functions hand back.
  No conditions.
-/
import Derived.Test.YtpkniafekoecjaaGreatDoorED
import Derived.Test.YtpkniafekoecjaaGreatDoorEC
import Derived.Test.YtpkniafekoecjaaGreatDoorShelf
import Derived.Lib.ItoaLen
import Derived.Test.YtpkniafekoecjaaGreatDoorProg
set_option linter.unusedVariables false
set_option linter.unusedSimpArgs false
set_option maxHeartbeats 4000000
namespace Go.Eng
open Go Go.RowKit Go.Proofs
set_option maxRecDepth 100000
/-- The table of powers of ten. -/
def GP : Nat → Option (List D) := G1 6 (Lib.pow10Tab.map fun z => .int .u64 z)
theorem c_internal_FormatInt (n : Int) (h : -9223372036854775808 ≤ n ∧ n ≤ 9223372036854775807) : FnC Tryz.prog 271 GP 0 [] [.int .i64 n, .int .i64 10] (fun d os => d = .str (Lib.itoa n) ∧ os = []) := by
  refine FnC.of_calls (callFunc_enter Tryz.func271 rfl (by decide +kernel)) fun w F vs hF hl hr hG => ?_
  have h0 : vs.getD 0 undef = .int .i64 n := (Rep.ro (β := fun _ => none) _ _ (hr 0 (Nat.lt_of_sub_eq_succ rfl))).int_inv
  have h1 : vs.getD 1 undef = .int .i64 10 := (Rep.ro (β := fun _ => none) _ _ (hr 1 (Nat.lt_of_sub_eq_succ rfl))).int_inv
  have e : vs.toArray = #[.int .i64 n, .int .i64 10] := by rw [list2 hl, h0, h1]
  rw [e]
  refine (Tryz.internal_strconv_FormatInt_10 n h.1 h.2 w (tabIs_of (g := 6) (by kernel_rfl) (hG _ _ rfl))).mono ?_
  rintro e w' ⟨rfl, k, os, rfl⟩
  exact ⟨_, rfl, grown_grow _ _ _, .str _ (by have := Lib.itoa_length_le n h.1 h.2; simp only [maxLen]; omega)⟩
theorem c_strconv_FormatInt (n : Int) (h : -9223372036854775808 ≤ n ∧ n ≤ 9223372036854775807) : FnC Tryz.prog 241 GP 0 [] [.int .i64 n, .int .i64 10] (fun d os => d = .str (Lib.itoa n) ∧ os = []) := by
  refine fn_rule Tryz.func241 rfl (by decide +kernel) rfl (fun w0 F0 lent β0 => ?_)
  repeat' (first | refine sC ?_ | ((with_reducible refine isAwp ?_); first | (refine sS ?_; intro Q' hn he hr) | refine sA ?_) | (refine sH ?_; clear hn he hr Q') | refine sO ?_ | ((conv => whnf); first | refine sK ?_ | (refine sB ?_; repeat' (first | refine sb0 ?_ | (refine sb2 ?_ ?_ <;> intro hb <;> try exact cls))) | ((with_reducible refine isCall ?_); first | (refine call_pure (c_internal_FormatInt n h) rfl rfl ?_)) | ((with_reducible refine isCallQ ?_); first | (refine callQ_pure (c_internal_FormatInt n h) rfl rfl ?_)) | refine sP ?_ | (refine sE ?_; intro x hx) | (refine sF ?_; intro i y hi hy) | (refine sI ?_; intro i hi) | (refine sL ?_; intro hlen) | (refine sQ ?_; intro c hc hcm; try simp only [lnM, lnA, lnC, lnN] at hc) | (refine sX ?_; intro i1 i2 hi1 hi2 hj1 hj2; try simp only [cutL, lnM, lnA, lnC, lnN, lnT, lnD, lnR] at hi1 hi2 hj2) | refine sD ?_ | (refine ret_pick [] rfl rfl rfl ⟨?_, rfl⟩; conv => lhs; whnf) | (refine ret_pick [0] rfl rfl rfl ⟨rfl, ?_⟩) | (refine sH ?_; clear hn he hr Q')))
theorem c_impl_Decimal (n : Int) (h : -9223372036854775808 ≤ n ∧ n ≤ 9223372036854775807) : FnC Tryz.prog 195 GP 0 [] [.int .i64 n] (fun d os => d = .str (Lib.itoa n) ∧ os = []) := by
  refine fn_rule Tryz.func195 rfl (by decide +kernel) rfl (fun w0 F0 lent β0 => ?_)
  repeat' (first | refine sC ?_ | ((with_reducible refine isAwp ?_); first | (refine sS ?_; intro Q' hn he hr) | refine sA ?_) | (refine sH ?_; clear hn he hr Q') | refine sO ?_ | ((conv => whnf); first | refine sK ?_ | (refine sB ?_; repeat' (first | refine sb0 ?_ | (refine sb2 ?_ ?_ <;> intro hb <;> try exact cls))) | ((with_reducible refine isCall ?_); first | (refine call_pure (c_strconv_FormatInt n h) rfl rfl ?_)) | ((with_reducible refine isCallQ ?_); first | (refine callQ_pure (c_strconv_FormatInt n h) rfl rfl ?_)) | refine sP ?_ | (refine sE ?_; intro x hx) | (refine sF ?_; intro i y hi hy) | (refine sI ?_; intro i hi) | (refine sL ?_; intro hlen) | (refine sQ ?_; intro c hc hcm; try simp only [lnM, lnA, lnC, lnN] at hc) | (refine sX ?_; intro i1 i2 hi1 hi2 hj1 hj2; try simp only [cutL, lnM, lnA, lnC, lnN, lnT, lnD, lnR] at hi1 hi2 hj2) | refine sD ?_ | (refine ret_pick [] rfl rfl rfl ⟨?_, rfl⟩; conv => lhs; whnf) | (refine ret_pick [0] rfl rfl rfl ⟨rfl, ?_⟩) | (refine sH ?_; clear hn he hr Q')))
theorem digs_dec : ∀ (f n : Nat) (l : List UInt8), 0 < n → n < 10 ^ f → digs f n l = Lib.decDigits n ++ l
  | 0, n, l, h, h2 => by simp at h2; omega
  | f + 1, n, l, h, h2 => by
    rw [digs, if_neg (by omega), Lib.decDigits]
    by_cases h9 : n < 10
    · rw [dif_pos h9]
      have e1 : n / 10 = 0 := by omega
      have e2 : n % 10 = n := by omega
      rw [e1, e2]
      cases f <;> simp [digs]
    · rw [dif_neg h9, digs_dec f (n / 10) _ (by omega) (by rw [Nat.pow_succ] at h2; omega)]
      simp
theorem byteE_ofNat {z : Int} {k : Nat} (h : z = (k : Int)) (hk : k < 256) : [D.int .u8 z] = byteE (UInt8.ofNat k) := by
  subst h
  show [D.int .u8 (k : Int)] = [D.int .u8 ((UInt8.ofNat k).toNat : Int)]
  rw [UInt8.toNat_ofNat_of_lt' hk]
/-- A row of bytes, handed back as a text in the other order. -/
theorem itoa_pos {k : Nat} (h : 0 < k) (hk : k < 10 ^ 20) : Lib.itoa (k : Int) = digs 20 k [] := by
  rw [digs_dec 20 k [] h hk, Lib.itoa, if_neg (by omega)]
  simp
theorem itoa_negs {k : Nat} (h : 0 < k) (hk : k < 10 ^ 20) : Lib.itoa (-(k : Int)) = 45 :: digs 20 k [] := by
  rw [digs_dec 20 k [] h hk, Lib.itoa, if_pos (by omega)]
  simp
theorem drop_last_step {l : List UInt8} {j : Nat} {c : UInt8} (hj : l[j]? = some c) : (l.drop j).reverse = (l.drop (j + 1)).reverse ++ [c] := by
  have hlt := (List.getElem?_eq_some_iff.1 hj).1
  rw [List.drop_eq_getElem_cons hlt, (List.getElem?_eq_some_iff.1 hj).2]
  simp
end Go.Eng
