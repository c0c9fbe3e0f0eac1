/-
  The lines of an archive: numbers of five digits, and the block of a line.
  No conditions.
-/
import Derived.Test.YtbpbhjlochijdaaGreatDoorED
import Derived.Test.YtbpbhjlochijdaaGreatDoorSP1
import Derived.Test.YtbpbhjlochijdaaGreatDoorCR1
import Derived.Test.YtbpbhjlochijdaaGreatDoorAR0
import Derived.Test.YtbpbhjlochijdaaGreatDoorD1
import Derived.Test.YtbpbhjlochijdaaGreatDoorLT
set_option linter.unusedVariables false
set_option linter.unusedSimpArgs false
set_option maxHeartbeats 4000000
namespace Go.Eng
open Go Go.RowKit Go.Proofs
set_option maxRecDepth 100000
theorem c_spec_l29Five (n : Nat) (h : n ≤ 65535) : FnC Tryz.prog 148 G0 0 [] [.int .i64 n] (fun d os => d = .str (fiveL (Lib.itoa n)) ∧ os = []) := by
  have h1 := Lib.itoa_length_le (n : Int) (by omega) (by omega)
  refine fn_rule Tryz.func148 rfl (by decide +kernel) rfl (fun w0 F0 lent β0 => ?_)
  repeat' (first | refine sC ?_ | ((with_reducible refine isAwp ?_); first | (refine sS ?_; intro Q' hn he hr) | refine sA ?_) | (refine sH ?_; clear hn he hr Q') | refine sO ?_ | ((conv => whnf); first | refine sK ?_ | (refine sB ?_; repeat' (first | refine sb0 ?_ | (refine sb2 ?_ ?_ <;> intro hb <;> try exact cls))) | ((with_reducible refine isCall ?_); first | (refine call_pure (c_spec_l01Dec (n : Int) (by omega)) rfl rfl ?_)) | ((with_reducible refine isCallQ ?_); first | (refine callQ_pure (c_spec_l01Dec (n : Int) (by omega)) rfl rfl ?_)) | refine sP ?_ | (refine sE ?_; intro x hx) | (refine sF ?_; intro i y hi hy) | (refine sI ?_; intro i hi) | (refine sL ?_; intro hlen) | (refine sQ ?_; intro c hc hcm; try simp only [lnM, lnA, lnC, lnN] at hc) | (refine sX ?_; intro i1 i2 hi1 hi2 hj1 hj2; try simp only [cutL, lnM, lnA, lnC, lnN, lnT, lnD, lnR] at hi1 hi2 hj2) | refine sD ?_ | (refine ret_pick [] rfl rfl rfl ⟨?_, rfl⟩; conv => lhs; whnf) | (refine ret_pick [0] rfl rfl rfl ⟨rfl, ?_⟩) | (refine sH ?_; clear hn he hr Q')))
  refine loop_env (fun j : Nat => [(3,.str (List.replicate j 48 ++ Lib.itoa n))]) (fun j => []) (fun j => j ≤ 5 - (Lib.itoa n).length) (fun j => 5 - j) 0 (by omega) (by refine weak_to rfl rfl rfl ?_; ((repeat' (first | exact trivial | refine And.intro ?_ ?_)) <;> (first | rfl | (conv => rhs; whnf) <;> (first | rfl | (refine congrArg (D.int _) ?_; omega))))) (fun j hj Q' hn he hr => ?_)
  have h2 : (List.replicate j (48 : UInt8) ++ Lib.itoa n).length = j + (Lib.itoa n).length := by simp
  repeat' (first | refine sC ?_ | ((with_reducible refine isAwp ?_); first | (refine sS ?_; intro Q' hn he hr) | refine sA ?_) | (refine sH ?_; clear hn he hr Q') | refine sO ?_ | ((conv => whnf); first | refine sK ?_ | (refine sB ?_; repeat' (first | refine sb0 ?_ | (refine sb2 ?_ ?_ <;> intro hb <;> try exact cls))) | (refine AskS.mk ⟨by show 1 + (List.replicate j (48 : UInt8) ++ Lib.itoa n).length ≤ maxLen; rw [h2]; unfold maxLen; omega, ?_⟩) | refine sP ?_ | (refine sE ?_; intro x hx) | (refine sF ?_; intro i y hi hy) | (refine sI ?_; intro i hi) | (refine sL ?_; intro hlen) | (refine sQ ?_; intro c hc hcm; try simp only [lnM, lnA, lnC, lnN] at hc) | (refine sX ?_; intro i1 i2 hi1 hi2 hj1 hj2; try simp only [cutL, lnM, lnA, lnC, lnN, lnT, lnD, lnR] at hi1 hi2 hj2) | refine sD ?_ | (refine ret_pick [] rfl rfl rfl ⟨?_, rfl⟩; conv => lhs; whnf) | (refine ret_pick [0] rfl rfl rfl ⟨rfl, ?_⟩) | (refine sH ?_; clear hn he hr Q')))
  · exact ⟨j + 1, by omega, by omega, (by refine weak_to rfl rfl rfl ?_; ((repeat' (first | exact trivial | refine And.intro ?_ ?_)) <;> (first | rfl | (conv => rhs; whnf) <;> (first | rfl | (refine congrArg (D.int _) ?_; omega)))))⟩
  · rw [fiveL_end (by omega) hj]
theorem c_impl_padded5 (n : Nat) (h : n ≤ 65535) : FnC Tryz.prog 65 GP 0 [] [.int .i64 n, .int .i64 5] (fun d os => d = .str (fiveL (Lib.itoa n)) ∧ os = []) := by
  have h1 := Lib.itoa_length_le (n : Int) (by omega) (by omega)
  refine fn_rule Tryz.func65 rfl (by decide +kernel) rfl (fun w0 F0 lent β0 => ?_)
  repeat' (first | refine sC ?_ | ((with_reducible refine isAwp ?_); first | (refine sS ?_; intro Q' hn he hr) | refine sA ?_) | (refine sH ?_; clear hn he hr Q') | refine sO ?_ | ((conv => whnf); first | refine sK ?_ | (refine sB ?_; repeat' (first | refine sb0 ?_ | (refine sb2 ?_ ?_ <;> intro hb <;> try exact cls))) | ((with_reducible refine isCall ?_); first | (refine call_pure (c_impl_Decimal (n : Int) (by omega)) rfl rfl ?_)) | ((with_reducible refine isCallQ ?_); first | (refine callQ_pure (c_impl_Decimal (n : Int) (by omega)) rfl rfl ?_)) | refine sP ?_ | (refine sE ?_; intro x hx) | (refine sF ?_; intro i y hi hy) | (refine sI ?_; intro i hi) | (refine sL ?_; intro hlen) | (refine sQ ?_; intro c hc hcm; try simp only [lnM, lnA, lnC, lnN] at hc) | (refine sX ?_; intro i1 i2 hi1 hi2 hj1 hj2; try simp only [cutL, lnM, lnA, lnC, lnN, lnT, lnD, lnR] at hi1 hi2 hj2) | refine sD ?_ | (refine ret_pick [] rfl rfl rfl ⟨?_, rfl⟩; conv => lhs; whnf) | (refine ret_pick [0] rfl rfl rfl ⟨rfl, ?_⟩) | (refine sH ?_; clear hn he hr Q')))
  refine loop_env (fun j : Nat => [(1,.int .i64 5),(5,.str (List.replicate j 48 ++ Lib.itoa n))]) (fun j => []) (fun j => j ≤ 5 - (Lib.itoa n).length) (fun j => 5 - j) 0 (by omega) (by refine weak_to rfl rfl rfl ?_; ((repeat' (first | exact trivial | refine And.intro ?_ ?_)) <;> (first | rfl | (conv => rhs; whnf) <;> (first | rfl | (refine congrArg (D.int _) ?_; omega))))) (fun j hj Q' hn he hr => ?_)
  have h2 : (List.replicate j (48 : UInt8) ++ Lib.itoa n).length = j + (Lib.itoa n).length := by simp
  repeat' (first | refine sC ?_ | ((with_reducible refine isAwp ?_); first | (refine sS ?_; intro Q' hn he hr) | refine sA ?_) | (refine sH ?_; clear hn he hr Q') | refine sO ?_ | ((conv => whnf); first | refine sK ?_ | (refine sB ?_; repeat' (first | refine sb0 ?_ | (refine sb2 ?_ ?_ <;> intro hb <;> try exact cls))) | (refine AskS.mk ⟨by show 1 + (List.replicate j (48 : UInt8) ++ Lib.itoa n).length ≤ maxLen; rw [h2]; unfold maxLen; omega, ?_⟩) | refine sP ?_ | (refine sE ?_; intro x hx) | (refine sF ?_; intro i y hi hy) | (refine sI ?_; intro i hi) | (refine sL ?_; intro hlen) | (refine sQ ?_; intro c hc hcm; try simp only [lnM, lnA, lnC, lnN] at hc) | (refine sX ?_; intro i1 i2 hi1 hi2 hj1 hj2; try simp only [cutL, lnM, lnA, lnC, lnN, lnT, lnD, lnR] at hi1 hi2 hj2) | refine sD ?_ | (refine ret_pick [] rfl rfl rfl ⟨?_, rfl⟩; conv => lhs; whnf) | (refine ret_pick [0] rfl rfl rfl ⟨rfl, ?_⟩) | (refine sH ?_; clear hn he hr Q')))
  · exact ⟨j + 1, by omega, by omega, (by refine weak_to rfl rfl rfl ?_; ((repeat' (first | exact trivial | refine And.intro ?_ ?_)) <;> (first | rfl | (conv => rhs; whnf) <;> (first | rfl | (refine congrArg (D.int _) ?_; omega)))))⟩
  · rw [fiveL_end (by omega) hj]
theorem CutS.lo (a : Nat) {lo : Int} {n : Nat} {K : Nat → Nat → Prop} (h : lo = (a : Int)) (h1 : a ≤ n) (hk : K a n) : CutS lo (n : Int) n K := by
  subst h
  exact CutS.nn h1 (Nat.le_refl _) hk
theorem byte5 {line : List UInt8} (h : ¬ line.length < 6) : ∃ y, line[5]? = some y := ⟨_, List.getElem?_eq_getElem (by omega)⟩
theorem crc_le (r : List UInt8) : crcL r 65535 ≤ 65535 := by have := crcL_lt (l := r) (x := 65535) (by decide); omega
theorem byte_eq {x : UInt8} {n : Nat} (h : (x.toNat : Int) = n) (hn : n < 256) : x = UInt8.ofNat n := by
  apply UInt8.toNat_inj.1
  rw [UInt8.toNat_ofNat_of_lt' (by show n < 256; omega)]
  omega
theorem bne_str {a b : List UInt8} (h : a ≠ b) : (!(a == b)) = true := by
  cases hc : a == b with
  | true => exact absurd (by simpa using hc) h
  | false => rfl
set_option maxHeartbeats 4000000 in
theorem c_impl_blockOf (line : List UInt8) (hl : line.length ≤ 1048576) : FnC Tryz.prog 69 GP 0 [] [.str line] (fun d os => d = .tup [.agg (encBlock (parseB line).1), .int .i64 (parseB line).2] ∧ os = []) := by
  have hrl : (line.drop 6).length ≤ 1048576 := by simp; omega
  have hc1 := cutTx_le 32 (line.drop 6)
  by_cases h6 : line.length < 6
  · refine fn_rule Tryz.func69 rfl (by decide +kernel) rfl (fun w0 F0 lent β0 => ?_)
    repeat' (first | refine sC ?_ | ((with_reducible refine isAwp ?_); first | (refine sS ?_; intro Q' hn he hr) | refine sA ?_) | (refine sH ?_; clear hn he hr Q') | refine sO ?_ | ((conv => whnf); first | refine sK ?_ | (refine sB ?_; repeat' (first | refine sb0 ?_ | (refine sb2 ?_ ?_ <;> intro hb <;> try exact cls))) | refine sP ?_ | (refine sE ?_; intro x hx) | (refine sF ?_; intro i y hi hy) | (refine sI ?_; intro i hi) | (refine sL ?_; intro hlen) | (refine sQ ?_; intro c hc hcm; try simp only [lnM, lnA, lnC, lnN] at hc) | (refine sX ?_; intro i1 i2 hi1 hi2 hj1 hj2; try simp only [cutL, lnM, lnA, lnC, lnN, lnT, lnD, lnR] at hi1 hi2 hj2) | refine sD ?_ | (refine ret_pick [] rfl rfl rfl ⟨?_, rfl⟩; conv => lhs; whnf) | (refine ret_pick [0] rfl rfl rfl ⟨rfl, ?_⟩) | (refine sH ?_; clear hn he hr Q')))
    all_goals (rw [parseB_a (.inl h6)]; rfl)
  obtain ⟨y5, hy5⟩ := byte5 h6
  by_cases h32 : y5 = 32
  case neg =>
    have hne : line[5]? ≠ some 32 := by rw [hy5]; simpa using h32
    have hv : ¬ ((y5.toNat : Int) = 32) := fun e => h32 (UInt8.toNat_inj.1 (by show y5.toNat = 32; omega))
    refine fn_rule Tryz.func69 rfl (by decide +kernel) rfl (fun w0 F0 lent β0 => ?_)
    repeat' (first | refine sC ?_ | ((with_reducible refine isAwp ?_); first | (refine sS ?_; intro Q' hn he hr) | refine sA ?_) | (refine sH ?_; clear hn he hr Q') | refine sO ?_ | ((conv => whnf); first | refine sK ?_ | (refine sB ?_; repeat' (first | refine sb0 ?_ | (refine sb2 ?_ ?_ <;> intro hb <;> try exact cls))) | (refine ByteS.the (k := 5) hy5 ?_) | refine sP ?_ | (refine sE ?_; intro x hx) | (refine sF ?_; intro i y hi hy) | (refine sI ?_; intro i hi) | (refine sL ?_; intro hlen) | (refine sQ ?_; intro c hc hcm; try simp only [lnM, lnA, lnC, lnN] at hc) | (refine sX ?_; intro i1 i2 hi1 hi2 hj1 hj2; try simp only [cutL, lnM, lnA, lnC, lnN, lnT, lnD, lnR] at hi1 hi2 hj2) | refine sD ?_ | (refine ret_pick [] rfl rfl rfl ⟨?_, rfl⟩; conv => lhs; whnf) | (refine ret_pick [0] rfl rfl rfl ⟨rfl, ?_⟩) | (refine sH ?_; clear hn he hr Q')))
    all_goals (rw [parseB_a (.inr hne)]; rfl)
  subst h32
  have hok : ¬ (line.length < 6 ∨ line[5]? ≠ some 32) := by rw [hy5]; simpa using h6
  by_cases hs : line.take 5 = crcT (line.drop 6)
  case neg =>
    refine fn_rule Tryz.func69 rfl (by decide +kernel) rfl (fun w0 F0 lent β0 => ?_)
    repeat' (first | refine sC ?_ | ((with_reducible refine isAwp ?_); first | (refine sS ?_; intro Q' hn he hr) | refine sA ?_) | (refine sH ?_; clear hn he hr Q') | refine sO ?_ | ((conv => whnf); first | refine sK ?_ | (refine sB ?_; repeat' (first | refine sb0 ?_ | (refine sb2 ?_ ?_ <;> intro hb <;> try exact cls))) | (refine CutS.lo 6 rfl (by omega) ?_) | (refine ByteS.the (k := 5) hy5 ?_) | ((with_reducible refine isCall ?_); first | (refine call_pure (FnC.anyG (c_impl_Crc16 (line.drop 6) hrl)) rfl rfl ?_) | (refine call_pure (c_impl_padded5 (crcL (line.drop 6) 65535) (crc_le _)) rfl rfl ?_) | (refine call_pure (FnC.anyG (c_strings_Cut (line.drop 6) 32 (by omega))) rfl rfl ?_) | (refine call_pure (FnC.anyG (c_strings_Cut (cutTx 32 (line.drop 6)).2.1 32 (by omega))) rfl rfl ?_) | (refine call_pure (FnC.anyG (c_impl_ValidBlock ⟨(cutTx 32 (line.drop 6)).1, (cutTx 32 (cutTx 32 (line.drop 6)).2.1).1, (cutTx 32 (cutTx 32 (line.drop 6)).2.1).2.1⟩)) rfl rfl ?_)) | ((with_reducible refine isCallQ ?_); first | (refine callQ_pure (FnC.anyG (c_impl_Crc16 (line.drop 6) hrl)) rfl rfl ?_) | (refine callQ_pure (c_impl_padded5 (crcL (line.drop 6) 65535) (crc_le _)) rfl rfl ?_) | (refine callQ_pure (FnC.anyG (c_strings_Cut (line.drop 6) 32 (by omega))) rfl rfl ?_) | (refine callQ_pure (FnC.anyG (c_strings_Cut (cutTx 32 (line.drop 6)).2.1 32 (by omega))) rfl rfl ?_) | (refine callQ_pure (FnC.anyG (c_impl_ValidBlock ⟨(cutTx 32 (line.drop 6)).1, (cutTx 32 (cutTx 32 (line.drop 6)).2.1).1, (cutTx 32 (cutTx 32 (line.drop 6)).2.1).2.1⟩)) rfl rfl ?_)) | refine sP ?_ | (refine sE ?_; intro x hx) | (refine sF ?_; intro i y hi hy) | (refine sI ?_; intro i hi) | (refine sL ?_; intro hlen) | (refine sQ ?_; intro c hc hcm; try simp only [lnM, lnA, lnC, lnN] at hc) | (refine sX ?_; intro i1 i2 hi1 hi2 hj1 hj2; try simp only [cutL, lnM, lnA, lnC, lnN, lnT, lnD, lnR] at hi1 hi2 hj2) | refine sD ?_ | (refine ret_pick [] rfl rfl rfl ⟨?_, rfl⟩; conv => lhs; whnf) | (refine ret_pick [0] rfl rfl rfl ⟨rfl, ?_⟩) | (refine sH ?_; clear hn he hr Q')))
    all_goals first | (rw [parseB_b hok hs]; rfl) | exact absurd (by assumption) hs
  rw [parseB_c hok hs]
  have hdl : (line.drop 6).length = line.length - 6 := List.length_drop
  refine fn_rule Tryz.func69 rfl (by decide +kernel) rfl (fun w0 F0 lent β0 => ?_)
  repeat' (first | refine sC ?_ | ((with_reducible refine isAwp ?_); first | (refine sS ?_; intro Q' hn he hr) | refine sA ?_) | (refine sH ?_; clear hn he hr Q') | refine sO ?_ | ((conv => whnf); first | refine sK ?_ | (refine sB ?_; repeat' (first | refine sb0 ?_ | (refine sb2 ?_ ?_ <;> intro hb <;> try exact cls))) | (refine CutS.lo 6 rfl (by omega) ?_) | (refine ByteS.the (k := 5) hy5 ?_) | ((with_reducible refine isCall ?_); first | (refine call_pure (FnC.anyG (c_impl_Crc16 (line.drop 6) hrl)) rfl rfl ?_) | (refine call_pure (c_impl_padded5 (crcL (line.drop 6) 65535) (crc_le _)) rfl rfl ?_) | (refine call_pure (FnC.anyG (c_strings_Cut (line.drop 6) 32 (by omega))) rfl rfl ?_) | (refine call_pure (FnC.anyG (c_strings_Cut (cutTx 32 (line.drop 6)).2.1 32 (by omega))) rfl rfl ?_) | (refine call_pure (FnC.anyG (c_impl_ValidBlock ⟨(cutTx 32 (line.drop 6)).1, (cutTx 32 (cutTx 32 (line.drop 6)).2.1).1, (cutTx 32 (cutTx 32 (line.drop 6)).2.1).2.1⟩)) rfl rfl ?_)) | ((with_reducible refine isCallQ ?_); first | (refine callQ_pure (FnC.anyG (c_impl_Crc16 (line.drop 6) hrl)) rfl rfl ?_) | (refine callQ_pure (c_impl_padded5 (crcL (line.drop 6) 65535) (crc_le _)) rfl rfl ?_) | (refine callQ_pure (FnC.anyG (c_strings_Cut (line.drop 6) 32 (by omega))) rfl rfl ?_) | (refine callQ_pure (FnC.anyG (c_strings_Cut (cutTx 32 (line.drop 6)).2.1 32 (by omega))) rfl rfl ?_) | (refine callQ_pure (FnC.anyG (c_impl_ValidBlock ⟨(cutTx 32 (line.drop 6)).1, (cutTx 32 (cutTx 32 (line.drop 6)).2.1).1, (cutTx 32 (cutTx 32 (line.drop 6)).2.1).2.1⟩)) rfl rfl ?_)) | refine sP ?_ | (refine sE ?_; intro x hx) | (refine sF ?_; intro i y hi hy) | (refine sI ?_; intro i hi) | (refine sL ?_; intro hlen) | (refine sQ ?_; intro c hc hcm; try simp only [lnM, lnA, lnC, lnN] at hc) | (refine sX ?_; intro i1 i2 hi1 hi2 hj1 hj2; try simp only [cutL, lnM, lnA, lnC, lnN, lnT, lnD, lnR] at hi1 hi2 hj2) | refine sD ?_ | (refine ret_pick [] rfl rfl rfl ⟨?_, rfl⟩; conv => lhs; whnf) | (refine ret_pick [0] rfl rfl rfl ⟨rfl, ?_⟩) | (refine sH ?_; clear hn he hr Q')))
  all_goals first
    | exact absurd hs (by assumption)
    | (have h9 : (cutTx 32 (cutTx 32 (line.drop 6)).2.1).2.2 = false := hb
       unfold parseR; rw [if_pos h9]; rfl)
    | (have h8 : (cutTx 32 (cutTx 32 (line.drop 6)).2.1).2.2 = true := by assumption
       have h9 : validB ⟨(cutTx 32 (line.drop 6)).1, (cutTx 32 (cutTx 32 (line.drop 6)).2.1).1, (cutTx 32 (cutTx 32 (line.drop 6)).2.1).2.1⟩ = false := hb
       unfold parseR; rw [if_neg (by rw [h8]; simp), if_pos h9]; rfl)
    | (have h8 : (cutTx 32 (cutTx 32 (line.drop 6)).2.1).2.2 = true := by assumption
       have h9 : validB ⟨(cutTx 32 (line.drop 6)).1, (cutTx 32 (cutTx 32 (line.drop 6)).2.1).1, (cutTx 32 (cutTx 32 (line.drop 6)).2.1).2.1⟩ = true := hb
       unfold parseR; rw [if_neg (by rw [h8]; simp), if_neg (by rw [h9]; simp)]; rfl)
end Go.Eng
