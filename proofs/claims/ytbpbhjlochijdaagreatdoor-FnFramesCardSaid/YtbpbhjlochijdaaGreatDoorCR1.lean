/-
  The check value of bytes, by the program and by the reference.
  No conditions.
-/
import Derived.Test.YtbpbhjlochijdaaGreatDoorED
import Derived.Test.YtbpbhjlochijdaaGreatDoorCR0
import Derived.Test.YtbpbhjlochijdaaGreatDoorW1
set_option linter.unusedVariables false
set_option linter.unusedSimpArgs false
set_option maxHeartbeats 4000000
namespace Go.Eng
open Go Go.RowKit Go.Proofs
set_option maxRecDepth 100000
theorem ArithS.shl8 {n : Int} {K : Int → Prop} (h : 0 ≤ n ∧ n ≤ 255) (hk : K (n * 256)) : ArithS .i64 (n * 2 ^ min (Int.toNat 8) IntKind.i64.bits) K :=
  ArithS.to (n * 256) (congrArg (n * ·) (by decide)) (wrap64 (by omega)) hk
theorem ArithS.shl1 {n : Int} {K : Int → Prop} (h : 0 ≤ n ∧ n ≤ 65536) (hk : K (n * 2)) : ArithS .i64 (n * 2 ^ min (Int.toNat 1) IntKind.i64.bits) K :=
  ArithS.to (n * 2) (congrArg (n * ·) (by decide)) (wrap64 (by omega)) hk
theorem xor_start {x : Nat} (h : x < 65536) (b : UInt8) : bitsD .xor .i64 (x : Int) ((b.toNat : Int) * 256) = ((crcBits 0 (x ^^^ (b.toNat * 256)) : Nat) : Int) := by
  have hb := b.toNat_lt
  rw [show (b.toNat : Int) * 256 = ((b.toNat * 256 : Nat) : Int) by omega, bits_xor (by omega) (by omega)]
  rfl
theorem xor_high {x : Nat} (h : x < 65536) (j : Nat) (y : Nat) (hy : crcBits j y = x) (hc : 65535 < 2 * x) : bitsD .xor .i64 (bitsD .and .i64 ((x : Int) * 2) 65535) 4129 = ((crcBits (j + 1) y : Nat) : Int) := by
  have h1 : (2 * x) &&& 65535 < 2 ^ 63 := Nat.lt_of_le_of_lt (Nat.and_le_right) (by decide)
  rw [show (x : Int) * 2 = ((2 * x : Nat) : Int) by omega, show (65535 : Int) = ((65535 : Nat) : Int) from rfl, bits_and (by omega) (by decide), show (4129 : Int) = ((4129 : Nat) : Int) from rfl, bits_xor h1 (by decide)]
  rw [crcBits, hy, crcBit, if_pos hc]
theorem xor_low {x : Nat} (j : Nat) (y : Nat) (hy : crcBits j y = x) (hc : ¬ 65535 < 2 * x) : (x : Int) * 2 = ((crcBits (j + 1) y : Nat) : Int) := by
  rw [crcBits, hy, crcBit, if_neg hc]
  omega
set_option maxHeartbeats 4000000 in
theorem c_spec_l01Crc (l : List UInt8) (hl : l.length ≤ 1048576) : FnC Tryz.prog 149 G0 0 [] [.str l, .int .i64 65535] (fun d os => d = .int .i64 (crcL l 65535 : Nat) ∧ os = []) := by
  refine fn_rule Tryz.func149 rfl (by decide +kernel) rfl (fun w0 F0 lent β0 => ?_)
  repeat' (first | refine sC ?_ | ((with_reducible refine isAwp ?_); first | (refine sS ?_; intro Q' hn he hr) | refine sA ?_) | (refine sH ?_; clear hn he hr Q') | refine sO ?_ | ((conv => whnf); first | refine sK ?_ | (refine sB ?_; repeat' (first | refine sb0 ?_ | (refine sb2 ?_ ?_ <;> intro hb <;> try exact cls))) | refine sP ?_ | (refine sE ?_; intro x hx) | (refine sF ?_; intro i y hi hy) | (refine sI ?_; intro i hi) | (refine sL ?_; intro hlen) | (refine sQ ?_; intro c hc hcm; try simp only [lnM, lnA, lnC, lnN] at hc) | (refine sX ?_; intro i1 i2 hi1 hi2 hj1 hj2; try simp only [cutL, lnM, lnA, lnC, lnN, lnT, lnD, lnR] at hi1 hi2 hj2) | refine sD ?_ | (refine ret_pick [] rfl rfl rfl ⟨?_, rfl⟩; conv => lhs; whnf) | (refine ret_pick [0] rfl rfl rfl ⟨rfl, ?_⟩) | (refine sH ?_; clear hn he hr Q')))
  refine loop_env (fun k : Nat => [(0,.str l),(1,.int .i64 (crcL (l.take k) 65535 : Nat)),(5,.int .i64 k)]) (fun k => []) (fun k => k ≤ l.length) (fun k => l.length - k) 0 (by omega) (by refine weak_to rfl rfl rfl ?_; ((repeat' (first | exact trivial | refine And.intro ?_ ?_)) <;> (first | rfl | (conv => rhs; whnf) <;> (first | rfl | (refine congrArg (D.int _) ?_; omega))))) (fun k hk Q' hn he hr => ?_)
  have h9 := crcL_lt (l := l.take k) (x := 65535) (by decide)
  generalize hX : crcL (l.take k) 65535 = X at h9
  repeat' (first | refine sC ?_ | ((with_reducible refine isAwp ?_); first | (refine sS ?_; intro Q' hn he hr) | refine sA ?_) | (refine sH ?_; clear hn he hr Q') | refine sO ?_ | ((conv => whnf); first | refine sK ?_ | (refine sB ?_; repeat' (first | refine sb0 ?_ | (refine sb2 ?_ ?_ <;> intro hb <;> try exact cls))) | (refine AskS.mk ⟨by omega, ?_⟩) | (with_reducible refine ArithS.shl8 (by have h77 := x.toNat_lt; omega) ?_) | (refine ArithS.in64 (by have h77 := x.toNat_lt; omega) ?_) | refine sP ?_ | (refine sE ?_; intro x hx) | (refine sF ?_; intro i y hi hy) | (refine sI ?_; intro i hi) | (refine sL ?_; intro hlen) | (refine sQ ?_; intro c hc hcm; try simp only [lnM, lnA, lnC, lnN] at hc) | (refine sX ?_; intro i1 i2 hi1 hi2 hj1 hj2; try simp only [cutL, lnM, lnA, lnC, lnN, lnT, lnD, lnR] at hi1 hi2 hj2) | refine sD ?_ | (refine ret_pick [] rfl rfl rfl ⟨?_, rfl⟩; conv => lhs; whnf) | (refine ret_pick [0] rfl rfl rfl ⟨rfl, ?_⟩) | (refine sH ?_; clear hn he hr Q')))
  · have h8 := xor_byte_lt h9 x
    refine loop_env (fun j : Nat => [(0,.str l),(1,.int .i64 (crcBits j (X ^^^ (x.toNat * 256)) : Nat)),(5,.int .i64 k),(6,.int .i64 j)]) (fun j => []) (fun j => j ≤ 8) (fun j => 8 - j) 0 (by omega) (by refine weak_to rfl rfl rfl ?_; exact ⟨rfl, congrArg (D.int .i64) (xor_start h9 x).symm, rfl, rfl, trivial⟩) (fun j hj Q' hn he hr => ?_)
    have h7 := crcBits_lt h8 j
    generalize hZ : crcBits j (X ^^^ (x.toNat * 256)) = Z at h7
    repeat' (first | refine sC ?_ | ((with_reducible refine isAwp ?_); first | (refine sS ?_; intro Q' hn he hr) | refine sA ?_) | (refine sH ?_; clear hn he hr Q') | refine sO ?_ | ((conv => whnf); first | refine sK ?_ | (refine sB ?_; repeat' (first | refine sb0 ?_ | (refine sb2 ?_ ?_ <;> intro hb <;> try exact cls))) | (refine AskS.mk ⟨by omega, ?_⟩) | (with_reducible refine ArithS.shl1 (by omega) ?_) | refine sP ?_ | (refine sE ?_; intro x hx) | (refine sF ?_; intro i y hi hy) | (refine sI ?_; intro i hi) | (refine sL ?_; intro hlen) | (refine sQ ?_; intro c hc hcm; try simp only [lnM, lnA, lnC, lnN] at hc) | (refine sX ?_; intro i1 i2 hi1 hi2 hj1 hj2; try simp only [cutL, lnM, lnA, lnC, lnN, lnT, lnD, lnR] at hi1 hi2 hj2) | refine sD ?_ | (refine ret_pick [] rfl rfl rfl ⟨?_, rfl⟩; conv => lhs; whnf) | (refine ret_pick [0] rfl rfl rfl ⟨rfl, ?_⟩) | (refine sH ?_; clear hn he hr Q')))
    · exact ⟨j + 1, by omega, by omega, by refine weak_to rfl rfl rfl ?_; exact ⟨rfl, congrArg (D.int .i64) (xor_high h7 j _ hZ (by omega)).symm, rfl, rfl, trivial⟩⟩
    · exact ⟨j + 1, by omega, by omega, by refine weak_to rfl rfl rfl ?_; exact ⟨rfl, congrArg (D.int .i64) (xor_low j _ hZ (by omega)).symm, rfl, rfl, trivial⟩⟩
    · obtain rfl : j = 8 := by omega
      refine ⟨k + 1, by omega, by omega, ?_⟩
      refine weak_to rfl rfl rfl ?_
      refine ⟨rfl, congrArg (D.int .i64) ?_, rfl, trivial⟩
      rw [crcL_succ hx, hX, ← hZ]
      rfl
  · obtain rfl : k = l.length := by omega
    rw [← hX, List.take_length]
set_option maxHeartbeats 4000000 in
theorem c_impl_Crc16 (l : List UInt8) (hl : l.length ≤ 1048576) : FnC Tryz.prog 66 G0 0 [] [.str l, .int .i64 65535] (fun d os => d = .int .i64 (crcL l 65535 : Nat) ∧ os = []) := by
  refine fn_rule Tryz.func66 rfl (by decide +kernel) rfl (fun w0 F0 lent β0 => ?_)
  have hv : inB 65535 0 65535 = true := rfl
  repeat' (first | refine sC ?_ | ((with_reducible refine isAwp ?_); first | (refine sS ?_; intro Q' hn he hr) | refine sA ?_) | (refine sH ?_; clear hn he hr Q') | refine sO ?_ | ((conv => whnf); first | refine sK ?_ | (refine sB ?_; repeat' (first | refine sb0 ?_ | (refine sb2 ?_ ?_ <;> intro hb <;> try exact cls))) | ((with_reducible refine isCall ?_); first | (refine call_pure (c_within _ _ _) rfl rfl ?_)) | ((with_reducible refine isCallQ ?_); first | (refine callQ_pure (c_within _ _ _) rfl rfl ?_)) | refine sP ?_ | (refine sE ?_; intro x hx) | (refine sF ?_; intro i y hi hy) | (refine sI ?_; intro i hi) | (refine sL ?_; intro hlen) | (refine sQ ?_; intro c hc hcm; try simp only [lnM, lnA, lnC, lnN] at hc) | (refine sX ?_; intro i1 i2 hi1 hi2 hj1 hj2; try simp only [cutL, lnM, lnA, lnC, lnN, lnT, lnD, lnR] at hi1 hi2 hj2) | refine sD ?_ | (refine ret_pick [] rfl rfl rfl ⟨?_, rfl⟩; conv => lhs; whnf) | (refine ret_pick [0] rfl rfl rfl ⟨rfl, ?_⟩) | (refine sH ?_; clear hn he hr Q')))
  refine loop_env (fun k : Nat => [(0,.str l),(5,.int .i64 (crcL (l.take k) 65535 : Nat)),(6,.int .i64 k)]) (fun k => []) (fun k => k ≤ l.length) (fun k => l.length - k) 0 (by omega) (by refine weak_to rfl rfl rfl ?_; ((repeat' (first | exact trivial | refine And.intro ?_ ?_)) <;> (first | rfl | (conv => rhs; whnf) <;> (first | rfl | (refine congrArg (D.int _) ?_; omega))))) (fun k hk Q' hn he hr => ?_)
  have h9 := crcL_lt (l := l.take k) (x := 65535) (by decide)
  generalize hX : crcL (l.take k) 65535 = X at h9
  repeat' (first | refine sC ?_ | ((with_reducible refine isAwp ?_); first | (refine sS ?_; intro Q' hn he hr) | refine sA ?_) | (refine sH ?_; clear hn he hr Q') | refine sO ?_ | ((conv => whnf); first | refine sK ?_ | (refine sB ?_; repeat' (first | refine sb0 ?_ | (refine sb2 ?_ ?_ <;> intro hb <;> try exact cls))) | (refine AskS.mk ⟨by omega, ?_⟩) | (with_reducible refine ArithS.shl8 (by have h77 := x.toNat_lt; omega) ?_) | (refine ArithS.in64 (by have h77 := x.toNat_lt; omega) ?_) | refine sP ?_ | (refine sE ?_; intro x hx) | (refine sF ?_; intro i y hi hy) | (refine sI ?_; intro i hi) | (refine sL ?_; intro hlen) | (refine sQ ?_; intro c hc hcm; try simp only [lnM, lnA, lnC, lnN] at hc) | (refine sX ?_; intro i1 i2 hi1 hi2 hj1 hj2; try simp only [cutL, lnM, lnA, lnC, lnN, lnT, lnD, lnR] at hi1 hi2 hj2) | refine sD ?_ | (refine ret_pick [] rfl rfl rfl ⟨?_, rfl⟩; conv => lhs; whnf) | (refine ret_pick [0] rfl rfl rfl ⟨rfl, ?_⟩) | (refine sH ?_; clear hn he hr Q')))
  · have h8 := xor_byte_lt h9 x
    refine loop_env (fun j : Nat => [(0,.str l),(5,.int .i64 (crcBits j (X ^^^ (x.toNat * 256)) : Nat)),(6,.int .i64 k),(7,.int .i64 j)]) (fun j => []) (fun j => j ≤ 8) (fun j => 8 - j) 0 (by omega) (by refine weak_to rfl rfl rfl ?_; exact ⟨rfl, congrArg (D.int .i64) (xor_start h9 x).symm, rfl, rfl, trivial⟩) (fun j hj Q' hn he hr => ?_)
    have h7 := crcBits_lt h8 j
    generalize hZ : crcBits j (X ^^^ (x.toNat * 256)) = Z at h7
    repeat' (first | refine sC ?_ | ((with_reducible refine isAwp ?_); first | (refine sS ?_; intro Q' hn he hr) | refine sA ?_) | (refine sH ?_; clear hn he hr Q') | refine sO ?_ | ((conv => whnf); first | refine sK ?_ | (refine sB ?_; repeat' (first | refine sb0 ?_ | (refine sb2 ?_ ?_ <;> intro hb <;> try exact cls))) | refine sP ?_ | (refine sE ?_; intro x hx) | (refine sF ?_; intro i y hi hy) | (refine sI ?_; intro i hi) | (refine sL ?_; intro hlen) | (refine sQ ?_; intro c hc hcm; try simp only [lnM, lnA, lnC, lnN] at hc) | (refine sX ?_; intro i1 i2 hi1 hi2 hj1 hj2; try simp only [cutL, lnM, lnA, lnC, lnN, lnT, lnD, lnR] at hi1 hi2 hj2) | refine sD ?_ | (refine ret_pick [] rfl rfl rfl ⟨?_, rfl⟩; conv => lhs; whnf) | (refine ret_pick [0] rfl rfl rfl ⟨rfl, ?_⟩) | (refine sH ?_; clear hn he hr Q')))
    · exact ⟨j + 1, by omega, by omega, by refine weak_to rfl rfl rfl ?_; exact ⟨rfl, congrArg (D.int .i64) (xor_high h7 j _ hZ (by omega)).symm, rfl, rfl, trivial⟩⟩
    · exact ⟨j + 1, by omega, by omega, by refine weak_to rfl rfl rfl ?_; exact ⟨rfl, congrArg (D.int .i64) (xor_low j _ hZ (by omega)).symm, rfl, rfl, trivial⟩⟩
    · obtain rfl : j = 8 := by omega
      refine ⟨k + 1, by omega, by omega, ?_⟩
      refine weak_to rfl rfl rfl ?_
      refine ⟨rfl, congrArg (D.int .i64) ?_, rfl, trivial⟩
      rw [crcL_succ hx, hX, ← hZ]
      rfl
  · obtain rfl : k = l.length := by omega
    rw [← hX, List.take_length]
end Go.Eng
