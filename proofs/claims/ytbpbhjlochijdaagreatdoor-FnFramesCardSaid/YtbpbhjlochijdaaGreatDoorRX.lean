/-
  One byte of a text that is changed by "exclusive or".
  No conditions.
-/
import Derived.Test.YtbpbhjlochijdaaGreatDoorED
set_option linter.unusedVariables false
set_option linter.unusedSimpArgs false
namespace Go.Eng
open Go Go.RowKit
theorem ArithS.u8in {n : Int} {K : Int → Prop} (h : 0 ≤ n ∧ n < 256) (hk : K n) : ArithS .u8 n K := ArithS.to n rfl (wrap8 h) hk
theorem bits_xor8 (y : UInt8) {v : Int} (h : 0 ≤ v ∧ v < 256) : bitsD .xor .u8 (y.toNat : Int) v = ((y ^^^ UInt8.ofNat v.toNat).toNat : Int) := by
  obtain ⟨b, rfl⟩ : ∃ b : Nat, v = b := ⟨v.toNat, by omega⟩
  have hy := y.toNat_lt
  have h1 : (BitVec.ofInt 8 (y.toNat : Int)).toNat = y.toNat := by
    rw [BitVec.ofInt_natCast, BitVec.toNat_ofNat]; omega
  have h2 : (BitVec.ofInt 8 (b : Int)).toNat = b := by
    rw [BitVec.ofInt_natCast, BitVec.toNat_ofNat]; omega
  have h3 : y.toNat ^^^ b < 2 ^ 8 := Nat.xor_lt_two_pow (by omega) (by omega)
  show IntKind.u8.wrap (((BitVec.ofInt 8 (y.toNat : Int)) ^^^ (BitVec.ofInt 8 (b : Int))).toNat : Int) = _
  rw [BitVec.toNat_xor, h1, h2, UInt8.toNat_xor, Int.toNat_natCast, UInt8.toNat_ofNat_of_lt' (show b < 256 by omega)]
  exact wrap8 (by omega)
theorem xor_ne {y z : UInt8} (h : z ≠ 0) : y ^^^ z ≠ y := fun e => by
  have h2 : y ^^^ (y ^^^ z) = y ^^^ y := by rw [e]
  rw [← UInt8.xor_assoc, UInt8.xor_self, UInt8.zero_xor] at h2
  exact h h2
theorem byte_pos {v : Int} (h : 1 ≤ v ∧ v < 256) : UInt8.ofNat v.toNat ≠ 0 := fun e => by
  have h2 : (UInt8.ofNat v.toNat).toNat = v.toNat := UInt8.toNat_ofNat_of_lt' (show v.toNat < 256 by omega)
  rw [e] at h2
  have : (0 : UInt8).toNat = 0 := rfl
  omega
/-- A row of bytes in which one byte is set. -/
theorem raw_set (S : List UInt8) (n : Nat) (y : UInt8) {v : Int} (h : 0 ≤ v ∧ v < 256) : (S.map byteE).set n [D.int .u8 (bitsD .xor .u8 (y.toNat : Int) v)] = (S.set n (y ^^^ UInt8.ofNat v.toNat)).map byteE := by
  rw [bits_xor8 y h, List.map_set]
  rfl
theorem byte_ten {y : UInt8} : (y.toNat : Int) = 10 ↔ y = 10 := by
  constructor
  · intro h
    exact UInt8.toNat_inj.1 (show y.toNat = (10 : UInt8).toNat by have : (10 : UInt8).toNat = 10 := rfl; omega)
  · rintro rfl; rfl
end Go.Eng
