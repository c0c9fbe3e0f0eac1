/-
  Plain laws: the check value of bytes.
  No conditions.
-/
import Derived.Test.YtlkjechbejfnhaaGreatDoorED
set_option linter.unusedVariables false
set_option linter.unusedSimpArgs false
namespace Go.Eng
open Go Go.RowKit

theorem bits_xor {a b : Nat} (ha : a < 2 ^ 63) (hb : b < 2 ^ 63) : bitsD .xor .i64 (a : Int) (b : Int) = ((a ^^^ b : Nat) : Int) := by
  have h1 : (BitVec.ofInt 64 (a : Int)).toNat = a := by
    rw [BitVec.ofInt_natCast, BitVec.toNat_ofNat]; omega
  have h2 : (BitVec.ofInt 64 (b : Int)).toNat = b := by
    rw [BitVec.ofInt_natCast, BitVec.toNat_ofNat]; omega
  have h3 : a ^^^ b < 2 ^ 63 := Nat.xor_lt_two_pow ha hb
  show IntKind.i64.wrap (((BitVec.ofInt 64 (a : Int)) ^^^ (BitVec.ofInt 64 (b : Int))).toNat : Int) = _
  rw [BitVec.toNat_xor, h1, h2]
  exact wrap64 (by omega)
theorem bits_and {a b : Nat} (ha : a < 2 ^ 63) (hb : b < 2 ^ 63) : bitsD .and .i64 (a : Int) (b : Int) = ((a &&& b : Nat) : Int) := by
  have h1 : (BitVec.ofInt 64 (a : Int)).toNat = a := by
    rw [BitVec.ofInt_natCast, BitVec.toNat_ofNat]; omega
  have h2 : (BitVec.ofInt 64 (b : Int)).toNat = b := by
    rw [BitVec.ofInt_natCast, BitVec.toNat_ofNat]; omega
  have h3 : a &&& b < 2 ^ 63 := Nat.and_lt_two_pow a hb
  show IntKind.i64.wrap (((BitVec.ofInt 64 (a : Int)) &&& (BitVec.ofInt 64 (b : Int))).toNat : Int) = _
  rw [BitVec.toNat_and, h1, h2]
  exact wrap64 (by omega)
/-- One bit of the check value. -/
def crcBit (x : Nat) : Nat := if 65535 < 2 * x then ((2 * x) &&& 65535) ^^^ 4129 else 2 * x
def crcBits : Nat → Nat → Nat
  | 0, x => x
  | j + 1, x => crcBit (crcBits j x)
def crcStep (x : Nat) (b : UInt8) : Nat := crcBits 8 (x ^^^ (b.toNat * 256))
def crcL (l : List UInt8) (x : Nat) : Nat := l.foldl crcStep x
theorem crcBit_lt {x : Nat} (h : x < 65536) : crcBit x < 65536 := by
  unfold crcBit
  split
  · exact Nat.xor_lt_two_pow (n := 16) (Nat.and_lt_two_pow (n := 16) _ (by decide)) (by decide)
  · omega
theorem crcBits_lt {x : Nat} (h : x < 65536) : ∀ j, crcBits j x < 65536
  | 0 => h
  | j + 1 => crcBit_lt (crcBits_lt h j)
theorem xor_byte_lt {x : Nat} (h : x < 65536) (b : UInt8) : x ^^^ (b.toNat * 256) < 65536 :=
  Nat.xor_lt_two_pow (n := 16) h (by have := b.toNat_lt; omega)
theorem crcStep_lt {x : Nat} (h : x < 65536) (b : UInt8) : crcStep x b < 65536 := crcBits_lt (xor_byte_lt h b) 8
theorem crcL_nil (x : Nat) : crcL [] x = x := by
  unfold crcL
  rw [List.foldl_nil]
theorem crcL_cons (b : UInt8) (r : List UInt8) (x : Nat) : crcL (b :: r) x = crcL r (crcStep x b) := by
  unfold crcL
  rw [List.foldl_cons]
theorem crcL_lt {l : List UInt8} : ∀ {x : Nat}, x < 65536 → crcL l x < 65536 := by
  induction l with
  | nil => intro x h; rw [crcL_nil]; exact h
  | cons b r ih => intro x h; rw [crcL_cons]; exact ih (crcStep_lt h b)
theorem crcL_succ {l : List UInt8} {k : Nat} {b : UInt8} {x : Nat} (h : l[k]? = some b) : crcL (l.take (k + 1)) x = crcStep (crcL (l.take k) x) b := by
  have hk := (List.getElem?_eq_some_iff.1 h).1
  rw [List.take_add_one, h]
  unfold crcL
  rw [List.foldl_append, Option.toList_some, List.foldl_cons, List.foldl_nil]
theorem crcBit_inj {x y : Nat} (hx : x < 65536) (hy : y < 65536) (h : crcBit x = crcBit y) : x = y := by
  have odd : ∀ z : Nat, (((2 * z) &&& 65535) ^^^ 4129) % 2 = 1 := by
    intro z
    have h0 := Nat.xor_mod_two_pow (a := (2 * z) &&& 65535) (b := 4129) (n := 1)
    have h1 : ((2 * z) &&& 65535) % 2 = 0 := by
      rw [show (65535 : Nat) = 2 ^ 16 - 1 by decide, Nat.and_two_pow_sub_one_eq_mod]
      omega
    rw [show (2 : Nat) ^ 1 = 2 by decide, h1] at h0
    rw [h0]
    decide
  unfold crcBit at h
  by_cases h1 : 65535 < 2 * x <;> by_cases h2 : 65535 < 2 * y
  · rw [if_pos h1, if_pos h2] at h
    have h3 := congrArg (· ^^^ 4129) h
    simp only [Nat.xor_assoc, Nat.xor_self, Nat.xor_zero] at h3
    rw [show (65535 : Nat) = 2 ^ 16 - 1 by decide, Nat.and_two_pow_sub_one_eq_mod, Nat.and_two_pow_sub_one_eq_mod] at h3
    omega
  · rw [if_pos h1, if_neg h2] at h
    have := odd x
    omega
  · rw [if_neg h1, if_pos h2] at h
    have := odd y
    omega
  · rw [if_neg h1, if_neg h2] at h
    omega
theorem crcBits_inj {x y : Nat} (hx : x < 65536) (hy : y < 65536) : ∀ j, crcBits j x = crcBits j y → x = y
  | 0, h => h
  | j + 1, h => crcBits_inj hx hy j (crcBit_inj (crcBits_lt hx j) (crcBits_lt hy j) h)
/-- Check values that part stay parted. -/
theorem crcStep_inj {x y : Nat} (hx : x < 65536) (hy : y < 65536) {b : UInt8} (h : crcStep x b = crcStep y b) : x = y := by
  have h1 := crcBits_inj (xor_byte_lt hx b) (xor_byte_lt hy b) 8 h
  have h2 := congrArg (· ^^^ (b.toNat * 256)) h1
  simpa only [Nat.xor_assoc, Nat.xor_self, Nat.xor_zero] using h2
theorem crcStep_byte {x : Nat} (hx : x < 65536) {b c : UInt8} (h : crcStep x b = crcStep x c) : b = c := by
  have h1 := crcBits_inj (xor_byte_lt hx b) (xor_byte_lt hx c) 8 h
  have h2 := congrArg (x ^^^ ·) h1
  simp only [← Nat.xor_assoc, Nat.xor_self, Nat.zero_xor] at h2
  exact UInt8.toNat_inj.1 (by omega)
theorem crcL_inj {l : List UInt8} : ∀ {x y : Nat}, x < 65536 → y < 65536 → crcL l x = crcL l y → x = y := by
  induction l with
  | nil => intro x y _ _ h; rw [crcL_nil, crcL_nil] at h; exact h
  | cons b r ih =>
    intro x y hx hy h
    rw [crcL_cons, crcL_cons] at h
    exact crcStep_inj hx hy (ih (crcStep_lt hx b) (crcStep_lt hy b) h)
/-- One changed byte changes the check value. -/
theorem crcL_set {l : List UInt8} {k : Nat} {b : UInt8} {x : Nat} (hx : x < 65536) (hk : k < l.length) (h : crcL (l.set k b) x = crcL l x) : l.set k b = l := by
  induction l generalizing k x with
  | nil => rfl
  | cons c r ih =>
    cases k with
    | zero =>
      rw [List.set_cons_zero] at h ⊢
      rw [crcL_cons, crcL_cons] at h
      have h1 := crcL_inj (l := r) (crcStep_lt hx b) (crcStep_lt hx c) h
      rw [crcStep_byte hx h1]
    | succ k =>
      rw [List.set_cons_succ] at h ⊢
      rw [crcL_cons, crcL_cons] at h
      rw [ih (crcStep_lt hx c) (by simpa using hk) h]
end Go.Eng
