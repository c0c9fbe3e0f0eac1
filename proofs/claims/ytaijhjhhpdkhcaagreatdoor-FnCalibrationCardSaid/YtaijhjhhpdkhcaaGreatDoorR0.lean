/-
  The square root of a whole number below 2^63, in floating point: a whole number below 2^53, not negative.
  No conditions.
-/
import Derived.Laws.FloatArith
set_option linter.unusedVariables false
set_option linter.unusedSimpArgs false
namespace Go.Eng
open Go Ieee
set_option maxRecDepth 100000
theorem cut_even_le (neg : Bool) (n drop : Nat) : Toward.even.cut neg n drop ≤ n / (1 <<< min drop (n.log2 + 2)) + 1 := by
  have h : ∀ b : Bool, b.toNat ≤ 1 := by decide
  show n / (1 <<< min drop (n.log2 + 2)) + Bool.toNat _ ≤ _
  exact Nat.add_le_add_left (h _) _
theorem cut_even_zero (neg : Bool) (n : Nat) : Toward.even.cut neg n 0 = n := by
  unfold Toward.cut
  simp [Nat.mod_one]
theorem read_nearest (mag : Nat) (place : Int) (L : Nat) (hL : (max (place + mag.log2 - 52) (-1074) + 1074).toNat ≤ L) (hL2 : L ≤ 2000) :
    ∃ m p, double.read (double.nearest false mag place) = .number false m p ∧ m < 2 ^ 53 ∧ -1074 ≤ p ∧ p ≤ -1074 + L + 1 := by
  have e1 : double.fractionBits = 52 := rfl
  have e2 : double.leastPlace = -1074 := by decide
  have e3 : double.binade = 2 ^ 52 := rfl
  have e4 : double.infRung = 2047 * 2 ^ 52 := by decide
  have e5 : double.signWeight = 2 ^ 63 := by decide
  -- the rung
  obtain ⟨r, hr, hrl⟩ : ∃ r, double.nearest false mag place = r ∧ r ≤ L * 2 ^ 52 + 2 ^ 53 := by
    refine ⟨_, rfl, ?_⟩
    unfold Format.nearest
    split
    · exact Nat.zero_le _
    · rename_i hm
      simp only [Format.word, Bool.false_eq_true, if_false, e1, e2, e3]
      refine Nat.le_trans (Nat.min_le_left _ _) ?_
      generalize hlast : max (place + (mag.log2 : Int) - 52) (-1074) = last at hL ⊢
      have h1 : (last - -1074).toNat ≤ L := by rw [show last - -1074 = last + 1074 by omega]; exact hL
      have h2 : Toward.even.cut false (mag <<< (place - last).toNat) (last - place).toNat ≤ 2 ^ 53 := by
        have hlt := Nat.lt_log2_self (n := mag)
        have hp : place + (mag.log2 : Int) - 52 ≤ last := by omega
        rcases Int.lt_or_le place last with hc | hc
        · rw [show (place - last).toNat = 0 by omega, Nat.shiftLeft_zero]
          refine Nat.le_trans (cut_even_le _ _ _) ?_
          rw [Nat.one_shiftLeft]
          have h3 : mag / 2 ^ min (last - place).toNat (mag.log2 + 2) < 2 ^ 53 := by
            rw [Nat.div_lt_iff_lt_mul (Nat.two_pow_pos _), ← Nat.pow_add]
            exact Nat.lt_of_lt_of_le hlt (Nat.pow_le_pow_right (by omega) (by omega))
          omega
        · rw [show (last - place).toNat = 0 by omega, cut_even_zero, Nat.shiftLeft_eq]
          have h3 : mag * 2 ^ (place - last).toNat < 2 ^ (mag.log2 + 1) * 2 ^ (place - last).toNat := Nat.mul_lt_mul_of_pos_right hlt (Nat.two_pow_pos _)
          rw [← Nat.pow_add] at h3
          exact Nat.le_trans (Nat.le_of_lt h3) (Nat.pow_le_pow_right (by omega) (by omega))
      exact Nat.add_le_add (Nat.mul_le_mul_right _ h1) h2
  have hr2 : r < 2047 * 2 ^ 52 := by omega
  rw [hr]
  unfold Format.read
  simp only [e2, e3, e4, e5]
  have h0 : r / 2 ^ 63 = 0 := Nat.div_eq_of_lt (by omega)
  have h1 : r % 2 ^ 63 = r := Nat.mod_eq_of_lt (by omega)
  rw [h0, h1]
  rcases Nat.lt_or_ge r (2 ^ 52) with hc | hc
  · rw [if_pos hc]
    exact ⟨_, _, rfl, by omega, by omega, by omega⟩
  · rw [if_neg (by omega), if_pos hr2]
    refine ⟨_, _, rfl, ?_, by omega, ?_⟩
    · have := Nat.mod_lt r (show 2 ^ 52 > 0 by omega)
      omega
    · have : r / 2 ^ 52 ≤ L + 2 := by
        have := Nat.div_le_div_right (c := 2 ^ 52) hrl
        omega
      omega
theorem rootFrom_sq (n : Nat) : ∀ (todo root : Nat), root * root ≤ n → Datum.rootFrom n todo root * Datum.rootFrom n todo root ≤ n
  | 0, root, h => h
  | todo + 1, root, h => by
    unfold Datum.rootFrom
    simp only
    split
    · rename_i h2; exact rootFrom_sq n todo _ h2
    · exact rootFrom_sq n todo _ h
theorem sqrt_small (n : Int) (h : 0 < n ∧ n ≤ 9223372036854775807) : ∃ r m, double.sqrt (floatOfInt .f64 n) = some r ∧ floatToIntVal .f64 r .i64 = some m ∧ 0 ≤ m ∧ m ≤ 9223372036854775807 := by
  have hx : floatOfInt .f64 n = double.nearest false n.natAbs 0 := by
    show double.write (.number (n < 0) n.natAbs 0) = _
    rw [decide_eq_false (by omega)]; rfl
  have hlog : n.natAbs.log2 ≤ 62 := by
    have := (Nat.log2_lt (n := n.natAbs) (k := 63) (by omega)).2 (by omega)
    omega
  obtain ⟨m, p, hm, hmb, hp1, hp2⟩ := read_nearest n.natAbs 0 1084 (by omega) (by omega)
  rw [hx]
  unfold Format.sqrt
  rw [hm]
  -- the root
  have key : ∃ M P, Datum.root (double.fractionBits + 2) (.number false m p) = some (.number false M P) ∧ (max (P + (M.log2 : Int) - 52) (-1074) + 1074).toNat ≤ 1060 := by
    unfold Datum.root
    simp only
    split
    · rename_i h0
      subst h0
      refine ⟨0, p, rfl, ?_⟩
      simp only [show Nat.log2 0 = 0 by decide]
      omega
    · rename_i h0
      refine ⟨_, _, rfl, ?_⟩
      rw [show double.fractionBits + 2 = 54 from rfl]
      have hl : m.log2 ≤ 52 := by
        have := (Nat.log2_lt (n := m) (k := 53) (by omega)).2 hmb
        omega
      generalize hmore : 2 * 54 - m.log2 + ((p - ((2 * 54 - m.log2 : Nat) : Int)) % 2).toNat = more
      have hmore1 : 56 ≤ more ∧ more ≤ 109 - m.log2 := by omega
      have hn : m <<< more < 2 ^ 110 := by
        rw [Nat.shiftLeft_eq]
        have h1 := Nat.lt_log2_self (n := m)
        have h2 : m * 2 ^ more < 2 ^ (m.log2 + 1) * 2 ^ more := Nat.mul_lt_mul_of_pos_right h1 (Nat.two_pow_pos _)
        rw [← Nat.pow_add] at h2
        exact Nat.lt_of_lt_of_le h2 (Nat.pow_le_pow_right (by omega) (by omega))
      have hsq := rootFrom_sq (m <<< more) ((m <<< more).log2 / 2 + 1) 0 (Nat.zero_le _)
      generalize hw : Datum.rootFrom (m <<< more) ((m <<< more).log2 / 2 + 1) 0 = whole at hsq ⊢
      have hwb : whole < 2 ^ 55 := by
        rcases Nat.lt_or_ge whole (2 ^ 55) with h1 | h1
        · exact h1
        · have := Nat.mul_le_mul h1 h1
          omega
      have hb : ∀ b : Bool, b.toNat ≤ 1 := by decide
      have hM := hb (whole * whole != m <<< more)
      generalize (whole * whole != m <<< more).toNat = bt at hM ⊢
      have hlM : (2 * whole + bt).log2 ≤ 55 := by
        rcases Nat.eq_zero_or_pos (2 * whole + bt) with h1 | h1
        · rw [h1]; decide
        · have := (Nat.log2_lt (n := 2 * whole + bt) (k := 56) (by omega)).2 (by omega)
          omega
      omega
  obtain ⟨M, P, hroot, hL⟩ := key
  rw [hroot]
  obtain ⟨m2, p2, hm2, hmb2, hq1, hq2⟩ := read_nearest M P 1060 hL (by omega)
  have hcut : Toward.zero.cut false m2 (-p2).toNat ≤ m2 := by
    unfold Toward.cut
    show m2 / _ + 0 ≤ m2
    exact Nat.div_le_self _ _
  refine ⟨double.nearest false M P, (Toward.zero.cut false m2 (-p2).toNat : Nat), rfl, ?_, by omega, by omega⟩
  unfold floatToIntVal
  have hd : (FloatKind.f64.decode (double.nearest false M P)).toInt .zero = some ((Toward.zero.cut false m2 (-p2).toNat : Nat) : Int) := by
    show (double.read (double.nearest false M P)).toInt .zero = _
    rw [hm2]
    unfold Datum.toInt Datum.integral
    simp only
    rw [show p2.toNat = 0 by omega, Nat.shiftLeft_zero]
    rfl
  rw [hd]
  simp only
  rw [if_pos]
  exact ⟨by show (-9223372036854775808 : Int) ≤ _; omega, by show _ ≤ (9223372036854775807 : Int); omega⟩
end Go.Eng
