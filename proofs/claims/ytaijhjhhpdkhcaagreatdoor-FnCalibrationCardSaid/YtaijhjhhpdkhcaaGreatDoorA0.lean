/-
  Angles, rounded quotients and sines, in plain words.
  No conditions.
-/
import Derived.Test.YtaijhjhhpdkhcaaGreatDoorEC
set_option linter.unusedVariables false
set_option linter.unusedSimpArgs false
namespace Go.Eng
theorem tmod_or (a n : Int) : (0 ≤ a ∧ a.tmod n = a % n) ∨ (a < 0 ∧ a.tmod n = -((-a) % n)) := by
  have h : 0 ≤ a ∨ a < 0 := by omega
  rcases h with h | h
  · exact .inl ⟨h, Int.tmod_eq_emod_of_nonneg h⟩
  · refine .inr ⟨h, ?_⟩
    have h2 := Int.tmod_eq_emod_of_nonneg (a := -a) (b := n) (by omega)
    rw [Int.neg_tmod] at h2
    omega
theorem tdiv_or (a n : Int) : (0 ≤ a ∧ a.tdiv n = a / n) ∨ (a < 0 ∧ a.tdiv n = -((-a) / n)) := by
  have h : 0 ≤ a ∨ a < 0 := by omega
  rcases h with h | h
  · exact .inl ⟨h, Int.tdiv_eq_ediv_of_nonneg h⟩
  · refine .inr ⟨h, ?_⟩
    have h2 := Int.tdiv_eq_ediv_of_nonneg (a := -a) (b := n) (by omega)
    rw [Int.neg_tdiv] at h2
    omega
/-- The nearest quotient, halves away from 0. -/
def rnd (a b : Int) : Int := if 0 ≤ a then (2 * a + b) / (2 * b) else -((b - 2 * a) / (2 * b))
theorem half_div {m b : Int} (hb : 0 < b) : (2 * m + b) / (2 * b) = if m % b < b - m % b then m / b else m / b + 1 := by
  have e := Int.emod_add_mul_ediv m b
  have h1 := Int.emod_nonneg m (show b ≠ 0 by omega)
  have h2 := Int.emod_lt_of_pos m hb
  have key : ∀ q : Int, 2 * (b * q) ≤ 2 * m + b → 2 * m + b < 2 * (b * q) + 2 * b → (2 * m + b) / (2 * b) = q := by
    intro q g1 g2
    have e1 : q * (2 * b) = 2 * (b * q) := by rw [Int.mul_left_comm, Int.mul_comm q b]
    have e2 : (q + 1) * (2 * b) = 2 * (b * q) + 2 * b := by rw [Int.add_mul, e1]; omega
    have g3 := (Int.le_ediv_iff_mul_le (a := q) (b := 2 * m + b) (c := 2 * b) (by omega)).2 (by omega)
    have g4 := (Int.ediv_lt_iff_lt_mul (a := 2 * m + b) (b := q + 1) (c := 2 * b) (by omega)).2 (by omega)
    omega
  split
  · exact key _ (by omega) (by omega)
  · refine key _ ?_ ?_ <;> rw [Int.mul_add] <;> omega
theorem rnd_pos {a b : Int} (ha : 0 ≤ a) (hb : 0 < b) : rnd a b = if a % b < b - a % b then a / b else a / b + 1 := by
  rw [rnd, if_pos ha, half_div hb]
theorem rnd_neg {a b : Int} (ha : a < 0) (hb : 0 < b) : rnd a b = -(if (-a) % b < b - (-a) % b then (-a) / b else (-a) / b + 1) := by
  rw [rnd, if_neg (by omega), ← half_div hb, show 2 * -a + b = b - 2 * a by omega]
theorem rnd_bound {a b m : Int} (hb : 0 < b) (hl : -(b * m) ≤ a) (hh : a ≤ b * m) : -m ≤ rnd a b ∧ rnd a b ≤ m := by
  have h0 : ∀ x : Int, 0 ≤ x → x ≤ b * m → (2 * x + b) / (2 * b) ≤ m ∧ 0 ≤ (2 * x + b) / (2 * b) := by
    intro x g0 g1
    have e2 : (m + 1) * (2 * b) = 2 * (b * m) + 2 * b := by rw [Int.add_mul, Int.mul_left_comm, Int.mul_comm m b]; omega
    have g4 := (Int.ediv_lt_iff_lt_mul (a := 2 * x + b) (b := m + 1) (c := 2 * b) (by omega)).2 (by omega)
    have g5 := Int.ediv_nonneg (a := 2 * x + b) (b := 2 * b) (by omega) (by omega)
    omega
  unfold rnd
  split
  · have := h0 a (by omega) hh
    omega
  · have := h0 (-a) (by omega) (by omega)
    rw [show 2 * -a + b = b - 2 * a by omega] at this
    omega
def sineT : List Int := [0, 17452, 34899, 52336, 69756, 87156, 104528, 121869, 139173, 156434, 173648, 190809, 207912, 224951, 241922, 258819, 275637, 292372, 309017, 325568, 342020, 358368, 374607, 390731, 406737, 422618, 438371, 453990, 469472, 484810, 500000, 515038, 529919, 544639, 559193, 573576, 587785, 601815, 615661, 629320, 642788, 656059, 669131, 681998, 694658, 707107, 719340, 731354, 743145, 754710, 766044, 777146, 788011, 798636, 809017, 819152, 829038, 838671, 848048, 857167, 866025, 874620, 882948, 891007, 898794, 906308, 913545, 920505, 927184, 933580, 939693, 945519, 951057, 956305, 961262, 965926, 970296, 974370, 978148, 981627, 984808, 987688, 990268, 992546, 994522, 996195, 997564, 998630, 999391, 999848, 1000000]
def sineAt (k : Nat) : Int := sineT.getD k 0
theorem sineT_length : sineT.length = 91 := rfl
theorem sineT_rise : (List.range 90).all (fun k => decide (0 ≤ sineAt k ∧ sineAt k ≤ sineAt (k + 1) ∧ sineAt (k + 1) ≤ 1000000)) = true := by decide +kernel
theorem sineT_at {k : Nat} (h : k < 90) : 0 ≤ sineAt k ∧ sineAt k ≤ sineAt (k + 1) ∧ sineAt (k + 1) ≤ 1000000 := by
  have := List.all_eq_true.1 sineT_rise k (List.mem_range.2 h)
  simpa using this
/-- The sine of an angle of the first quarter. -/
def sinQ (n : Int) : Int := sineAt (n / 1000).toNat + rnd ((sineAt ((n / 1000).toNat + 1) - sineAt (n / 1000).toNat) * (n % 1000)) 1000
def foldA (n : Int) : Int := if 90000 < n then 180000 - n else n
def sinA (a : Int) : Int := if a % 360000 < 180000 then sinQ (foldA (a % 360000)) else -sinQ (foldA (a % 360000 - 180000))
def cosA (a : Int) : Int := sinA (a % 360000 + 90000)
theorem rnd_zero (b : Int) (hb : 0 < b) : rnd 0 b = 0 := by
  have h := rnd_bound (a := 0) (b := b) (m := 0) hb (by simp) (by simp)
  omega
theorem sinQ_whole {n : Int} (h : n % 1000 = 0) : sinQ n = sineAt (n / 1000).toNat := by
  unfold sinQ
  rw [h, Int.mul_zero, rnd_zero 1000 (by omega)]; omega
theorem sinQ_mid {d r : Int} (hd : 0 ≤ d) (h0 : 0 ≤ r) (h1 : r ≤ 1000) : 0 ≤ rnd (d * r) 1000 ∧ rnd (d * r) 1000 ≤ d := by
  have g1 : d * r ≤ d * 1000 := Int.mul_le_mul_of_nonneg_left h1 hd
  have g2 : 0 ≤ d * r := Int.mul_nonneg hd h0
  have := rnd_bound (a := d * r) (b := 1000) (m := d) (by omega) (by omega) (by omega)
  refine ⟨?_, this.2⟩
  unfold rnd
  rw [if_pos g2]
  exact Int.ediv_nonneg (by omega) (by omega)
theorem sinQ_bound {n : Int} (h0 : 0 ≤ n) (h1 : n ≤ 90000) : 0 ≤ sinQ n ∧ sinQ n ≤ 1000000 := by
  have hc : n = 90000 ∨ n < 90000 := by omega
  rcases hc with rfl | hc
  · decide +kernel
  · have hk := sineT_at (k := (n / 1000).toNat) (by omega)
    have hm := sinQ_mid (d := sineAt ((n / 1000).toNat + 1) - sineAt (n / 1000).toNat) (r := n % 1000) (by omega) (by omega) (by omega)
    unfold sinQ
    omega
theorem sinA_bound (a : Int) : -1000000 ≤ sinA a ∧ sinA a ≤ 1000000 := by
  unfold sinA foldA
  split
  · split
    · have := sinQ_bound (n := 180000 - a % 360000) (by omega) (by omega); omega
    · have := sinQ_bound (n := a % 360000) (by omega) (by omega); omega
  · split
    · have := sinQ_bound (n := 180000 - (a % 360000 - 180000)) (by omega) (by omega); omega
    · have := sinQ_bound (n := a % 360000 - 180000) (by omega) (by omega); omega
theorem cosA_bound (a : Int) : -1000000 ≤ cosA a ∧ cosA a ≤ 1000000 := sinA_bound _
theorem mul_bound {x y m n : Int} (hx : -m ≤ x ∧ x ≤ m) (hy : -n ≤ y ∧ y ≤ n) (hm : 0 ≤ m) : -(m * n) ≤ x * y ∧ x * y ≤ m * n := by
  have hn : 0 ≤ n := by omega
  have h : x.natAbs * y.natAbs ≤ m.natAbs * n.natAbs := Nat.mul_le_mul (by omega) (by omega)
  rw [← Int.natAbs_mul, ← Int.natAbs_mul] at h
  have := Int.mul_nonneg hm hn
  omega
def absZ (n : Int) : Int := if n < 0 then -n else n
theorem near_lt {a b : Int} (hb : 0 < b) (h : absZ (a.tmod b) < absZ b - absZ (a.tmod b)) : a.tdiv b = rnd a b := by
  have h1 := Int.emod_nonneg a (show b ≠ 0 by omega)
  have h2 := Int.emod_nonneg (-a) (show b ≠ 0 by omega)
  have eb : absZ b = b := by unfold absZ; rw [if_neg (by omega)]
  rw [eb] at h
  rcases tmod_or a b with ⟨g, e⟩ | ⟨g, e⟩
  · rcases tdiv_or a b with ⟨_, f⟩ | ⟨g2, _⟩
    · rw [rnd_pos g hb, f]
      rw [e, show absZ (a % b) = a % b by unfold absZ; rw [if_neg (by omega)]] at h
      rw [if_pos h]
    · omega
  · rcases tdiv_or a b with ⟨g2, _⟩ | ⟨_, f⟩
    · omega
    · rw [rnd_neg g hb, f]
      rw [e, show absZ (-(-a % b)) = -a % b by unfold absZ; split <;> omega] at h
      rw [if_pos h]
theorem near_ge {a b : Int} (hb : 0 < b) (h : ¬ absZ (a.tmod b) < absZ b - absZ (a.tmod b)) : (0 ≤ a → a.tdiv b + 1 = rnd a b) ∧ (a < 0 → a.tdiv b - 1 = rnd a b) := by
  have h1 := Int.emod_nonneg a (show b ≠ 0 by omega)
  have h2 := Int.emod_nonneg (-a) (show b ≠ 0 by omega)
  have eb : absZ b = b := by unfold absZ; rw [if_neg (by omega)]
  rw [eb] at h
  rcases tmod_or a b with ⟨g, e⟩ | ⟨g, e⟩
  · rcases tdiv_or a b with ⟨_, f⟩ | ⟨g2, _⟩
    · refine ⟨fun _ => ?_, fun h => absurd h (by omega)⟩
      rw [rnd_pos g hb, f]
      rw [e, show absZ (a % b) = a % b by unfold absZ; rw [if_neg (by omega)]] at h
      rw [if_neg h]
    · omega
  · rcases tdiv_or a b with ⟨g2, _⟩ | ⟨_, f⟩
    · omega
    · refine ⟨fun h => absurd h (by omega), fun _ => ?_⟩
      rw [rnd_neg g hb, f]
      rw [e, show absZ (-(-a % b)) = -a % b by unfold absZ; split <;> omega] at h
      rw [if_neg h]; omega
theorem div_rnd {a b : Int} (hb : 0 < b) : (0 ≤ a → (2 * a + b).tdiv (2 * b) = rnd a b) ∧ (a < 0 → -((b - 2 * a).tdiv (2 * b)) = rnd a b) := by
  constructor <;> intro h <;> unfold rnd
  · rw [if_pos h, Int.tdiv_eq_ediv_of_nonneg (by omega)]
  · rw [if_neg (by omega), Int.tdiv_eq_ediv_of_nonneg (by omega)]
/-- The angle between two angles. -/
def betA (a b : Int) : Int := min ((b % 360000 - a % 360000) % 360000) ((-((b % 360000 - a % 360000) % 360000)) % 360000)
def i64B (n : Int) : Prop := -9223372036854775808 ≤ n ∧ n ≤ 9223372036854775807
end Go.Eng
