/-
  Contracts of functions of the program and of the reference, and plain laws: a bundle of texts.
  No conditions.
-/
import Derived.Test.YtigdnelbanaieaaGreatDoorEC
import Derived.Test.YtigdnelbanaieaaGreatDoorED
import Derived.Test.YtigdnelbanaieaaGreatDoorW1
set_option linter.unusedVariables false
set_option linter.unusedSimpArgs false
set_option maxHeartbeats 4000000
namespace Go.Eng
theorem tmod_or (a n : Int) : (0 ≤ a ∧ a.tmod n = a % n) ∨ (a < 0 ∧ a.tmod n = -((-a) % n)) := by
  have h : 0 ≤ a ∨ a < 0 := by omega
  rcases h with h | h
  · exact .inl ⟨h, Int.tmod_eq_emod_of_nonneg h⟩
  · refine .inr ⟨h, ?_⟩
    have h2 := Int.tmod_eq_emod_of_nonneg (a := -a) (b := n) (by omega)
    rw [Int.neg_tmod] at h2
    omega
theorem tdiv_or (a n : Int) : (0 ≤ a ∧ a.tdiv n = a / n) ∨ (a < 0 ∧ a.tdiv n = -((-a) / n)) := by
  have h : 0 ≤ a ∨ a < 0 := by omega
  rcases h with h | h
  · exact .inl ⟨h, Int.tdiv_eq_ediv_of_nonneg h⟩
  · refine .inr ⟨h, ?_⟩
    have h2 := Int.tdiv_eq_ediv_of_nonneg (a := -a) (b := n) (by omega)
    rw [Int.neg_tdiv] at h2
    omega
/-- The nearest quotient, halves away from 0. -/
def rnd (a b : Int) : Int := if 0 ≤ a then (2 * a + b) / (2 * b) else -((b - 2 * a) / (2 * b))
theorem half_div {m b : Int} (hb : 0 < b) : (2 * m + b) / (2 * b) = if m % b < b - m % b then m / b else m / b + 1 := by
  have e := Int.emod_add_mul_ediv m b
  have h1 := Int.emod_nonneg m (show b ≠ 0 by omega)
  have h2 := Int.emod_lt_of_pos m hb
  have key : ∀ q : Int, 2 * (b * q) ≤ 2 * m + b → 2 * m + b < 2 * (b * q) + 2 * b → (2 * m + b) / (2 * b) = q := by
    intro q g1 g2
    have e1 : q * (2 * b) = 2 * (b * q) := by rw [Int.mul_left_comm, Int.mul_comm q b]
    have e2 : (q + 1) * (2 * b) = 2 * (b * q) + 2 * b := by rw [Int.add_mul, e1]; omega
    have g3 := (Int.le_ediv_iff_mul_le (a := q) (b := 2 * m + b) (c := 2 * b) (by omega)).2 (by omega)
    have g4 := (Int.ediv_lt_iff_lt_mul (a := 2 * m + b) (b := q + 1) (c := 2 * b) (by omega)).2 (by omega)
    omega
  split
  · exact key _ (by omega) (by omega)
  · refine key _ ?_ ?_ <;> rw [Int.mul_add] <;> omega
theorem rnd_pos {a b : Int} (ha : 0 ≤ a) (hb : 0 < b) : rnd a b = if a % b < b - a % b then a / b else a / b + 1 := by
  rw [rnd, if_pos ha, half_div hb]
theorem rnd_neg {a b : Int} (ha : a < 0) (hb : 0 < b) : rnd a b = -(if (-a) % b < b - (-a) % b then (-a) / b else (-a) / b + 1) := by
  rw [rnd, if_neg (by omega), ← half_div hb, show 2 * -a + b = b - 2 * a by omega]
theorem rnd_bound {a b m : Int} (hb : 0 < b) (hl : -(b * m) ≤ a) (hh : a ≤ b * m) : -m ≤ rnd a b ∧ rnd a b ≤ m := by
  have h0 : ∀ x : Int, 0 ≤ x → x ≤ b * m → (2 * x + b) / (2 * b) ≤ m ∧ 0 ≤ (2 * x + b) / (2 * b) := by
    intro x g0 g1
    have e2 : (m + 1) * (2 * b) = 2 * (b * m) + 2 * b := by rw [Int.add_mul, Int.mul_left_comm, Int.mul_comm m b]; omega
    have g4 := (Int.ediv_lt_iff_lt_mul (a := 2 * x + b) (b := m + 1) (c := 2 * b) (by omega)).2 (by omega)
    have g5 := Int.ediv_nonneg (a := 2 * x + b) (b := 2 * b) (by omega) (by omega)
    omega
  unfold rnd
  split
  · have := h0 a (by omega) hh
    omega
  · have := h0 (-a) (by omega) (by omega)
    rw [show 2 * -a + b = b - 2 * a by omega] at this
    omega
def sineT : List Int := [0, 17452, 34899, 52336, 69756, 87156, 104528, 121869, 139173, 156434, 173648, 190809, 207912, 224951, 241922, 258819, 275637, 292372, 309017, 325568, 342020, 358368, 374607, 390731, 406737, 422618, 438371, 453990, 469472, 484810, 500000, 515038, 529919, 544639, 559193, 573576, 587785, 601815, 615661, 629320, 642788, 656059, 669131, 681998, 694658, 707107, 719340, 731354, 743145, 754710, 766044, 777146, 788011, 798636, 809017, 819152, 829038, 838671, 848048, 857167, 866025, 874620, 882948, 891007, 898794, 906308, 913545, 920505, 927184, 933580, 939693, 945519, 951057, 956305, 961262, 965926, 970296, 974370, 978148, 981627, 984808, 987688, 990268, 992546, 994522, 996195, 997564, 998630, 999391, 999848, 1000000]
def sineAt (k : Nat) : Int := sineT.getD k 0
theorem sineT_rise : (List.range 90).all (fun k => decide (0 ≤ sineAt k ∧ sineAt k ≤ sineAt (k + 1) ∧ sineAt (k + 1) ≤ 1000000)) = true := by decide +kernel
theorem sineT_at {k : Nat} (h : k < 90) : 0 ≤ sineAt k ∧ sineAt k ≤ sineAt (k + 1) ∧ sineAt (k + 1) ≤ 1000000 := by
  have := List.all_eq_true.1 sineT_rise k (List.mem_range.2 h)
  simpa using this
/-- The sine of an angle of the first quarter. -/
def sinQ (n : Int) : Int := sineAt (n / 1000).toNat + rnd ((sineAt ((n / 1000).toNat + 1) - sineAt (n / 1000).toNat) * (n % 1000)) 1000
def foldA (n : Int) : Int := if 90000 < n then 180000 - n else n
def sinA (a : Int) : Int := if a % 360000 < 180000 then sinQ (foldA (a % 360000)) else -sinQ (foldA (a % 360000 - 180000))
def cosA (a : Int) : Int := sinA (a % 360000 + 90000)
theorem rnd_zero (b : Int) (hb : 0 < b) : rnd 0 b = 0 := by
  have h := rnd_bound (a := 0) (b := b) (m := 0) hb (by simp) (by simp)
  omega
theorem sinQ_mid {d r : Int} (hd : 0 ≤ d) (h0 : 0 ≤ r) (h1 : r ≤ 1000) : 0 ≤ rnd (d * r) 1000 ∧ rnd (d * r) 1000 ≤ d := by
  have g1 : d * r ≤ d * 1000 := Int.mul_le_mul_of_nonneg_left h1 hd
  have g2 : 0 ≤ d * r := Int.mul_nonneg hd h0
  have := rnd_bound (a := d * r) (b := 1000) (m := d) (by omega) (by omega) (by omega)
  refine ⟨?_, this.2⟩
  unfold rnd
  rw [if_pos g2]
  exact Int.ediv_nonneg (by omega) (by omega)
theorem sinQ_bound {n : Int} (h0 : 0 ≤ n) (h1 : n ≤ 90000) : 0 ≤ sinQ n ∧ sinQ n ≤ 1000000 := by
  have hc : n = 90000 ∨ n < 90000 := by omega
  rcases hc with rfl | hc
  · decide +kernel
  · have hk := sineT_at (k := (n / 1000).toNat) (by omega)
    have hm := sinQ_mid (d := sineAt ((n / 1000).toNat + 1) - sineAt (n / 1000).toNat) (r := n % 1000) (by omega) (by omega) (by omega)
    unfold sinQ
    omega
theorem sinA_bound (a : Int) : -1000000 ≤ sinA a ∧ sinA a ≤ 1000000 := by
  unfold sinA foldA
  split
  · split
    · have := sinQ_bound (n := 180000 - a % 360000) (by omega) (by omega); omega
    · have := sinQ_bound (n := a % 360000) (by omega) (by omega); omega
  · split
    · have := sinQ_bound (n := 180000 - (a % 360000 - 180000)) (by omega) (by omega); omega
    · have := sinQ_bound (n := a % 360000 - 180000) (by omega) (by omega); omega
theorem cosA_bound (a : Int) : -1000000 ≤ cosA a ∧ cosA a ≤ 1000000 := sinA_bound _
theorem mul_bound {x y m n : Int} (hx : -m ≤ x ∧ x ≤ m) (hy : -n ≤ y ∧ y ≤ n) (hm : 0 ≤ m) : -(m * n) ≤ x * y ∧ x * y ≤ m * n := by
  have hn : 0 ≤ n := by omega
  have h : x.natAbs * y.natAbs ≤ m.natAbs * n.natAbs := Nat.mul_le_mul (by omega) (by omega)
  rw [← Int.natAbs_mul, ← Int.natAbs_mul] at h
  have := Int.mul_nonneg hm hn
  omega
def absZ (n : Int) : Int := if n < 0 then -n else n
theorem near_lt {a b : Int} (hb : 0 < b) (h : absZ (a.tmod b) < absZ b - absZ (a.tmod b)) : a.tdiv b = rnd a b := by
  have h1 := Int.emod_nonneg a (show b ≠ 0 by omega)
  have h2 := Int.emod_nonneg (-a) (show b ≠ 0 by omega)
  have eb : absZ b = b := by unfold absZ; rw [if_neg (by omega)]
  rw [eb] at h
  rcases tmod_or a b with ⟨g, e⟩ | ⟨g, e⟩
  · rcases tdiv_or a b with ⟨_, f⟩ | ⟨g2, _⟩
    · rw [rnd_pos g hb, f]
      rw [e, show absZ (a % b) = a % b by unfold absZ; rw [if_neg (by omega)]] at h
      rw [if_pos h]
    · omega
  · rcases tdiv_or a b with ⟨g2, _⟩ | ⟨_, f⟩
    · omega
    · rw [rnd_neg g hb, f]
      rw [e, show absZ (-(-a % b)) = -a % b by unfold absZ; split <;> omega] at h
      rw [if_pos h]
theorem near_ge {a b : Int} (hb : 0 < b) (h : ¬ absZ (a.tmod b) < absZ b - absZ (a.tmod b)) : (0 ≤ a → a.tdiv b + 1 = rnd a b) ∧ (a < 0 → a.tdiv b - 1 = rnd a b) := by
  have h1 := Int.emod_nonneg a (show b ≠ 0 by omega)
  have h2 := Int.emod_nonneg (-a) (show b ≠ 0 by omega)
  have eb : absZ b = b := by unfold absZ; rw [if_neg (by omega)]
  rw [eb] at h
  rcases tmod_or a b with ⟨g, e⟩ | ⟨g, e⟩
  · rcases tdiv_or a b with ⟨_, f⟩ | ⟨g2, _⟩
    · refine ⟨fun _ => ?_, fun h => absurd h (by omega)⟩
      rw [rnd_pos g hb, f]
      rw [e, show absZ (a % b) = a % b by unfold absZ; rw [if_neg (by omega)]] at h
      rw [if_neg h]
    · omega
  · rcases tdiv_or a b with ⟨g2, _⟩ | ⟨_, f⟩
    · omega
    · refine ⟨fun h => absurd h (by omega), fun _ => ?_⟩
      rw [rnd_neg g hb, f]
      rw [e, show absZ (-(-a % b)) = -a % b by unfold absZ; split <;> omega] at h
      rw [if_neg h]; omega
theorem div_rnd {a b : Int} (hb : 0 < b) : (0 ≤ a → (2 * a + b).tdiv (2 * b) = rnd a b) ∧ (a < 0 → -((b - 2 * a).tdiv (2 * b)) = rnd a b) := by
  constructor <;> intro h <;> unfold rnd
  · rw [if_pos h, Int.tdiv_eq_ediv_of_nonneg (by omega)]
  · rw [if_neg (by omega), Int.tdiv_eq_ediv_of_nonneg (by omega)]
def i64B (n : Int) : Prop := -9223372036854775808 ≤ n ∧ n ≤ 9223372036854775807
end Go.Eng

namespace Go.Eng
open Go Go.RowKit Go.Proofs
set_option maxRecDepth 100000
theorem ElemS.tab {l : List Int} {n : Nat} {i : Int} {K : List D → Prop} (hl : l.length = n) (h0 : 0 ≤ i ∧ i < n) (h : K [.int .i64 (l.getD i.toNat 0)]) : ElemS (chunk 1 n (l.map (.int .i64))) i K := by
  have e : ∀ (n : Nat) (l : List Int), l.length = n → chunk 1 n (l.map (D.int .i64)) = l.map encI := by
    intro n
    induction n with
    | zero => intro l hl; rw [List.length_eq_zero_iff.1 hl]; rfl
    | succ n ih =>
      intro l hl
      cases l with
      | nil => cases hl
      | cons x r => simp only [chunk, List.map_cons, List.take_succ_cons, List.take_zero, List.drop_succ_cons, List.drop_zero]; rw [ih r (by simpa using hl)]; rfl
  rw [e n l hl]
  refine ElemS.at (by omega) fun k y hk hy => ?_
  have : l.getD i.toNat 0 = y := by rw [← hk, Int.toNat_natCast, List.getD_eq_getElem?_getD, hy]; rfl
  rw [this] at h
  exact h
theorem c_impl_NormalAngle (a : Int) (ha : i64B a) : FnC Tryz.prog 239 G0 0 [] [.int .i64 a] (fun d os => d = .int .i64 (a % 360000) ∧ os = []) := by
  have ht := tmod_or a 360000
  refine fn_rule Tryz.func239 rfl (by decide +kernel) rfl (fun w0 F0 lent β0 => ?_)
  repeat' (first | refine sC ?_ | ((with_reducible refine isAwp ?_); first | (refine sS ?_; intro Q' hn he hr) | refine sA ?_) | (refine sH ?_; clear hn he hr Q') | ((conv => whnf); first | refine sK ?_ | (refine sB ?_; repeat' (refine sb2 ?_ ?_ <;> intro hb <;> try exact cls)) | (refine AskS.mk ⟨by omega, ?_⟩) | refine sP ?_ | (refine ret_pick [] rfl rfl rfl ⟨?_, rfl⟩; conv => lhs; whnf)))
  all_goals (refine congrArg (D.int _) ?_; omega)
theorem c_spec_l02Normal (a : Int) (ha : i64B a) : FnC Tryz.prog 191 G0 0 [] [.int .i64 a] (fun d os => d = .int .i64 (a % 360000) ∧ os = []) := by
  have ht := tmod_or a 360000
  have ht2 := tmod_or (a.tmod 360000 + 360000) 360000
  refine fn_rule Tryz.func191 rfl (by decide +kernel) rfl (fun w0 F0 lent β0 => ?_)
  repeat' (first | refine sC ?_ | ((with_reducible refine isAwp ?_); first | (refine sS ?_; intro Q' hn he hr) | refine sA ?_) | (refine sH ?_; clear hn he hr Q') | ((conv => whnf); first | refine sK ?_ | (refine AskS.mk ⟨by omega, ?_⟩) | refine sP ?_ | (refine ret_pick [] rfl rfl rfl ⟨?_, rfl⟩; conv => lhs; whnf)))
  all_goals (refine congrArg (D.int _) ?_; omega)
theorem tdiv_bound {a b : Int} (hb : 0 < b) : -absI a ≤ a.tdiv b ∧ a.tdiv b ≤ absI a := by
  have hd1 : 0 ≤ a → 0 ≤ a / b ∧ a / b ≤ a := fun h => ⟨Int.ediv_nonneg h (by omega), Int.ediv_le_self _ h⟩
  have hd2 : 0 ≤ -a → 0 ≤ -a / b ∧ -a / b ≤ -a := fun h => ⟨Int.ediv_nonneg h (by omega), Int.ediv_le_self _ h⟩
  unfold absI
  rcases tdiv_or a b with ⟨g, e⟩ | ⟨g, e⟩
  · have := hd1 g
    rw [e, if_neg (by omega)]; omega
  · have := hd2 (by omega)
    rw [e, if_pos g]; omega
theorem tmod_bound {a b : Int} (hb : 0 < b) : -b < a.tmod b ∧ a.tmod b < b := by
  have h1 := Int.emod_nonneg a (show b ≠ 0 by omega)
  have h2 := Int.emod_nonneg (-a) (show b ≠ 0 by omega)
  have h3 := Int.emod_lt_of_pos a hb
  have h4 := Int.emod_lt_of_pos (-a) hb
  rcases tmod_or a b with ⟨g, e⟩ | ⟨g, e⟩ <;> omega
theorem absI_bound {a m : Int} (h : -m ≤ a ∧ a ≤ m) : 0 ≤ absI a ∧ absI a ≤ m := by unfold absI; split <;> omega
theorem c_impl_nearest (a b : Int) (hb0 : 0 < b ∧ b ≤ 1000000000000) (ha : -4000000000000000000 ≤ a ∧ a ≤ 4000000000000000000) : FnC Tryz.prog 209 G0 0 [] [.int .i64 a, .int .i64 b] (fun d os => d = .int .i64 (rnd a b) ∧ os = []) := by
  have hr := tmod_bound (a := a) hb0.1
  have hq : -4000000000000000000 ≤ a.tdiv b ∧ a.tdiv b ≤ 4000000000000000000 := by
    have h1 := tdiv_bound (a := a) hb0.1
    have h2 := absI_bound ha
    omega
  have hab := absI_bound (a := a.tmod b) (m := b) (by omega)
  have hbb : absI b = b := by unfold absI; rw [if_neg (by omega)]
  refine fn_rule Tryz.func209 rfl (by decide +kernel) rfl (fun w0 F0 lent β0 => ?_)
  repeat' (first | refine sC ?_ | ((with_reducible refine isAwp ?_); first | (refine sS ?_; intro Q' hn he hr) | refine sA ?_) | (refine sH ?_; clear hn he hr Q') | refine sO ?_ | ((conv => whnf); first | refine sK ?_ | (refine sB ?_; repeat' (refine sb2 ?_ ?_ <;> intro hb <;> try exact cls)) | (refine AskS.mk ⟨by omega, ?_⟩) | ((with_reducible refine isCall ?_); (refine call_pure (c_absOf _ (by omega)) rfl rfl ?_)) | ((with_reducible refine isCallQ ?_); (refine callQ_pure (c_absOf _ (by omega)) rfl rfl ?_)) | refine sP ?_ | refine sD ?_ | (refine ret_pick [] rfl rfl rfl ⟨?_, rfl⟩; conv => lhs; whnf)))
  · refine congrArg (D.int _) ?_
    exact near_lt hb0.1 hb
  all_goals
    have hn := near_ge hb0.1 (show ¬ absZ (a.tmod b) < absZ b - absZ (a.tmod b) by show ¬ (absI (a.tmod b) < absI b - absI (a.tmod b)); omega)
    refine congrArg (D.int _) ?_
  · refine hn.1 ?_
    have h0 : ¬ a < 0 := fun h => by rw [decide_eq_true h, decide_eq_false (show ¬ b < 0 by omega)] at hb; cases hb
    omega
  · refine hn.2 ?_
    rcases Int.lt_or_le a 0 with h0 | h0
    · exact h0
    · exact absurd (by rw [decide_eq_false (show ¬ a < 0 by omega), decide_eq_false (show ¬ b < 0 by omega)]) hb
set_option maxHeartbeats 1000000 in
theorem c_spec_l01Div (a b : Int) (hb0 : 0 < b ∧ b ≤ 1000000000000) (ha : -4000000000000000000 ≤ a ∧ a ≤ 4000000000000000000) : FnC Tryz.prog 192 G0 0 [] [.int .i64 a, .int .i64 b] (fun d os => d = .int .i64 (rnd a b) ∧ os = []) := by
  have hn := div_rnd (a := a) hb0.1
  have h0 : a < 0 ∨ 0 ≤ a := by omega
  rcases h0 with h0 | h0
  · have h1 := tdiv_bound (a := b - 2 * a) (b := 2 * b) (by omega)
    have h2 := absI_bound (a := b - 2 * a) (m := 9000000000000000000) (by omega)
    have h3 := hn.2 h0
    generalize hX : (b - 2 * a).tdiv (2 * b) = X at h1 h3
    have h4 : -9000000000000000000 ≤ X ∧ X ≤ 9000000000000000000 := by omega
    clear h1 h2 hn
    refine fn_rule Tryz.func192 rfl (by decide +kernel) rfl (fun w0 F0 lent β0 => ?_)
    repeat' (first | refine sC ?_ | ((with_reducible refine isAwp ?_); first | (refine sS ?_; intro Q' hn he hr) | refine sA ?_) | (refine sH ?_; clear hn he hr Q') | ((conv => whnf); first | refine sK ?_ | (refine sB ?_; repeat' (refine sb2 ?_ ?_ <;> intro hb <;> try exact cls)) | (refine AskS.mk ⟨by omega, ?_⟩) | (refine ArithS.to X hX (wrap64 (by omega)) ?_) | refine sP ?_ | (refine ret_pick [] rfl rfl rfl ⟨?_, rfl⟩; conv => lhs; whnf)))
    all_goals (refine congrArg (D.int _) ?_; omega)
  · have h1 := tdiv_bound (a := 2 * a + b) (b := 2 * b) (by omega)
    have h2 := absI_bound (a := 2 * a + b) (m := 9000000000000000000) (by omega)
    have h3 := hn.1 h0
    generalize hX : (2 * a + b).tdiv (2 * b) = X at h1 h3
    have h4 : -9000000000000000000 ≤ X ∧ X ≤ 9000000000000000000 := by omega
    clear h1 h2 hn
    refine fn_rule Tryz.func192 rfl (by decide +kernel) rfl (fun w0 F0 lent β0 => ?_)
    repeat' (first | refine sC ?_ | ((with_reducible refine isAwp ?_); first | (refine sS ?_; intro Q' hn he hr) | refine sA ?_) | (refine sH ?_; clear hn he hr Q') | ((conv => whnf); first | refine sK ?_ | (refine sB ?_; repeat' (refine sb2 ?_ ?_ <;> intro hb <;> try exact cls)) | (refine AskS.mk ⟨by omega, ?_⟩) | (refine ArithS.to X hX (wrap64 (by omega)) ?_) | refine sP ?_ | (refine ret_pick [] rfl rfl rfl ⟨?_, rfl⟩; conv => lhs; whnf)))
    all_goals (refine congrArg (D.int _) ?_; omega)
end Go.Eng

namespace Go.Eng
open Go Go.RowKit Go.Proofs
set_option maxRecDepth 100000
def GS : Nat → Option (List D) := G1 1 (sineT.map (.int .i64))
theorem c_impl_blend (x0 y0 x1 y1 x : Int) (h : x0 ≤ x ∧ x < x1 ∧ x1 = x0 + 1000) (h0 : 0 ≤ x0 ∧ x0 ≤ 1000000) (hy : 0 ≤ y0 ∧ y0 ≤ y1 ∧ y1 ≤ 1000000) : FnC Tryz.prog 240 G0 0 [] [.int .i64 x0, .int .i64 y0, .int .i64 x1, .int .i64 y1, .int .i64 x] (fun d os => d = .int .i64 (y0 + rnd ((y1 - y0) * (x - x0)) 1000) ∧ os = []) := by
  have hm := mul_bound (x := y1 - y0) (y := x - x0) (m := 1000000) (n := 1000) (by omega) (by omega) (by omega)
  have hr := rnd_bound (a := (y1 - y0) * (x - x0)) (b := 1000) (m := 1000000) (by omega) (by omega) (by omega)
  have h10 : x1 - x0 = 1000 := by omega
  have hN := c_impl_nearest ((y1 - y0) * (x - x0)) 1000 (by omega) (by omega)
  rw [← h10] at hN
  rw [← h10] at hr
  refine fn_rule Tryz.func240 rfl (by decide +kernel) rfl (fun w0 F0 lent β0 => ?_)
  repeat' (first | refine sC ?_ | ((with_reducible refine isAwp ?_); first | (refine sS ?_; intro Q' hn he hr) | refine sA ?_) | (refine sH ?_; clear hn he hr Q') | ((conv => whnf); first | refine sK ?_ | (refine sB ?_; repeat' (first | refine sb0 ?_ | (refine sb2 ?_ ?_ <;> intro hb <;> try exact cls))) | ((with_reducible refine isCall ?_); (refine call_pure (hN) rfl rfl ?_)) | refine sP ?_ | (refine ret_pick [] rfl rfl rfl ⟨?_, rfl⟩; conv => lhs; whnf)))
  · rw [show x - x0 = 0 by omega, Int.mul_zero, rnd_zero 1000 (by omega), Int.add_zero]
  · rw [h10]
theorem c_spec_l02Table : FnC Tryz.prog 222 G0 0 [] [] (fun d os => d = .h 0 ∧ os = [.row 2 1 (sineT.map encI)]) := by
  refine fn_rule Tryz.func222 rfl (by decide +kernel) rfl (fun w0 F0 lent β0 => ?_)
  repeat' (first | refine sC ?_ | ((with_reducible refine isAwp ?_); first | (refine sS ?_; intro Q' hn he hr) | refine sA ?_) | (refine sH ?_; clear hn he hr Q') | ((conv => whnf); first | refine sK ?_ | ((with_reducible refine isRet ?_); (refine ret_pick [0] rfl rfl rfl ⟨rfl, ?_⟩))))
  all_goals rfl
set_option maxHeartbeats 4000000 in
theorem c_impl_SineOf_low (a : Int) (ha : i64B a) (hlo : a % 360000 < 180000) : FnC Tryz.prog 210 GS 0 [] [.int .i64 a] (fun d os => d = .int .i64 (sinQ (foldA (a % 360000))) ∧ os = []) := by
  have hN := c_impl_NormalAngle a ha
  have hn0 : 0 ≤ a % 360000 := by omega
  generalize hn : a % 360000 = n at hN hlo hn0 ⊢
  unfold i64B at ha
  have hc : n < 90000 ∨ n = 90000 ∨ 90000 < n := by omega
  rcases hc with hc | rfl | hc
  · rw [show foldA n = n by unfold foldA; rw [if_neg (by omega)]]
    have hq : n.tdiv 1000 = n / 1000 := Int.tdiv_eq_ediv_of_nonneg (by omega)
    have hs : 0 ≤ sineT.getD (n / 1000).toNat 0 ∧ sineT.getD (n / 1000).toNat 0 ≤ sineT.getD (n / 1000 + 1).toNat 0 ∧ sineT.getD (n / 1000 + 1).toNat 0 ≤ 1000000 := by
      have := sineT_at (k := (n / 1000).toNat) (by omega)
      rw [show (n / 1000 + 1).toNat = (n / 1000).toNat + 1 by omega]
      exact this
    refine fn_rule Tryz.func210 rfl (by decide +kernel) rfl (fun w0 F0 lent β0 => ?_)
    repeat' (first | refine sC ?_ | ((with_reducible refine isAwp ?_); first | (refine sS ?_; intro Q' hn he hr) | refine sA ?_) | (refine sH ?_; clear hn he hr Q') | refine sO ?_ | ((conv => whnf); first | refine sK ?_ | (refine sB ?_; repeat' (refine sb2 ?_ ?_ <;> intro hb <;> try exact cls)) | (refine AskS.mk ⟨by omega, ?_⟩) | (refine ArithS.to (n / 1000) hq (wrap64 (by omega)) ?_) | (refine ElemS.tab rfl (by omega) ?_) | ((with_reducible refine isCall ?_); (refine call_pure (FnC.anyG (hN)) rfl rfl ?_)) | ((with_reducible refine isCallQ ?_); (refine callQ_pure (FnC.anyG (c_impl_blend _ _ _ _ _ (by omega) (by omega) hs)) rfl rfl ?_)) | refine sP ?_ | refine sD ?_ | (refine ret_pick [] rfl rfl rfl ⟨?_, rfl⟩; conv => lhs; whnf)))
    all_goals
      refine congrArg (D.int _) ?_
      rw [show n - n / 1000 * 1000 = n % 1000 by omega, show (n / 1000 + 1).toNat = (n / 1000).toNat + 1 by omega]
      rfl
  · have hq : (90000 : Int).tdiv 1000 = 90 := by decide
    refine fn_rule Tryz.func210 rfl (by decide +kernel) rfl (fun w0 F0 lent β0 => ?_)
    repeat' (first | refine sC ?_ | ((with_reducible refine isAwp ?_); first | (refine sS ?_; intro Q' hn he hr) | refine sA ?_) | (refine sH ?_; clear hn he hr Q') | ((conv => whnf); first | refine sK ?_ | (refine sB ?_; repeat' (refine sb2 ?_ ?_ <;> intro hb <;> try exact cls)) | (refine AskS.mk ⟨by omega, ?_⟩) | (refine ArithS.to 90 hq (wrap64 (by omega)) ?_) | (refine ElemS.tab rfl (by omega) ?_) | ((with_reducible refine isCall ?_); (refine call_pure (FnC.anyG (hN)) rfl rfl ?_)) | (refine ret_pick [] rfl rfl rfl ⟨?_, rfl⟩; conv => lhs; whnf)))
    all_goals (refine congrArg (D.int _) ?_; decide +kernel)
  · rw [show foldA n = 180000 - n by unfold foldA; rw [if_pos (by omega)]]
    generalize hm : 180000 - n = m
    have hq : m.tdiv 1000 = m / 1000 := Int.tdiv_eq_ediv_of_nonneg (by omega)
    have hs : 0 ≤ sineT.getD (m / 1000).toNat 0 ∧ sineT.getD (m / 1000).toNat 0 ≤ sineT.getD (m / 1000 + 1).toNat 0 ∧ sineT.getD (m / 1000 + 1).toNat 0 ≤ 1000000 := by
      have := sineT_at (k := (m / 1000).toNat) (by omega)
      rw [show (m / 1000 + 1).toNat = (m / 1000).toNat + 1 by omega]
      exact this
    refine fn_rule Tryz.func210 rfl (by decide +kernel) rfl (fun w0 F0 lent β0 => ?_)
    repeat' (first | refine sC ?_ | ((with_reducible refine isAwp ?_); first | (refine sS ?_; intro Q' hn he hr) | refine sA ?_) | (refine sH ?_; clear hn he hr Q') | refine sO ?_ | ((conv => whnf); first | refine sK ?_ | (refine sB ?_; repeat' (refine sb2 ?_ ?_ <;> intro hb <;> try exact cls)) | (refine ArithS.to m hm (wrap64 (by omega)) ?_) | (refine AskS.mk ⟨by omega, ?_⟩) | (refine ArithS.to (m / 1000) hq (wrap64 (by omega)) ?_) | (refine ElemS.tab rfl (by omega) ?_) | ((with_reducible refine isCall ?_); (refine call_pure (FnC.anyG (hN)) rfl rfl ?_)) | ((with_reducible refine isCallQ ?_); (refine callQ_pure (FnC.anyG (c_impl_blend _ _ _ _ _ (by omega) (by omega) hs)) rfl rfl ?_)) | refine sP ?_ | refine sD ?_ | (refine ret_pick [] rfl rfl rfl ⟨?_, rfl⟩; conv => lhs; whnf)))
    all_goals
      refine congrArg (D.int _) ?_
      rw [show m - m / 1000 * 1000 = m % 1000 by omega, show (m / 1000 + 1).toNat = (m / 1000).toNat + 1 by omega]
      rfl
set_option maxHeartbeats 4000000 in
theorem c_impl_SineOf (a : Int) (ha : i64B a) : FnC Tryz.prog 210 GS 0 [] [.int .i64 a] (fun d os => d = .int .i64 (sinA a) ∧ os = []) := by
  by_cases hlo : a % 360000 < 180000
  · have h := c_impl_SineOf_low a ha hlo
    unfold sinA
    rw [if_pos hlo]
    exact h
  · have hN := c_impl_NormalAngle a ha
    have hL := c_impl_SineOf_low (a % 360000 - 180000) (by unfold i64B; omega) (by omega)
    rw [show (a % 360000 - 180000) % 360000 = a % 360000 - 180000 by omega] at hL
    have hb2 : 0 ≤ sinQ (foldA (a % 360000 - 180000)) ∧ sinQ (foldA (a % 360000 - 180000)) ≤ 1000000 := by
      unfold foldA
      split
      · exact sinQ_bound (by omega) (by omega)
      · exact sinQ_bound (by omega) (by omega)
    unfold sinA
    rw [if_neg hlo]
    have hn0 : a % 360000 < 360000 := by omega
    generalize hn : a % 360000 = n at hN hL hb2 hlo hn0 ⊢
    generalize hS : sinQ (foldA (n - 180000)) = S at hL hb2 ⊢
    refine fn_rule Tryz.func210 rfl (by decide +kernel) rfl (fun w0 F0 lent β0 => ?_)
    repeat' (first | refine sC ?_ | ((with_reducible refine isAwp ?_); first | (refine sS ?_; intro Q' hn he hr) | refine sA ?_) | (refine sH ?_; clear hn he hr Q') | ((conv => whnf); first | refine sK ?_ | (refine sB ?_; repeat' (refine sb2 ?_ ?_ <;> intro hb <;> try exact cls)) | ((with_reducible refine isCall ?_); first | (refine call_pure (FnC.anyG (hN)) rfl rfl ?_) | (refine call_pure hL rfl rfl ?_)) | refine sP ?_ | (refine ret_pick [] rfl rfl rfl ⟨?_, rfl⟩; conv => lhs; whnf)))
    all_goals (refine congrArg (D.int _) ?_; omega)
theorem sineT_two {k : Nat} (h : k < 90) : ∃ t0 t1, sineT[k]? = some t0 ∧ sineT[k + 1]? = some t1 ∧ (0 ≤ t0 ∧ t0 ≤ t1 ∧ t1 ≤ 1000000) ∧ sineAt k = t0 ∧ sineAt (k + 1) = t1 := by
  have e : ∀ j, j < 91 → sineT[j]? = some (sineAt j) := fun j hj => by
    have hj : j < sineT.length := hj
    unfold sineAt
    rw [List.getD_eq_getElem?_getD, List.getElem?_eq_getElem hj]; rfl
  exact ⟨_, _, e k (by omega), e (k + 1) (by omega), sineT_at h, rfl, rfl⟩
set_option maxHeartbeats 4000000 in
theorem c_spec_l02Sine (a : Int) (ha : i64B a) : FnC Tryz.prog 193 G0 0 [] [.int .i64 a] (fun d os => d = .int .i64 (sinA a) ∧ os = []) := by
  have hNm := c_spec_l02Normal a ha
  have hn0 : 0 ≤ a % 360000 ∧ a % 360000 < 360000 := by omega
  unfold sinA foldA
  generalize hn : a % 360000 = n at hNm hn0 ⊢
  unfold i64B at ha
  have hlenT : sineT.length = 91 := rfl
  have hc : n < 90000 ∨ n = 90000 ∨ (90000 < n ∧ n < 180000) ∨ (180000 ≤ n ∧ n < 270000) ∨ n = 270000 ∨ 270000 < n := by omega
  rcases hc with hc | rfl | hc | hc | rfl | hc
  · skip
    rw [if_pos (by omega), if_neg (by omega)]
    generalize hm : n = m at hNm hc hn0 ⊢
    have hq : m.tdiv 1000 = (((m / 1000).toNat : Nat) : Int) := by rw [Int.tdiv_eq_ediv_of_nonneg (by omega)]; omega
    have hr0 : m.tmod 1000 = m % 1000 := Int.tmod_eq_emod_of_nonneg (by omega)
    generalize hN : (m / 1000).toNat = N at hq
    obtain ⟨t0, t1, ht0, ht1, hb1, e0, e1⟩ := sineT_two (k := N) (by omega)
    have hmul := mul_bound (x := t1 - t0) (y := m.tmod 1000) (m := 1000000) (n := 1000) (by omega) (by omega) (by omega)
    have hrb := rnd_bound (a := (t1 - t0) * m.tmod 1000) (b := 1000) (m := 1000000) (by omega) (by omega) (by omega)
    have hv : sinQ m = t0 + rnd ((t1 - t0) * m.tmod 1000) 1000 := by unfold sinQ; rw [hN, e0, e1, hr0]
    have hv0 : m.tmod 1000 = 0 → sinQ m = t0 := fun h => by rw [hv, h, Int.mul_zero, rnd_zero 1000 (by omega)]; omega
    refine fn_rule Tryz.func193 rfl (by decide +kernel) rfl (fun w0 F0 lent β0 => ?_)
    repeat' (first | refine sC ?_ | ((with_reducible refine isAwp ?_); first | (refine sS ?_; intro Q' hn he hr) | refine sA ?_) | (refine sH ?_; clear hn he hr Q') | refine sO ?_ | ((conv => whnf); first | refine sK ?_ | (refine sB ?_; repeat' (refine sb2 ?_ ?_ <;> intro hb <;> try exact cls)) | (refine AskS.mk ⟨by omega, ?_⟩) | (refine ArithS.to (N : Int) hq (wrap64 (by omega)) ?_) | (refine ArithS.to (((N + 1 : Nat)) : Int) (by omega) (wrap64 (by omega)) ?_) | (refine draw_n 16 (by decide +kernel) (by decide +kernel) ?_) | (refine InS.nat (by first | (rw [List.length_map]; show _ < 91; omega) | (show _ < 91; omega)) ?_) | ((with_reducible refine isCall ?_); first | (refine call_pure (hNm) rfl rfl ?_) | (refine call_new c_spec_l02Table rfl (by first | exact (rfl : _ = 0) | exact (rfl : _ = 1) | exact (rfl : _ = 2) | exact (rfl : _ = 3) | exact (rfl : _ = 4) | exact (rfl : _ = 5) | exact (rfl : _ = 6) | exact (rfl : _ = 7) | exact (rfl : _ = 8) | exact (rfl : _ = 9) | exact (rfl : _ = 10) | exact (rfl : _ = 11) | exact (rfl : _ = 12) | exact (rfl : _ = 13) | exact (rfl : _ = 14) | exact (rfl : _ = 15) | exact (rfl : _ = 16) | exact (rfl : _ = 17) | exact (rfl : _ = 18) | exact (rfl : _ = 19) | exact (rfl : _ = 20) | exact (rfl : _ = 21) | exact (rfl : _ = 22) | exact (rfl : _ = 23) | exact (rfl : _ = 24) | exact (rfl : _ = 25) | exact (rfl : _ = 26) | exact (rfl : _ = 27) | exact (rfl : _ = 28) | exact (rfl : _ = 29) | exact (rfl : _ = 30) | exact (rfl : _ = 31) | exact (rfl : _ = 32) | exact (rfl : _ = 33) | exact (rfl : _ = 34) | exact (rfl : _ = 35) | exact (rfl : _ = 36) | exact (rfl : _ = 37) | exact (rfl : _ = 38) | exact (rfl : _ = 39)) ?_)) | ((with_reducible refine isCallQ ?_); (refine callQ_pure (c_spec_l01Div _ _ (by omega) (by omega)) rfl rfl ?_)) | refine sP ?_ | (refine ret_pick [] rfl rfl rfl ⟨?_, rfl⟩; conv => lhs; whnf)))
    all_goals first
      | (rw [hv0 (by omega)]; refine congrArg (D.int _) ?_; omega)
      | (rw [hv]; refine congrArg (D.int _) ?_; omega)
  · skip
    rw [if_pos (by omega), if_neg (by omega)]
    have hq : (90000 : Int).tdiv 1000 = ((90 : Nat) : Int) := by decide
    have hr0 : (90000 : Int).tmod 1000 = 0 := by decide
    have ht0 : sineT[90]? = some 1000000 := by decide +kernel
    have hv : sinQ 90000 = 1000000 := by decide +kernel
    have hv0 : (0 : Int) = 0 → sinQ 90000 = 1000000 := fun _ => hv
    refine fn_rule Tryz.func193 rfl (by decide +kernel) rfl (fun w0 F0 lent β0 => ?_)
    repeat' (first | refine sC ?_ | ((with_reducible refine isAwp ?_); first | (refine sS ?_; intro Q' hn he hr) | refine sA ?_) | (refine sH ?_; clear hn he hr Q') | ((conv => whnf); first | refine sK ?_ | (refine sB ?_; repeat' (refine sb2 ?_ ?_ <;> intro hb <;> try exact cls)) | (refine AskS.mk ⟨by omega, ?_⟩) | (refine ArithS.to ((90 : Nat) : Int) hq (wrap64 (by omega)) ?_) | (refine InS.nat (by first | (rw [List.length_map]; show _ < 91; omega) | (show _ < 91; omega)) ?_) | ((with_reducible refine isCall ?_); first | (refine call_pure (hNm) rfl rfl ?_) | (refine call_new c_spec_l02Table rfl (by first | exact (rfl : _ = 0) | exact (rfl : _ = 1) | exact (rfl : _ = 2) | exact (rfl : _ = 3) | exact (rfl : _ = 4) | exact (rfl : _ = 5) | exact (rfl : _ = 6) | exact (rfl : _ = 7) | exact (rfl : _ = 8) | exact (rfl : _ = 9) | exact (rfl : _ = 10) | exact (rfl : _ = 11) | exact (rfl : _ = 12) | exact (rfl : _ = 13) | exact (rfl : _ = 14) | exact (rfl : _ = 15) | exact (rfl : _ = 16) | exact (rfl : _ = 17) | exact (rfl : _ = 18) | exact (rfl : _ = 19) | exact (rfl : _ = 20) | exact (rfl : _ = 21) | exact (rfl : _ = 22) | exact (rfl : _ = 23) | exact (rfl : _ = 24) | exact (rfl : _ = 25) | exact (rfl : _ = 26) | exact (rfl : _ = 27) | exact (rfl : _ = 28) | exact (rfl : _ = 29) | exact (rfl : _ = 30) | exact (rfl : _ = 31) | exact (rfl : _ = 32) | exact (rfl : _ = 33) | exact (rfl : _ = 34) | exact (rfl : _ = 35) | exact (rfl : _ = 36) | exact (rfl : _ = 37) | exact (rfl : _ = 38) | exact (rfl : _ = 39)) ?_)) | refine sP ?_ | (refine ret_pick [] rfl rfl rfl ⟨?_, rfl⟩; conv => lhs; whnf)))
    all_goals first
      | (rw [hv0 (by omega)]; refine congrArg (D.int _) ?_; omega)
      | (rw [hv]; refine congrArg (D.int _) ?_; omega)
  · skip
    rw [if_pos (by omega), if_pos (by omega)]
    generalize hm : 180000 - n = m
    have hq : m.tdiv 1000 = (((m / 1000).toNat : Nat) : Int) := by rw [Int.tdiv_eq_ediv_of_nonneg (by omega)]; omega
    have hr0 : m.tmod 1000 = m % 1000 := Int.tmod_eq_emod_of_nonneg (by omega)
    generalize hN : (m / 1000).toNat = N at hq
    obtain ⟨t0, t1, ht0, ht1, hb1, e0, e1⟩ := sineT_two (k := N) (by omega)
    have hmul := mul_bound (x := t1 - t0) (y := m.tmod 1000) (m := 1000000) (n := 1000) (by omega) (by omega) (by omega)
    have hrb := rnd_bound (a := (t1 - t0) * m.tmod 1000) (b := 1000) (m := 1000000) (by omega) (by omega) (by omega)
    have hv : sinQ m = t0 + rnd ((t1 - t0) * m.tmod 1000) 1000 := by unfold sinQ; rw [hN, e0, e1, hr0]
    have hv0 : m.tmod 1000 = 0 → sinQ m = t0 := fun h => by rw [hv, h, Int.mul_zero, rnd_zero 1000 (by omega)]; omega
    refine fn_rule Tryz.func193 rfl (by decide +kernel) rfl (fun w0 F0 lent β0 => ?_)
    repeat' (first | refine sC ?_ | ((with_reducible refine isAwp ?_); first | (refine sS ?_; intro Q' hn he hr) | refine sA ?_) | (refine sH ?_; clear hn he hr Q') | refine sO ?_ | ((conv => whnf); first | refine sK ?_ | (refine sB ?_; repeat' (refine sb2 ?_ ?_ <;> intro hb <;> try exact cls)) | (refine ArithS.to m hm (wrap64 (by omega)) ?_) | (refine AskS.mk ⟨by omega, ?_⟩) | (refine ArithS.to (N : Int) hq (wrap64 (by omega)) ?_) | (refine ArithS.to (((N + 1 : Nat)) : Int) (by omega) (wrap64 (by omega)) ?_) | (refine draw_n 16 (by decide +kernel) (by decide +kernel) ?_) | (refine InS.nat (by first | (rw [List.length_map]; show _ < 91; omega) | (show _ < 91; omega)) ?_) | ((with_reducible refine isCall ?_); first | (refine call_pure (hNm) rfl rfl ?_) | (refine call_new c_spec_l02Table rfl (by first | exact (rfl : _ = 0) | exact (rfl : _ = 1) | exact (rfl : _ = 2) | exact (rfl : _ = 3) | exact (rfl : _ = 4) | exact (rfl : _ = 5) | exact (rfl : _ = 6) | exact (rfl : _ = 7) | exact (rfl : _ = 8) | exact (rfl : _ = 9) | exact (rfl : _ = 10) | exact (rfl : _ = 11) | exact (rfl : _ = 12) | exact (rfl : _ = 13) | exact (rfl : _ = 14) | exact (rfl : _ = 15) | exact (rfl : _ = 16) | exact (rfl : _ = 17) | exact (rfl : _ = 18) | exact (rfl : _ = 19) | exact (rfl : _ = 20) | exact (rfl : _ = 21) | exact (rfl : _ = 22) | exact (rfl : _ = 23) | exact (rfl : _ = 24) | exact (rfl : _ = 25) | exact (rfl : _ = 26) | exact (rfl : _ = 27) | exact (rfl : _ = 28) | exact (rfl : _ = 29) | exact (rfl : _ = 30) | exact (rfl : _ = 31) | exact (rfl : _ = 32) | exact (rfl : _ = 33) | exact (rfl : _ = 34) | exact (rfl : _ = 35) | exact (rfl : _ = 36) | exact (rfl : _ = 37) | exact (rfl : _ = 38) | exact (rfl : _ = 39)) ?_)) | ((with_reducible refine isCallQ ?_); (refine callQ_pure (c_spec_l01Div _ _ (by omega) (by omega)) rfl rfl ?_)) | refine sP ?_ | (refine ret_pick [] rfl rfl rfl ⟨?_, rfl⟩; conv => lhs; whnf)))
    all_goals first
      | (rw [hv0 (by omega)]; refine congrArg (D.int _) ?_; omega)
      | (rw [hv]; refine congrArg (D.int _) ?_; omega)
  · skip
    rw [if_neg (by omega), if_neg (by omega)]
    generalize hm : n - 180000 = m
    have hq : m.tdiv 1000 = (((m / 1000).toNat : Nat) : Int) := by rw [Int.tdiv_eq_ediv_of_nonneg (by omega)]; omega
    have hr0 : m.tmod 1000 = m % 1000 := Int.tmod_eq_emod_of_nonneg (by omega)
    generalize hN : (m / 1000).toNat = N at hq
    obtain ⟨t0, t1, ht0, ht1, hb1, e0, e1⟩ := sineT_two (k := N) (by omega)
    have hmul := mul_bound (x := t1 - t0) (y := m.tmod 1000) (m := 1000000) (n := 1000) (by omega) (by omega) (by omega)
    have hrb := rnd_bound (a := (t1 - t0) * m.tmod 1000) (b := 1000) (m := 1000000) (by omega) (by omega) (by omega)
    have hv : sinQ m = t0 + rnd ((t1 - t0) * m.tmod 1000) 1000 := by unfold sinQ; rw [hN, e0, e1, hr0]
    have hv0 : m.tmod 1000 = 0 → sinQ m = t0 := fun h => by rw [hv, h, Int.mul_zero, rnd_zero 1000 (by omega)]; omega
    refine fn_rule Tryz.func193 rfl (by decide +kernel) rfl (fun w0 F0 lent β0 => ?_)
    repeat' (first | refine sC ?_ | ((with_reducible refine isAwp ?_); first | (refine sS ?_; intro Q' hn he hr) | refine sA ?_) | (refine sH ?_; clear hn he hr Q') | refine sO ?_ | ((conv => whnf); first | refine sK ?_ | (refine sB ?_; repeat' (refine sb2 ?_ ?_ <;> intro hb <;> try exact cls)) | (refine ArithS.to m hm (wrap64 (by omega)) ?_) | (refine AskS.mk ⟨by omega, ?_⟩) | (refine ArithS.to (N : Int) hq (wrap64 (by omega)) ?_) | (refine ArithS.to (((N + 1 : Nat)) : Int) (by omega) (wrap64 (by omega)) ?_) | (refine draw_n 16 (by decide +kernel) (by decide +kernel) ?_) | (refine InS.nat (by first | (rw [List.length_map]; show _ < 91; omega) | (show _ < 91; omega)) ?_) | ((with_reducible refine isCall ?_); first | (refine call_pure (hNm) rfl rfl ?_) | (refine call_new c_spec_l02Table rfl (by first | exact (rfl : _ = 0) | exact (rfl : _ = 1) | exact (rfl : _ = 2) | exact (rfl : _ = 3) | exact (rfl : _ = 4) | exact (rfl : _ = 5) | exact (rfl : _ = 6) | exact (rfl : _ = 7) | exact (rfl : _ = 8) | exact (rfl : _ = 9) | exact (rfl : _ = 10) | exact (rfl : _ = 11) | exact (rfl : _ = 12) | exact (rfl : _ = 13) | exact (rfl : _ = 14) | exact (rfl : _ = 15) | exact (rfl : _ = 16) | exact (rfl : _ = 17) | exact (rfl : _ = 18) | exact (rfl : _ = 19) | exact (rfl : _ = 20) | exact (rfl : _ = 21) | exact (rfl : _ = 22) | exact (rfl : _ = 23) | exact (rfl : _ = 24) | exact (rfl : _ = 25) | exact (rfl : _ = 26) | exact (rfl : _ = 27) | exact (rfl : _ = 28) | exact (rfl : _ = 29) | exact (rfl : _ = 30) | exact (rfl : _ = 31) | exact (rfl : _ = 32) | exact (rfl : _ = 33) | exact (rfl : _ = 34) | exact (rfl : _ = 35) | exact (rfl : _ = 36) | exact (rfl : _ = 37) | exact (rfl : _ = 38) | exact (rfl : _ = 39)) ?_)) | ((with_reducible refine isCallQ ?_); (refine callQ_pure (c_spec_l01Div _ _ (by omega) (by omega)) rfl rfl ?_)) | refine sP ?_ | (refine ret_pick [] rfl rfl rfl ⟨?_, rfl⟩; conv => lhs; whnf)))
    all_goals first
      | (rw [hv0 (by omega)]; refine congrArg (D.int _) ?_; omega)
      | (rw [hv]; refine congrArg (D.int _) ?_; omega)
  · skip
    rw [if_neg (by omega), if_neg (by omega)]
    rw [show (270000 : Int) - 180000 = 90000 by decide]
    have hq : (90000 : Int).tdiv 1000 = ((90 : Nat) : Int) := by decide
    have hr0 : (90000 : Int).tmod 1000 = 0 := by decide
    have ht0 : sineT[90]? = some 1000000 := by decide +kernel
    have hv : sinQ 90000 = 1000000 := by decide +kernel
    have hv0 : (0 : Int) = 0 → sinQ 90000 = 1000000 := fun _ => hv
    refine fn_rule Tryz.func193 rfl (by decide +kernel) rfl (fun w0 F0 lent β0 => ?_)
    repeat' (first | refine sC ?_ | ((with_reducible refine isAwp ?_); first | (refine sS ?_; intro Q' hn he hr) | refine sA ?_) | (refine sH ?_; clear hn he hr Q') | ((conv => whnf); first | refine sK ?_ | (refine sB ?_; repeat' (refine sb2 ?_ ?_ <;> intro hb <;> try exact cls)) | (refine ArithS.to 90000 (by decide) (wrap64 (by omega)) ?_) | (refine AskS.mk ⟨by omega, ?_⟩) | (refine ArithS.to ((90 : Nat) : Int) hq (wrap64 (by omega)) ?_) | (refine InS.nat (by first | (rw [List.length_map]; show _ < 91; omega) | (show _ < 91; omega)) ?_) | ((with_reducible refine isCall ?_); first | (refine call_pure (hNm) rfl rfl ?_) | (refine call_new c_spec_l02Table rfl (by first | exact (rfl : _ = 0) | exact (rfl : _ = 1) | exact (rfl : _ = 2) | exact (rfl : _ = 3) | exact (rfl : _ = 4) | exact (rfl : _ = 5) | exact (rfl : _ = 6) | exact (rfl : _ = 7) | exact (rfl : _ = 8) | exact (rfl : _ = 9) | exact (rfl : _ = 10) | exact (rfl : _ = 11) | exact (rfl : _ = 12) | exact (rfl : _ = 13) | exact (rfl : _ = 14) | exact (rfl : _ = 15) | exact (rfl : _ = 16) | exact (rfl : _ = 17) | exact (rfl : _ = 18) | exact (rfl : _ = 19) | exact (rfl : _ = 20) | exact (rfl : _ = 21) | exact (rfl : _ = 22) | exact (rfl : _ = 23) | exact (rfl : _ = 24) | exact (rfl : _ = 25) | exact (rfl : _ = 26) | exact (rfl : _ = 27) | exact (rfl : _ = 28) | exact (rfl : _ = 29) | exact (rfl : _ = 30) | exact (rfl : _ = 31) | exact (rfl : _ = 32) | exact (rfl : _ = 33) | exact (rfl : _ = 34) | exact (rfl : _ = 35) | exact (rfl : _ = 36) | exact (rfl : _ = 37) | exact (rfl : _ = 38) | exact (rfl : _ = 39)) ?_)) | refine sP ?_ | (refine ret_pick [] rfl rfl rfl ⟨?_, rfl⟩; conv => lhs; whnf)))
    all_goals first
      | (rw [hv0 (by omega)]; refine congrArg (D.int _) ?_; omega)
      | (rw [hv]; refine congrArg (D.int _) ?_; omega)
  · skip
    rw [if_neg (by omega), if_pos (by omega)]
    generalize hm1 : n - 180000 = m1
    generalize hm : 180000 - m1 = m
    have hq : m.tdiv 1000 = (((m / 1000).toNat : Nat) : Int) := by rw [Int.tdiv_eq_ediv_of_nonneg (by omega)]; omega
    have hr0 : m.tmod 1000 = m % 1000 := Int.tmod_eq_emod_of_nonneg (by omega)
    generalize hN : (m / 1000).toNat = N at hq
    obtain ⟨t0, t1, ht0, ht1, hb1, e0, e1⟩ := sineT_two (k := N) (by omega)
    have hmul := mul_bound (x := t1 - t0) (y := m.tmod 1000) (m := 1000000) (n := 1000) (by omega) (by omega) (by omega)
    have hrb := rnd_bound (a := (t1 - t0) * m.tmod 1000) (b := 1000) (m := 1000000) (by omega) (by omega) (by omega)
    have hv : sinQ m = t0 + rnd ((t1 - t0) * m.tmod 1000) 1000 := by unfold sinQ; rw [hN, e0, e1, hr0]
    have hv0 : m.tmod 1000 = 0 → sinQ m = t0 := fun h => by rw [hv, h, Int.mul_zero, rnd_zero 1000 (by omega)]; omega
    refine fn_rule Tryz.func193 rfl (by decide +kernel) rfl (fun w0 F0 lent β0 => ?_)
    repeat' (first | refine sC ?_ | ((with_reducible refine isAwp ?_); first | (refine sS ?_; intro Q' hn he hr) | refine sA ?_) | (refine sH ?_; clear hn he hr Q') | refine sO ?_ | ((conv => whnf); first | refine sK ?_ | (refine sB ?_; repeat' (refine sb2 ?_ ?_ <;> intro hb <;> try exact cls)) | (refine ArithS.to m1 hm1 (wrap64 (by omega)) ?_) | (refine ArithS.to m hm (wrap64 (by omega)) ?_) | (refine AskS.mk ⟨by omega, ?_⟩) | (refine ArithS.to (N : Int) hq (wrap64 (by omega)) ?_) | (refine ArithS.to (((N + 1 : Nat)) : Int) (by omega) (wrap64 (by omega)) ?_) | (refine draw_n 16 (by decide +kernel) (by decide +kernel) ?_) | (refine InS.nat (by first | (rw [List.length_map]; show _ < 91; omega) | (show _ < 91; omega)) ?_) | ((with_reducible refine isCall ?_); first | (refine call_pure (hNm) rfl rfl ?_) | (refine call_new c_spec_l02Table rfl (by first | exact (rfl : _ = 0) | exact (rfl : _ = 1) | exact (rfl : _ = 2) | exact (rfl : _ = 3) | exact (rfl : _ = 4) | exact (rfl : _ = 5) | exact (rfl : _ = 6) | exact (rfl : _ = 7) | exact (rfl : _ = 8) | exact (rfl : _ = 9) | exact (rfl : _ = 10) | exact (rfl : _ = 11) | exact (rfl : _ = 12) | exact (rfl : _ = 13) | exact (rfl : _ = 14) | exact (rfl : _ = 15) | exact (rfl : _ = 16) | exact (rfl : _ = 17) | exact (rfl : _ = 18) | exact (rfl : _ = 19) | exact (rfl : _ = 20) | exact (rfl : _ = 21) | exact (rfl : _ = 22) | exact (rfl : _ = 23) | exact (rfl : _ = 24) | exact (rfl : _ = 25) | exact (rfl : _ = 26) | exact (rfl : _ = 27) | exact (rfl : _ = 28) | exact (rfl : _ = 29) | exact (rfl : _ = 30) | exact (rfl : _ = 31) | exact (rfl : _ = 32) | exact (rfl : _ = 33) | exact (rfl : _ = 34) | exact (rfl : _ = 35) | exact (rfl : _ = 36) | exact (rfl : _ = 37) | exact (rfl : _ = 38) | exact (rfl : _ = 39)) ?_)) | ((with_reducible refine isCallQ ?_); (refine callQ_pure (c_spec_l01Div _ _ (by omega) (by omega)) rfl rfl ?_)) | refine sP ?_ | (refine ret_pick [] rfl rfl rfl ⟨?_, rfl⟩; conv => lhs; whnf)))
    all_goals first
      | (rw [hv0 (by omega)]; refine congrArg (D.int _) ?_; omega)
      | (rw [hv]; refine congrArg (D.int _) ?_; omega)
end Go.Eng
