/-
  Contracts of functions of the program and of the reference, and plain laws: a bundle of texts.
  No conditions.
-/
import Derived.Test.YtigdnelbanaieaaGreatDoorED
import Derived.Laws.FloatArith
import Derived.Test.YtigdnelbanaieaaGreatDoorTX
import Derived.Test.YtigdnelbanaieaaGreatDoorAX
set_option linter.unusedVariables false
set_option linter.unusedSimpArgs false
set_option maxHeartbeats 4000000
namespace Go.Eng
open Go Ieee
set_option maxRecDepth 100000
theorem cut_even_le (neg : Bool) (n drop : Nat) : Toward.even.cut neg n drop ≤ n / (1 <<< min drop (n.log2 + 2)) + 1 := by
  have h : ∀ b : Bool, b.toNat ≤ 1 := by decide
  show n / (1 <<< min drop (n.log2 + 2)) + Bool.toNat _ ≤ _
  exact Nat.add_le_add_left (h _) _
theorem cut_even_zero (neg : Bool) (n : Nat) : Toward.even.cut neg n 0 = n := by
  unfold Toward.cut
  simp [Nat.mod_one]
theorem read_nearest (mag : Nat) (place : Int) (L : Nat) (hL : (max (place + mag.log2 - 52) (-1074) + 1074).toNat ≤ L) (hL2 : L ≤ 2000) :
    ∃ m p, double.read (double.nearest false mag place) = .number false m p ∧ m < 2 ^ 53 ∧ -1074 ≤ p ∧ p ≤ -1074 + L + 1 := by
  have e1 : double.fractionBits = 52 := rfl
  have e2 : double.leastPlace = -1074 := by decide
  have e3 : double.binade = 2 ^ 52 := rfl
  have e4 : double.infRung = 2047 * 2 ^ 52 := by decide
  have e5 : double.signWeight = 2 ^ 63 := by decide
  -- the rung
  obtain ⟨r, hr, hrl⟩ : ∃ r, double.nearest false mag place = r ∧ r ≤ L * 2 ^ 52 + 2 ^ 53 := by
    refine ⟨_, rfl, ?_⟩
    unfold Format.nearest
    split
    · exact Nat.zero_le _
    · rename_i hm
      simp only [Format.word, Bool.false_eq_true, if_false, e1, e2, e3]
      refine Nat.le_trans (Nat.min_le_left _ _) ?_
      generalize hlast : max (place + (mag.log2 : Int) - 52) (-1074) = last at hL ⊢
      have h1 : (last - -1074).toNat ≤ L := by rw [show last - -1074 = last + 1074 by omega]; exact hL
      have h2 : Toward.even.cut false (mag <<< (place - last).toNat) (last - place).toNat ≤ 2 ^ 53 := by
        have hlt := Nat.lt_log2_self (n := mag)
        have hp : place + (mag.log2 : Int) - 52 ≤ last := by omega
        rcases Int.lt_or_le place last with hc | hc
        · rw [show (place - last).toNat = 0 by omega, Nat.shiftLeft_zero]
          refine Nat.le_trans (cut_even_le _ _ _) ?_
          rw [Nat.one_shiftLeft]
          have h3 : mag / 2 ^ min (last - place).toNat (mag.log2 + 2) < 2 ^ 53 := by
            rw [Nat.div_lt_iff_lt_mul (Nat.two_pow_pos _), ← Nat.pow_add]
            exact Nat.lt_of_lt_of_le hlt (Nat.pow_le_pow_right (by omega) (by omega))
          omega
        · rw [show (last - place).toNat = 0 by omega, cut_even_zero, Nat.shiftLeft_eq]
          have h3 : mag * 2 ^ (place - last).toNat < 2 ^ (mag.log2 + 1) * 2 ^ (place - last).toNat := Nat.mul_lt_mul_of_pos_right hlt (Nat.two_pow_pos _)
          rw [← Nat.pow_add] at h3
          exact Nat.le_trans (Nat.le_of_lt h3) (Nat.pow_le_pow_right (by omega) (by omega))
      exact Nat.add_le_add (Nat.mul_le_mul_right _ h1) h2
  have hr2 : r < 2047 * 2 ^ 52 := by omega
  rw [hr]
  unfold Format.read
  simp only [e2, e3, e4, e5]
  have h0 : r / 2 ^ 63 = 0 := Nat.div_eq_of_lt (by omega)
  have h1 : r % 2 ^ 63 = r := Nat.mod_eq_of_lt (by omega)
  rw [h0, h1]
  rcases Nat.lt_or_ge r (2 ^ 52) with hc | hc
  · rw [if_pos hc]
    exact ⟨_, _, rfl, by omega, by omega, by omega⟩
  · rw [if_neg (by omega), if_pos hr2]
    refine ⟨_, _, rfl, ?_, by omega, ?_⟩
    · have := Nat.mod_lt r (show 2 ^ 52 > 0 by omega)
      omega
    · have : r / 2 ^ 52 ≤ L + 2 := by
        have := Nat.div_le_div_right (c := 2 ^ 52) hrl
        omega
      omega
theorem rootFrom_sq (n : Nat) : ∀ (todo root : Nat), root * root ≤ n → Datum.rootFrom n todo root * Datum.rootFrom n todo root ≤ n
  | 0, root, h => h
  | todo + 1, root, h => by
    unfold Datum.rootFrom
    simp only
    split
    · rename_i h2; exact rootFrom_sq n todo _ h2
    · exact rootFrom_sq n todo _ h
theorem sqrt_small (n : Int) (h : 0 < n ∧ n ≤ 9223372036854775807) : ∃ r m, double.sqrt (floatOfInt .f64 n) = some r ∧ floatToIntVal .f64 r .i64 = some m ∧ 0 ≤ m ∧ m ≤ 9223372036854775807 := by
  have hx : floatOfInt .f64 n = double.nearest false n.natAbs 0 := by
    show double.write (.number (n < 0) n.natAbs 0) = _
    rw [decide_eq_false (by omega)]; rfl
  have hlog : n.natAbs.log2 ≤ 62 := by
    have := (Nat.log2_lt (n := n.natAbs) (k := 63) (by omega)).2 (by omega)
    omega
  obtain ⟨m, p, hm, hmb, hp1, hp2⟩ := read_nearest n.natAbs 0 1084 (by omega) (by omega)
  rw [hx]
  unfold Format.sqrt
  rw [hm]
  -- the root
  have key : ∃ M P, Datum.root (double.fractionBits + 2) (.number false m p) = some (.number false M P) ∧ (max (P + (M.log2 : Int) - 52) (-1074) + 1074).toNat ≤ 1060 := by
    unfold Datum.root
    simp only
    split
    · rename_i h0
      subst h0
      refine ⟨0, p, rfl, ?_⟩
      simp only [show Nat.log2 0 = 0 by decide]
      omega
    · rename_i h0
      refine ⟨_, _, rfl, ?_⟩
      rw [show double.fractionBits + 2 = 54 from rfl]
      have hl : m.log2 ≤ 52 := by
        have := (Nat.log2_lt (n := m) (k := 53) (by omega)).2 hmb
        omega
      generalize hmore : 2 * 54 - m.log2 + ((p - ((2 * 54 - m.log2 : Nat) : Int)) % 2).toNat = more
      have hmore1 : 56 ≤ more ∧ more ≤ 109 - m.log2 := by omega
      have hn : m <<< more < 2 ^ 110 := by
        rw [Nat.shiftLeft_eq]
        have h1 := Nat.lt_log2_self (n := m)
        have h2 : m * 2 ^ more < 2 ^ (m.log2 + 1) * 2 ^ more := Nat.mul_lt_mul_of_pos_right h1 (Nat.two_pow_pos _)
        rw [← Nat.pow_add] at h2
        exact Nat.lt_of_lt_of_le h2 (Nat.pow_le_pow_right (by omega) (by omega))
      have hsq := rootFrom_sq (m <<< more) ((m <<< more).log2 / 2 + 1) 0 (Nat.zero_le _)
      generalize hw : Datum.rootFrom (m <<< more) ((m <<< more).log2 / 2 + 1) 0 = whole at hsq ⊢
      have hwb : whole < 2 ^ 55 := by
        rcases Nat.lt_or_ge whole (2 ^ 55) with h1 | h1
        · exact h1
        · have := Nat.mul_le_mul h1 h1
          omega
      have hb : ∀ b : Bool, b.toNat ≤ 1 := by decide
      have hM := hb (whole * whole != m <<< more)
      generalize (whole * whole != m <<< more).toNat = bt at hM ⊢
      have hlM : (2 * whole + bt).log2 ≤ 55 := by
        rcases Nat.eq_zero_or_pos (2 * whole + bt) with h1 | h1
        · rw [h1]; decide
        · have := (Nat.log2_lt (n := 2 * whole + bt) (k := 56) (by omega)).2 (by omega)
          omega
      omega
  obtain ⟨M, P, hroot, hL⟩ := key
  rw [hroot]
  obtain ⟨m2, p2, hm2, hmb2, hq1, hq2⟩ := read_nearest M P 1060 hL (by omega)
  have hcut : Toward.zero.cut false m2 (-p2).toNat ≤ m2 := by
    unfold Toward.cut
    show m2 / _ + 0 ≤ m2
    exact Nat.div_le_self _ _
  refine ⟨double.nearest false M P, (Toward.zero.cut false m2 (-p2).toNat : Nat), rfl, ?_, by omega, by omega⟩
  unfold floatToIntVal
  have hd : (FloatKind.f64.decode (double.nearest false M P)).toInt .zero = some ((Toward.zero.cut false m2 (-p2).toNat : Nat) : Int) := by
    show (double.read (double.nearest false M P)).toInt .zero = _
    rw [hm2]
    unfold Datum.toInt Datum.integral
    simp only
    rw [show p2.toNat = 0 by omega, Nat.shiftLeft_zero]
    rfl
  rw [hd]
  simp only
  rw [if_pos]
  exact ⟨by show (-9223372036854775808 : Int) ≤ _; omega, by show _ ≤ (9223372036854775807 : Int); omega⟩
end Go.Eng

namespace Go.Eng
open Go Go.RowKit Go.Proofs
set_option maxRecDepth 100000
theorem c_impl_CosineOf (a : Int) (ha : i64B a) : FnC Tryz.prog 211 GS 0 [] [.int .i64 a] (fun d os => d = .int .i64 (cosA a) ∧ os = []) := by
  unfold i64B at ha
  refine fn_rule Tryz.func211 rfl (by decide +kernel) rfl (fun w0 F0 lent β0 => ?_)
  repeat' (first | refine sC ?_ | ((with_reducible refine isAwp ?_); first | (refine sS ?_; intro Q' hn he hr) | refine sA ?_) | (refine sH ?_; clear hn he hr Q') | ((conv => whnf); first | refine sK ?_ | ((with_reducible refine isCall ?_); first | (refine call_pure (FnC.anyG (c_impl_NormalAngle a ha)) rfl rfl ?_) | (refine call_pure (c_impl_SineOf _ (by unfold i64B; omega)) rfl rfl ?_)) | refine sP ?_ | (refine ret_pick [] rfl rfl rfl ⟨?_, rfl⟩; conv => lhs; whnf)))
  all_goals rfl
theorem c_spec_l02Cosine (a : Int) (ha : i64B a) : FnC Tryz.prog 194 G0 0 [] [.int .i64 a] (fun d os => d = .int .i64 (cosA a) ∧ os = []) := by
  unfold i64B at ha
  refine fn_rule Tryz.func194 rfl (by decide +kernel) rfl (fun w0 F0 lent β0 => ?_)
  repeat' (first | refine sC ?_ | ((with_reducible refine isAwp ?_); first | (refine sS ?_; intro Q' hn he hr) | refine sA ?_) | (refine sH ?_; clear hn he hr Q') | ((conv => whnf); first | refine sK ?_ | ((with_reducible refine isCall ?_); first | (refine call_pure (c_spec_l02Normal a ha) rfl rfl ?_) | (refine call_pure (c_spec_l02Sine _ (by unfold i64B; omega)) rfl rfl ?_)) | refine sP ?_ | (refine ret_pick [] rfl rfl rfl ⟨?_, rfl⟩; conv => lhs; whnf)))
  all_goals rfl
/-- The direction of two angles. -/
def dirV (lon lat : Int) : TVector := ⟨rnd (cosA lat * cosA lon) 1000000, rnd (cosA lat * sinA lon) 1000000, sinA lat⟩
def vecB (m : Int) (v : TVector) : Prop := (-m ≤ v.fX ∧ v.fX ≤ m) ∧ (-m ≤ v.fY ∧ v.fY ≤ m) ∧ (-m ≤ v.fZ ∧ v.fZ ≤ m)
theorem dirV_bound (lon lat : Int) : vecB 1000000 (dirV lon lat) := by
  have h1 := mul_bound (cosA_bound lat) (cosA_bound lon) (by omega)
  have h2 := mul_bound (cosA_bound lat) (sinA_bound lon) (by omega)
  exact ⟨rnd_bound (by omega) (by omega) (by omega), rnd_bound (by omega) (by omega) (by omega), sinA_bound lat⟩
theorem c_impl_directionOf (lon lat : Int) (h1 : i64B lon) (h2 : i64B lat) : FnC Tryz.prog 215 GS 0 [] [.int .i64 lon, .int .i64 lat] (fun d os => d = .agg (encVector (dirV lon lat)) ∧ os = []) := by
  have hb1 := mul_bound (cosA_bound lat) (cosA_bound lon) (by omega)
  have hb2 := mul_bound (cosA_bound lat) (sinA_bound lon) (by omega)
  refine fn_rule Tryz.func215 rfl (by decide +kernel) rfl (fun w0 F0 lent β0 => ?_)
  repeat' (first | refine sC ?_ | ((with_reducible refine isAwp ?_); first | (refine sS ?_; intro Q' hn he hr) | refine sA ?_) | (refine sH ?_; clear hn he hr Q') | ((conv => whnf); first | refine sK ?_ | ((with_reducible refine isCall ?_); first | (refine call_pure (c_impl_CosineOf _ h1) rfl rfl ?_) | (refine call_pure (c_impl_CosineOf _ h2) rfl rfl ?_) | (refine call_pure (c_impl_SineOf _ h1) rfl rfl ?_) | (refine call_pure (c_impl_SineOf _ h2) rfl rfl ?_) | (refine call_pure (FnC.anyG (c_impl_nearest _ _ (by omega) (by omega))) rfl rfl ?_)) | refine sP ?_ | (refine ret_pick [] rfl rfl rfl ⟨?_, rfl⟩; conv => lhs; whnf)))
  all_goals rfl
theorem c_spec_l04Direction (lon lat : Int) (h1 : i64B lon) (h2 : i64B lat) : FnC Tryz.prog 218 G0 0 [] [.int .i64 lon, .int .i64 lat] (fun d os => d = .agg (encVector (dirV lon lat)) ∧ os = []) := by
  have hb1 := mul_bound (cosA_bound lat) (cosA_bound lon) (by omega)
  have hb2 := mul_bound (cosA_bound lat) (sinA_bound lon) (by omega)
  refine fn_rule Tryz.func218 rfl (by decide +kernel) rfl (fun w0 F0 lent β0 => ?_)
  repeat' (first | refine sC ?_ | ((with_reducible refine isAwp ?_); first | (refine sS ?_; intro Q' hn he hr) | refine sA ?_) | (refine sH ?_; clear hn he hr Q') | ((conv => whnf); first | refine sK ?_ | ((with_reducible refine isCall ?_); first | (refine call_pure (c_spec_l02Cosine _ h1) rfl rfl ?_) | (refine call_pure (c_spec_l02Cosine _ h2) rfl rfl ?_) | (refine call_pure (c_spec_l02Sine _ h1) rfl rfl ?_) | (refine call_pure (c_spec_l02Sine _ h2) rfl rfl ?_) | (refine call_pure (c_spec_l01Div _ _ (by omega) (by omega)) rfl rfl ?_)) | refine sP ?_ | (refine ret_pick [] rfl rfl rfl ⟨?_, rfl⟩; conv => lhs; whnf)))
  all_goals rfl
def crossV (a b : TVector) : TVector := ⟨rnd (a.fY * b.fZ - a.fZ * b.fY) 1000000, rnd (a.fZ * b.fX - a.fX * b.fZ) 1000000, rnd (a.fX * b.fY - a.fY * b.fX) 1000000⟩
def dotV (a b : TVector) : Int := rnd (a.fX * b.fX + a.fY * b.fY + a.fZ * b.fZ) 1000000
theorem crossV_bound {a b : TVector} (ha : vecB 1000000 a) (hb : vecB 1000000 b) : vecB 2000000 (crossV a b) := by
  obtain ⟨ax, ay, az⟩ := ha
  obtain ⟨bx, by_, bz⟩ := hb
  have h1 := mul_bound ay bz (by omega)
  have h2 := mul_bound az by_ (by omega)
  have h3 := mul_bound az bx (by omega)
  have h4 := mul_bound ax bz (by omega)
  have h5 := mul_bound ax by_ (by omega)
  have h6 := mul_bound ay bx (by omega)
  exact ⟨rnd_bound (by omega) (by omega) (by omega), rnd_bound (by omega) (by omega) (by omega), rnd_bound (by omega) (by omega) (by omega)⟩
theorem dotV_bound {a b : TVector} (ha : vecB 1000000 a) (hb : vecB 1000000 b) : -3000000 ≤ dotV a b ∧ dotV a b ≤ 3000000 := by
  obtain ⟨ax, ay, az⟩ := ha
  obtain ⟨bx, by_, bz⟩ := hb
  have h1 := mul_bound ax bx (by omega)
  have h2 := mul_bound ay by_ (by omega)
  have h3 := mul_bound az bz (by omega)
  exact rnd_bound (by omega) (by omega) (by omega)
set_option maxHeartbeats 4000000 in
theorem c_impl_crossOf (a b : TVector) (ha : vecB 1000000 a) (hb : vecB 1000000 b) : FnC Tryz.prog 246 G0 0 [] [.agg (encVector a), .agg (encVector b)] (fun d os => d = .agg (encVector (crossV a b)) ∧ os = []) := by
  obtain ⟨ax, ay, az⟩ := ha
  obtain ⟨bx, by_, bz⟩ := hb
  have h1 := mul_bound ay bz (by omega)
  have h2 := mul_bound az by_ (by omega)
  have h3 := mul_bound az bx (by omega)
  have h4 := mul_bound ax bz (by omega)
  have h5 := mul_bound ax by_ (by omega)
  have h6 := mul_bound ay bx (by omega)
  refine fn_rule Tryz.func246 rfl (by decide +kernel) rfl (fun w0 F0 lent β0 => ?_)
  repeat' (first | refine sC ?_ | ((with_reducible refine isAwp ?_); first | (refine sS ?_; intro Q' hn he hr) | refine sA ?_) | (refine sH ?_; clear hn he hr Q') | refine sO ?_ | ((conv => whnf); first | refine sK ?_ | ((with_reducible refine isCallQ ?_); (refine callQ_pure (c_impl_nearest _ _ (by omega) (by omega)) rfl rfl ?_)) | refine sP ?_ | refine sD ?_ | (refine ret_pick [] rfl rfl rfl ⟨?_, rfl⟩; conv => lhs; whnf)))
  all_goals rfl
set_option maxHeartbeats 4000000 in
theorem c_spec_l04Cross (a b : TVector) (ha : vecB 1000000 a) (hb : vecB 1000000 b) : FnC Tryz.prog 270 G0 0 [] [.agg (encVector a), .agg (encVector b)] (fun d os => d = .agg (encVector (crossV a b)) ∧ os = []) := by
  obtain ⟨ax, ay, az⟩ := ha
  obtain ⟨bx, by_, bz⟩ := hb
  have h1 := mul_bound ay bz (by omega)
  have h2 := mul_bound az by_ (by omega)
  have h3 := mul_bound az bx (by omega)
  have h4 := mul_bound ax bz (by omega)
  have h5 := mul_bound ax by_ (by omega)
  have h6 := mul_bound ay bx (by omega)
  refine fn_rule Tryz.func270 rfl (by decide +kernel) rfl (fun w0 F0 lent β0 => ?_)
  repeat' (first | refine sC ?_ | ((with_reducible refine isAwp ?_); first | (refine sS ?_; intro Q' hn he hr) | refine sA ?_) | (refine sH ?_; clear hn he hr Q') | refine sO ?_ | ((conv => whnf); first | refine sK ?_ | ((with_reducible refine isCallQ ?_); (refine callQ_pure (c_spec_l01Div _ _ (by omega) (by omega)) rfl rfl ?_)) | refine sP ?_ | refine sD ?_ | (refine ret_pick [] rfl rfl rfl ⟨?_, rfl⟩; conv => lhs; whnf)))
  all_goals rfl
set_option maxHeartbeats 4000000 in
theorem c_impl_dotOf (a b : TVector) (ha : vecB 1000000 a) (hb : vecB 1000000 b) : FnC Tryz.prog 247 G0 0 [] [.agg (encVector a), .agg (encVector b)] (fun d os => d = .int .i64 (dotV a b) ∧ os = []) := by
  obtain ⟨ax, ay, az⟩ := ha
  obtain ⟨bx, by_, bz⟩ := hb
  have h1 := mul_bound ax bx (by omega)
  have h2 := mul_bound ay by_ (by omega)
  have h3 := mul_bound az bz (by omega)
  refine fn_rule Tryz.func247 rfl (by decide +kernel) rfl (fun w0 F0 lent β0 => ?_)
  repeat' (first | refine sC ?_ | ((with_reducible refine isAwp ?_); first | (refine sS ?_; intro Q' hn he hr) | refine sA ?_) | (refine sH ?_; clear hn he hr Q') | ((conv => whnf); first | refine sK ?_ | ((with_reducible refine isCall ?_); (refine call_pure (c_impl_nearest _ _ (by omega) (by omega)) rfl rfl ?_)) | refine sP ?_ | (refine ret_pick [] rfl rfl rfl ⟨?_, rfl⟩; conv => lhs; whnf)))
  all_goals rfl
set_option maxHeartbeats 4000000 in
theorem c_spec_l04Dot (a b : TVector) (ha : vecB 1000000 a) (hb : vecB 1000000 b) : FnC Tryz.prog 271 G0 0 [] [.agg (encVector a), .agg (encVector b)] (fun d os => d = .int .i64 (dotV a b) ∧ os = []) := by
  obtain ⟨ax, ay, az⟩ := ha
  obtain ⟨bx, by_, bz⟩ := hb
  have h1 := mul_bound ax bx (by omega)
  have h2 := mul_bound ay by_ (by omega)
  have h3 := mul_bound az bz (by omega)
  refine fn_rule Tryz.func271 rfl (by decide +kernel) rfl (fun w0 F0 lent β0 => ?_)
  repeat' (first | refine sC ?_ | ((with_reducible refine isAwp ?_); first | (refine sS ?_; intro Q' hn he hr) | refine sA ?_) | (refine sH ?_; clear hn he hr Q') | ((conv => whnf); first | refine sK ?_ | ((with_reducible refine isCall ?_); (refine call_pure (c_spec_l01Div _ _ (by omega) (by omega)) rfl rfl ?_)) | refine sP ?_ | (refine ret_pick [] rfl rfl rfl ⟨?_, rfl⟩; conv => lhs; whnf)))
  all_goals rfl
end Go.Eng

namespace Go.Eng
open Go Go.RowKit Go.Proofs
set_option maxRecDepth 100000
theorem root_exists (n : Nat) : ∃ r : Nat, r * r ≤ n ∧ n < (r + 1) * (r + 1) := by
  induction n with
  | zero => exact ⟨0, by simp, by simp⟩
  | succ n ih =>
    obtain ⟨r, h1, h2⟩ := ih
    rcases Nat.lt_or_ge (n + 1) ((r + 1) * (r + 1)) with h | h
    · exact ⟨r, by omega, h⟩
    · refine ⟨r + 1, h, ?_⟩
      have : (r + 1) * (r + 1) < (r + 1 + 1) * (r + 1 + 1) := Nat.mul_lt_mul_of_lt_of_lt (by omega) (by omega)
      omega
noncomputable def rootN (n : Nat) : Nat := Classical.choose (root_exists n)
theorem rootN_spec (n : Nat) : rootN n * rootN n ≤ n ∧ n < (rootN n + 1) * (rootN n + 1) := Classical.choose_spec (root_exists n)
theorem rootN_is {n r : Nat} (h1 : r * r ≤ n) (h2 : n < (r + 1) * (r + 1)) : rootN n = r := by
  obtain ⟨g1, g2⟩ := rootN_spec n
  rcases Nat.lt_trichotomy (rootN n) r with h | h | h
  · have := Nat.mul_le_mul (show rootN n + 1 ≤ r from h) (show rootN n + 1 ≤ r from h)
    omega
  · exact h
  · have := Nat.mul_le_mul (show r + 1 ≤ rootN n from h) (show r + 1 ≤ rootN n from h)
    omega
theorem ext_sqrt {X : Ctx} {f : FuncId} {fn : Func} {x r : Nat} {st : St} {K : D → Prop} (hf : X.P.funcs[f]? = some fn) (hname : (fn.name == "runtime.NumGoroutine") = false)
    (hb : fn.body.isNone = true) (hn : Extern.findNext fn = none) (he : Extern.find fn = some Extern.MathSqrt.sqrt) (hs : Ieee.double.sqrt x = some r) (hk : K (.v (.float .f64 r))) : ExtS X f [.v (.float .f64 x)] st K := by
  refine ext_rule hf hname hb hn he _ hk fun w F β vs hl hrep => ?_
  have h0 := (hrep 0 (by simp)).v_inv
  refine ⟨.float .f64 r, ?_, .ro _ _ (.v _)⟩
  have hv : vs = [.float .f64 x] := by
    match vs, hl with
    | [a], _ => simpa using h0
  rw [hv]
  show (match Ieee.double.sqrt x with
    | some r => (pure (.float .f64 r) : Sem Value)
    | none => _).run X.P w = _
  rw [hs]
  rfl
theorem c_math_Sqrt (x r : Nat) (hs : Ieee.double.sqrt x = some r) : FnC Tryz.prog 263 G0 0 [] [.v (.float .f64 x)] (fun d os => d = .v (.float .f64 r) ∧ os = []) := by
  refine fn_rule Tryz.func263 rfl (by decide +kernel) rfl (fun w0 F0 lent β0 => ?_)
  repeat' (first | refine sC ?_ | ((with_reducible refine isAwp ?_); first | (refine sS ?_; intro Q' hn he hr) | refine sA ?_) | (refine sH ?_; clear hn he hr Q') | ((conv => whnf); first | refine sK ?_ | (refine CallS.ext (ext_sqrt Tryz.func275 (by decide +kernel) rfl (by kernel_rfl) (by kernel_rfl) hs ?_)) | (refine ret_pick [] rfl rfl rfl ⟨?_, rfl⟩; conv => lhs; whnf)))
  all_goals rfl
set_option maxHeartbeats 4000000 in
theorem c_spec_l01Root (n : Nat) (hnb : n ≤ 9223372036854775807) : FnC Tryz.prog 273 G0 0 [] [.int .i64 n] (fun d os => d = .int .i64 (rootN n) ∧ os = []) := by
  refine fn_rule Tryz.func273 rfl (by decide +kernel) rfl (fun w0 F0 lent β0 => ?_)
  repeat' (first | refine sC ?_ | ((with_reducible refine isAwp ?_); first | (refine sS ?_; intro Q' hn he hr) | refine sA ?_) | (refine sH ?_; clear hn he hr Q') | ((conv => whnf); refine sK ?_))
  refine loop_env (fun p : Nat × Nat => [(0,.int .i64 n),(3,.int .i64 p.1),(4,.int .i64 p.2)]) (fun _ => []) (fun p => p.1 ≤ p.2 ∧ p.2 ≤ 3037000499 ∧ p.1 * p.1 ≤ n ∧ n < (p.2 + 1) * (p.2 + 1)) (fun p => p.2 - p.1) (0, 3037000499) ⟨by simp, by simp, by simp, by simp; omega⟩ (by refine weak_to rfl rfl rfl ?_; ((repeat' (first | exact trivial | refine And.intro ?_ ?_)) <;> (first | rfl | (conv => rhs; whnf) <;> (first | rfl | (refine congrArg (D.int _) ?_; omega))))) (fun p hk Q' hn he hr => ?_)
  obtain ⟨low, high⟩ := p
  obtain ⟨h1, h2, h3, h4⟩ := hk
  simp only at h1 h2 h3 h4 ⊢
  obtain ⟨mid, hmid⟩ : ∃ mid : Nat, mid = (low + high + 1) / 2 := ⟨_, rfl⟩
  have hq : ((low : Int) + high + 1).tdiv 2 = (mid : Int) := by rw [Int.tdiv_eq_ediv_of_nonneg (by omega)]; omega
  have hmb := mul_bound (x := (mid : Int)) (y := (mid : Int)) (m := 3037000499) (n := 3037000499) (by omega) (by omega) (by omega)
  repeat' (first | refine sC ?_ | ((with_reducible refine isAwp ?_); first | (refine sS ?_; intro Q' hn he hr) | refine sA ?_) | (refine sH ?_; clear hn he hr Q') | ((conv => whnf); first | refine sK ?_ | (refine sB ?_; repeat' (refine sb2 ?_ ?_ <;> intro hb <;> try exact cls)) | (refine AskS.mk ⟨by omega, ?_⟩) | (refine ArithS.to (mid : Int) hq (wrap64 (by omega)) ?_) | refine sP ?_ | (refine ret_pick [] rfl rfl rfl ⟨?_, rfl⟩; conv => lhs; whnf) | (refine sH ?_; clear hn he hr Q')))
  · rw [← Int.natCast_mul] at hb
    exact ⟨(mid, high), ⟨by simp; omega, by simp; omega, by simp; omega, by simpa using h4⟩, by simp; omega, (by refine weak_to rfl rfl rfl ?_; ((repeat' (first | exact trivial | refine And.intro ?_ ?_)) <;> (first | rfl | (conv => rhs; whnf) <;> (first | rfl | (refine congrArg (D.int _) ?_; omega)))))⟩
  · rw [← Int.natCast_mul] at hb
    refine ⟨(low, mid - 1), ⟨by simp; omega, by simp; omega, by simpa using h3, ?_⟩, by simp; omega, (by refine weak_to rfl rfl rfl ?_; ((repeat' (first | exact trivial | refine And.intro ?_ ?_)) <;> (first | rfl | (conv => rhs; whnf) <;> (first | rfl | (refine congrArg (D.int _) ?_; omega)))))⟩
    show n < (mid - 1 + 1) * (mid - 1 + 1)
    rw [show mid - 1 + 1 = mid by omega]; omega
  · have : low = high := by omega
    subst this
    rw [rootN_is h3 h4]
set_option maxHeartbeats 4000000 in
theorem c_impl_RootOf (n : Nat) (hnb : n ≤ 9223372036854775807) : FnC Tryz.prog 242 G0 0 [] [.int .i64 n] (fun d os => d = .int .i64 (rootN n) ∧ os = []) := by
  rcases Nat.eq_zero_or_pos n with rfl | hpos
  · rw [rootN_is (n := 0) (r := 0) (by simp) (by simp)]
    refine fn_rule Tryz.func242 rfl (by decide +kernel) rfl (fun w0 F0 lent β0 => ?_)
    repeat' (first | refine sC ?_ | ((with_reducible refine isAwp ?_); first | (refine sS ?_; intro Q' hn he hr) | refine sA ?_) | (refine sH ?_; clear hn he hr Q') | ((conv => whnf); first | refine sK ?_ | (refine sB ?_; repeat' (refine sb2 ?_ ?_ <;> intro hb <;> try exact cls)) | (refine ret_pick [] rfl rfl rfl ⟨?_, rfl⟩; conv => lhs; whnf)))
    all_goals rfl
  · obtain ⟨x, m, hx, hm, hm0, hm1⟩ := sqrt_small (n : Int) (by omega)
    refine fn_rule Tryz.func242 rfl (by decide +kernel) rfl (fun w0 F0 lent β0 => ?_)
    repeat' (first | refine sC ?_ | ((with_reducible refine isAwp ?_); first | (refine sS ?_; intro Q' hn he hr) | refine sA ?_) | (refine sH ?_; clear hn he hr Q') | ((conv => whnf); first | refine sK ?_ | (refine sB ?_; repeat' (refine sb2 ?_ ?_ <;> intro hb <;> try exact cls)) | (refine FloatS.mk ⟨m, hm, ?_⟩) | ((with_reducible refine isCall ?_); (refine call_pure (c_math_Sqrt _ x hx) rfl rfl ?_))))
    obtain ⟨r0, hr0⟩ : ∃ r0 : Nat, (bif false then (if 3037000499 > m then 3037000499 else m) else if 3037000499 < m then 3037000499 else m) = (r0 : Int) ∧ r0 ≤ 3037000499 := by
      refine ⟨(if 3037000499 < m then 3037000499 else m).toNat, ?_, ?_⟩ <;> (try simp only [cond_false]) <;> split <;> omega
    refine loop_env (fun r : Nat => [(0,.int .i64 n),(3,.int .i64 r)]) (fun _ => []) (fun r => r ≤ 3037000499) (fun r => r) r0 hr0.2 (by refine weak_to rfl rfl rfl ⟨rfl, ?_, trivial⟩; rw [← hr0.1]; rfl) (fun r hk Q' hn he hr => ?_)
    have hmb := mul_bound (x := (r : Int)) (y := (r : Int)) (m := 3037000499) (n := 3037000499) (by omega) (by omega) (by omega)
    repeat' (first | refine sC ?_ | ((with_reducible refine isAwp ?_); first | (refine sS ?_; intro Q' hn he hr) | refine sA ?_) | (refine sH ?_; clear hn he hr Q') | ((conv => whnf); first | refine sK ?_ | (refine sB ?_; repeat' (refine sb2 ?_ ?_ <;> intro hb <;> try exact cls)) | refine sP ?_ | (refine sH ?_; clear hn he hr Q')))
    · rw [← Int.natCast_mul] at hb
      have hr0' : r ≠ 0 := fun h => by rw [h] at hb; omega
      exact ⟨r - 1, by omega, by omega, (by refine weak_to rfl rfl rfl ?_; ((repeat' (first | exact trivial | refine And.intro ?_ ?_)) <;> (first | rfl | (conv => rhs; whnf) <;> (first | rfl | (refine congrArg (D.int _) ?_; omega)))))⟩
    have hle : r * r ≤ n := by rw [← Int.natCast_mul] at hb; omega
    refine loop_env (fun r : Nat => [(0,.int .i64 n),(3,.int .i64 r)]) (fun _ => []) (fun r => r ≤ 3037000499 ∧ r * r ≤ n) (fun r => 3037000499 - r) r ⟨hk, hle⟩ (by refine weak_to rfl rfl rfl ?_; ((repeat' (first | exact trivial | refine And.intro ?_ ?_)) <;> (first | rfl | (conv => rhs; whnf) <;> (first | rfl | (refine congrArg (D.int _) ?_; omega))))) (fun r hk Q' hn he hr => ?_)
    obtain ⟨hk, hle⟩ := hk
    have hmb := mul_bound (x := (r : Int) + 1) (y := (r : Int) + 1) (m := 3037000500) (n := 3037000500) (by omega) (by omega) (by omega)
    by_cases hlt : r < 3037000499
    · have hmb := mul_bound (x := (r : Int) + 1) (y := (r : Int) + 1) (m := 3037000499) (n := 3037000499) (by omega) (by omega) (by omega)
      have hsq : ((r : Int) + 1) * ((r : Int) + 1) = (((r + 1) * (r + 1) : Nat) : Int) := by rw [Int.natCast_mul]; rfl
      repeat' (first | refine sC ?_ | ((with_reducible refine isAwp ?_); first | (refine sS ?_; intro Q' hn he hr) | refine sA ?_) | (refine sH ?_; clear hn he hr Q') | ((conv => whnf); first | refine sK ?_ | (refine sB ?_; repeat' (first | refine sb0 ?_ | (refine sb2 ?_ ?_ <;> intro hb <;> try exact cls))) | refine sP ?_ | (refine ret_pick [] rfl rfl rfl ⟨?_, rfl⟩; conv => lhs; whnf) | (refine sH ?_; clear hn he hr Q')))
      · exact ⟨r + 1, ⟨by omega, by omega⟩, by omega, (by refine weak_to rfl rfl rfl ?_; ((repeat' (first | exact trivial | refine And.intro ?_ ?_)) <;> (first | rfl | (conv => rhs; whnf) <;> (first | rfl | (refine congrArg (D.int _) ?_; omega)))))⟩
      · rw [rootN_is hle (by omega)]
    · obtain rfl : r = 3037000499 := by omega
      repeat' (first | refine sC ?_ | ((with_reducible refine isAwp ?_); first | (refine sS ?_; intro Q' hn he hr) | refine sA ?_) | (refine sH ?_; clear hn he hr Q') | ((conv => whnf); first | refine sK ?_ | (refine sB ?_; repeat' (first | refine sb0 ?_ | (refine sb2 ?_ ?_ <;> intro hb <;> try exact cls))) | (refine ret_pick [] rfl rfl rfl ⟨?_, rfl⟩; conv => lhs; whnf) | (refine sH ?_; clear hn he hr Q')))
      rw [rootN_is hle (by omega)]
end Go.Eng

namespace Go.Eng
open Go Go.RowKit Go.Proofs
set_option maxRecDepth 100000
def sqV (v : TVector) : Nat := (v.fX * v.fX + v.fY * v.fY + v.fZ * v.fZ).toNat
noncomputable def lenV (v : TVector) : Int := rootN (sqV v)
theorem sq_pos (x : Int) : 0 ≤ x * x := by
  rcases Int.lt_or_le x 0 with h | h
  · have := Int.mul_nonneg (show 0 ≤ -x by omega) (show 0 ≤ -x by omega)
    rwa [Int.neg_mul_neg] at this
  · exact Int.mul_nonneg h h
theorem sqV_eq {v : TVector} (h : vecB 2000000 v) : v.fX * v.fX + v.fY * v.fY + v.fZ * v.fZ = (sqV v : Int) ∧ sqV v ≤ 12000000000000 := by
  obtain ⟨hx, hy, hz⟩ := h
  have h1 := mul_bound hx hx (by omega)
  have h2 := mul_bound hy hy (by omega)
  have h3 := mul_bound hz hz (by omega)
  have g1 := sq_pos v.fX
  have g2 := sq_pos v.fY
  have g3 := sq_pos v.fZ
  unfold sqV
  omega
theorem lenV_bound {v : TVector} (h : vecB 2000000 v) : 0 ≤ lenV v ∧ lenV v ≤ 3500000 := by
  have h1 := (sqV_eq h).2
  have h2 := (rootN_spec (sqV v)).1
  unfold lenV
  refine ⟨by omega, ?_⟩
  rcases Nat.lt_or_ge 3500000 (rootN (sqV v)) with h3 | h3
  · have := Nat.mul_le_mul h3 h3
    omega
  · omega
theorem c_impl_lengthOf (v : TVector) (h : vecB 2000000 v) : FnC Tryz.prog 245 G0 0 [] [.agg (encVector v)] (fun d os => d = .int .i64 (lenV v) ∧ os = []) := by
  obtain ⟨hs, hsb⟩ := sqV_eq h
  obtain ⟨hx, hy, hz⟩ := h
  have h1 := mul_bound hx hx (by omega)
  have h2 := mul_bound hy hy (by omega)
  have h3 := mul_bound hz hz (by omega)
  refine fn_rule Tryz.func245 rfl (by decide +kernel) rfl (fun w0 F0 lent β0 => ?_)
  repeat' (first | refine sC ?_ | ((with_reducible refine isAwp ?_); first | (refine sS ?_; intro Q' hn he hr) | refine sA ?_) | (refine sH ?_; clear hn he hr Q') | ((conv => whnf); first | refine sK ?_ | (refine ArithS.to (sqV v : Int) hs (wrap64 (by omega)) ?_) | ((with_reducible refine isCall ?_); (refine call_pure (c_impl_RootOf _ (by omega)) rfl rfl ?_)) | refine sP ?_ | (refine ret_pick [] rfl rfl rfl ⟨?_, rfl⟩; conv => lhs; whnf)))
  all_goals rfl
theorem c_spec_l04Length (v : TVector) (h : vecB 2000000 v) : FnC Tryz.prog 255 G0 0 [] [.agg (encVector v)] (fun d os => d = .int .i64 (lenV v) ∧ os = []) := by
  obtain ⟨hs, hsb⟩ := sqV_eq h
  obtain ⟨hx, hy, hz⟩ := h
  have h1 := mul_bound hx hx (by omega)
  have h2 := mul_bound hy hy (by omega)
  have h3 := mul_bound hz hz (by omega)
  refine fn_rule Tryz.func255 rfl (by decide +kernel) rfl (fun w0 F0 lent β0 => ?_)
  repeat' (first | refine sC ?_ | ((with_reducible refine isAwp ?_); first | (refine sS ?_; intro Q' hn he hr) | refine sA ?_) | (refine sH ?_; clear hn he hr Q') | ((conv => whnf); first | refine sK ?_ | (refine ArithS.to (sqV v : Int) hs (wrap64 (by omega)) ?_) | ((with_reducible refine isCall ?_); (refine call_pure (c_spec_l01Root _ (by omega)) rfl rfl ?_)) | refine sP ?_ | (refine ret_pick [] rfl rfl rfl ⟨?_, rfl⟩; conv => lhs; whnf)))
  all_goals rfl
/-- The least number from low on that passes, if all behind it pass. -/
def bsr (T : Nat → Bool) (low high : Nat) : Nat := if _ : low < high then (if T ((low + high) / 2) = true then bsr T low ((low + high) / 2) else bsr T ((low + high) / 2 + 1) high) else low
termination_by high - low
decreasing_by all_goals omega
theorem bsr_end {T : Nat → Bool} {low high : Nat} (h : ¬ low < high) : bsr T low high = low := by rw [bsr, dif_neg h]
theorem bsr_yes {T : Nat → Bool} {low high : Nat} (h : low < high) (ht : T ((low + high) / 2) = true) : bsr T low high = bsr T low ((low + high) / 2) := by rw [bsr, dif_pos h, if_pos ht]
theorem bsr_no {T : Nat → Bool} {low high : Nat} (h : low < high) (ht : ¬ T ((low + high) / 2) = true) : bsr T low high = bsr T ((low + high) / 2 + 1) high := by rw [bsr, dif_pos h, if_neg ht]
theorem bsr_le {T : Nat → Bool} : ∀ {low high : Nat}, low ≤ high → bsr T low high ≤ high := by
  intro low high
  induction hn : high - low using Nat.strongRecOn generalizing low high with
  | _ n ih =>
    intro h
    by_cases h1 : low < high
    · by_cases ht : T ((low + high) / 2) = true
      · rw [bsr_yes h1 ht]
        exact Nat.le_trans (ih _ (by omega) rfl (by omega)) (by omega)
      · rw [bsr_no h1 ht]
        exact ih _ (by omega) rfl (by omega)
    · rw [bsr_end h1]; exact h
def arcT (u v : Int) (n : Nat) : Bool := decide (cosA n * u ≤ sinA n * v)
def arcLow (y x : Int) : Nat := bsr (arcT (min (absI x) (absI y)) (max (absI x) (absI y))) 0 45000
def arcB (y x : Int) : Int := if absI x < absI y then 90000 - (arcLow y x : Int) else arcLow y x
/-- The angle of a direction. -/
def arcA (y x : Int) : Int := if 0 ≤ x ∧ 0 ≤ y then arcB y x else if 0 ≤ y then 180000 - arcB y x else if x < 0 then 180000 + arcB y x else (-arcB y x) % 360000
end Go.Eng

namespace Go.Eng
open Go Go.RowKit Go.Proofs
set_option maxRecDepth 100000
theorem ArithS.quo {a b m : Int} {K : Int → Prop} (h : a.tdiv b = m) (hm : -9223372036854775808 ≤ m ∧ m ≤ 9223372036854775807) (hK : K m) : ArithS .i64 (a.tdiv b) K := ArithS.to m h (wrap64 hm) hK
set_option maxHeartbeats 4000000 in
theorem c_impl_ArcTangent (y x : Int) (hy : -1000000000000 ≤ y ∧ y ≤ 1000000000000) (hx1 : -1000000000000 ≤ x ∧ x ≤ 1000000000000) (h0 : ¬ (x = 0 ∧ y = 0)) : FnC Tryz.prog 241 GS 0 [] [.int .i64 y, .int .i64 x] (fun d os => d = .tup [.int .i64 (arcA y x), .int .i64 0] ∧ os = []) := by
  have hax := absI_bound hx1
  have hay := absI_bound hy
  have hv : inB y (-1000000000000) 1000000000000 = true := by simp [inB]; omega
  have hv2 : inB x (-1000000000000) 1000000000000 = true := by simp [inB]; omega
  by_cases hx0 : x = 0
  · have hy0 : y ≠ 0 := fun h => h0 ⟨hx0, h⟩
    refine fn_rule Tryz.func241 rfl (by decide +kernel) rfl (fun w0 F0 lent β0 => ?_)
    repeat' (first | refine sC ?_ | ((with_reducible refine isAwp ?_); first | (refine sS ?_; intro Q' hn he hr) | refine sA ?_) | (refine sH ?_; clear hn he hr Q') | ((conv => whnf); first | refine sK ?_ | (refine sB ?_; repeat' (first | refine sb0 ?_ | (refine sb2 ?_ ?_ <;> intro hb <;> try exact cls))) | ((with_reducible refine isCall ?_); first | (refine call_pure (FnC.anyG (c_within _ _ _)) rfl rfl ?_) | (refine call_pure (FnC.anyG (c_absOf _ (by omega))) rfl rfl ?_))))
    refine loop_env (fun p : Nat × Nat => [(0,.int .i64 y),(1,.int .i64 x),(6,.int .i64 (absI x)),(7,.int .i64 (absI y)),(8,.int .i64 (min (absI x) (absI y))),(9,.int .i64 (max (absI x) (absI y))),(10,.int .i64 p.1),(11,.int .i64 p.2)]) (fun _ => []) (fun p => p.1 ≤ p.2 ∧ p.2 ≤ 45000 ∧ bsr (arcT (min (absI x) (absI y)) (max (absI x) (absI y))) p.1 p.2 = arcLow y x) (fun p => p.2 - p.1) (0, 45000) ⟨by simp, by simp, by simp only [arcLow]⟩ (by refine weak_to rfl rfl rfl ?_; refine ⟨rfl, rfl, rfl, rfl, ?_, ?_, rfl, rfl, trivial⟩ <;> ((conv => rhs; whnf); refine congrArg (D.int _) ?_; simp only [cond_false, cond_true]; split <;> omega)) (fun p hk Q' hn he hr => ?_)
    obtain ⟨low, high⟩ := p
    obtain ⟨h1, h2, h3⟩ := hk
    simp only at h1 h2 h3 ⊢
    generalize hu : min (absI x) (absI y) = u at h3 ⊢
    generalize hvv : max (absI x) (absI y) = v at h3 ⊢
    obtain ⟨mid, hmid⟩ : ∃ mid : Nat, mid = (low + high) / 2 := ⟨_, rfl⟩
    have hq : ((low : Int) + high).tdiv 2 = (mid : Int) := by rw [Int.tdiv_eq_ediv_of_nonneg (by omega)]; omega
    have hm1 := mul_bound (x := sinA mid) (y := v) (m := 1000000) (n := 1000000000000) (sinA_bound _) (by omega) (by omega)
    have hm2 := mul_bound (x := cosA mid) (y := u) (m := 1000000) (n := 1000000000000) (cosA_bound _) (by omega) (by omega)
    repeat' (first | refine sC ?_ | ((with_reducible refine isAwp ?_); first | (refine sS ?_; intro Q' hn he hr) | refine sA ?_) | (refine sH ?_; clear hn he hr Q') | ((conv => whnf); first | refine sK ?_ | (refine sB ?_; repeat' (first | refine sb0 ?_ | (refine sb2 ?_ ?_ <;> intro hb <;> try exact cls))) | (refine AskS.mk ⟨by omega, ?_⟩) | (with_reducible refine ArithS.quo hq (by omega) ?_) | ((with_reducible refine isCall ?_); first | (refine call_pure (c_impl_SineOf _ (by unfold i64B; omega)) rfl rfl ?_) | (refine call_pure (c_impl_CosineOf _ (by unfold i64B; omega)) rfl rfl ?_) | (refine call_pure (FnC.anyG (c_impl_NormalAngle _ (by unfold i64B; omega))) rfl rfl ?_)) | refine sP ?_ | (refine ret_pick [] rfl rfl rfl ⟨?_, rfl⟩; conv => lhs; whnf) | (refine sH ?_; clear hn he hr Q')))
    · have hT : arcT u v mid = true := decide_eq_true hb
      rw [bsr_yes (by omega) (by rw [← hmid]; exact hT), ← hmid] at h3
      subst hu hvv
      exact ⟨(low, mid), ⟨by simp; omega, by simp; omega, h3⟩, by simp; omega, (by refine weak_to rfl rfl rfl ?_; ((repeat' (first | exact trivial | refine And.intro ?_ ?_)) <;> (first | rfl | (conv => rhs; whnf) <;> (first | rfl | (refine congrArg (D.int _) ?_; omega)))))⟩
    · have hT : ¬ arcT u v mid = true := by unfold arcT; simp; omega
      rw [bsr_no (by omega) (by rw [← hmid]; exact hT), ← hmid] at h3
      subst hu hvv
      exact ⟨(mid + 1, high), ⟨by simp; omega, by simp; omega, h3⟩, by simp; omega, (by refine weak_to rfl rfl rfl ?_; ((repeat' (first | exact trivial | refine And.intro ?_ ?_)) <;> (first | rfl | (conv => rhs; whnf) <;> (first | rfl | (refine congrArg (D.int _) ?_; omega)))))⟩
    all_goals
      rw [bsr_end (by omega)] at h3
      refine congrArg (fun n => D.tup [D.int .i64 n, D.int .i64 0]) ?_
      unfold arcA arcB
      rw [← h3]
      (repeat' split) <;> omega
  · skip
    refine fn_rule Tryz.func241 rfl (by decide +kernel) rfl (fun w0 F0 lent β0 => ?_)
    repeat' (first | refine sC ?_ | ((with_reducible refine isAwp ?_); first | (refine sS ?_; intro Q' hn he hr) | refine sA ?_) | (refine sH ?_; clear hn he hr Q') | ((conv => whnf); first | refine sK ?_ | (refine sB ?_; repeat' (first | refine sb0 ?_ | (refine sb2 ?_ ?_ <;> intro hb <;> try exact cls))) | ((with_reducible refine isCall ?_); first | (refine call_pure (FnC.anyG (c_within _ _ _)) rfl rfl ?_) | (refine call_pure (FnC.anyG (c_absOf _ (by omega))) rfl rfl ?_))))
    refine loop_env (fun p : Nat × Nat => [(0,.int .i64 y),(1,.int .i64 x),(6,.int .i64 (absI x)),(7,.int .i64 (absI y)),(8,.int .i64 (min (absI x) (absI y))),(9,.int .i64 (max (absI x) (absI y))),(10,.int .i64 p.1),(11,.int .i64 p.2)]) (fun _ => []) (fun p => p.1 ≤ p.2 ∧ p.2 ≤ 45000 ∧ bsr (arcT (min (absI x) (absI y)) (max (absI x) (absI y))) p.1 p.2 = arcLow y x) (fun p => p.2 - p.1) (0, 45000) ⟨by simp, by simp, by simp only [arcLow]⟩ (by refine weak_to rfl rfl rfl ?_; refine ⟨rfl, rfl, rfl, rfl, ?_, ?_, rfl, rfl, trivial⟩ <;> ((conv => rhs; whnf); refine congrArg (D.int _) ?_; simp only [cond_false, cond_true]; split <;> omega)) (fun p hk Q' hn he hr => ?_)
    obtain ⟨low, high⟩ := p
    obtain ⟨h1, h2, h3⟩ := hk
    simp only at h1 h2 h3 ⊢
    generalize hu : min (absI x) (absI y) = u at h3 ⊢
    generalize hvv : max (absI x) (absI y) = v at h3 ⊢
    obtain ⟨mid, hmid⟩ : ∃ mid : Nat, mid = (low + high) / 2 := ⟨_, rfl⟩
    have hq : ((low : Int) + high).tdiv 2 = (mid : Int) := by rw [Int.tdiv_eq_ediv_of_nonneg (by omega)]; omega
    have hm1 := mul_bound (x := sinA mid) (y := v) (m := 1000000) (n := 1000000000000) (sinA_bound _) (by omega) (by omega)
    have hm2 := mul_bound (x := cosA mid) (y := u) (m := 1000000) (n := 1000000000000) (cosA_bound _) (by omega) (by omega)
    repeat' (first | refine sC ?_ | ((with_reducible refine isAwp ?_); first | (refine sS ?_; intro Q' hn he hr) | refine sA ?_) | (refine sH ?_; clear hn he hr Q') | ((conv => whnf); first | refine sK ?_ | (refine sB ?_; repeat' (first | refine sb0 ?_ | (refine sb2 ?_ ?_ <;> intro hb <;> try exact cls))) | (refine AskS.mk ⟨by omega, ?_⟩) | (with_reducible refine ArithS.quo hq (by omega) ?_) | ((with_reducible refine isCall ?_); first | (refine call_pure (c_impl_SineOf _ (by unfold i64B; omega)) rfl rfl ?_) | (refine call_pure (c_impl_CosineOf _ (by unfold i64B; omega)) rfl rfl ?_) | (refine call_pure (FnC.anyG (c_impl_NormalAngle _ (by unfold i64B; omega))) rfl rfl ?_)) | refine sP ?_ | (refine ret_pick [] rfl rfl rfl ⟨?_, rfl⟩; conv => lhs; whnf) | (refine sH ?_; clear hn he hr Q')))
    · have hT : arcT u v mid = true := decide_eq_true hb
      rw [bsr_yes (by omega) (by rw [← hmid]; exact hT), ← hmid] at h3
      subst hu hvv
      exact ⟨(low, mid), ⟨by simp; omega, by simp; omega, h3⟩, by simp; omega, (by refine weak_to rfl rfl rfl ?_; ((repeat' (first | exact trivial | refine And.intro ?_ ?_)) <;> (first | rfl | (conv => rhs; whnf) <;> (first | rfl | (refine congrArg (D.int _) ?_; omega)))))⟩
    · have hT : ¬ arcT u v mid = true := by unfold arcT; simp; omega
      rw [bsr_no (by omega) (by rw [← hmid]; exact hT), ← hmid] at h3
      subst hu hvv
      exact ⟨(mid + 1, high), ⟨by simp; omega, by simp; omega, h3⟩, by simp; omega, (by refine weak_to rfl rfl rfl ?_; ((repeat' (first | exact trivial | refine And.intro ?_ ?_)) <;> (first | rfl | (conv => rhs; whnf) <;> (first | rfl | (refine congrArg (D.int _) ?_; omega)))))⟩
    all_goals
      rw [bsr_end (by omega)] at h3
      refine congrArg (fun n => D.tup [D.int .i64 n, D.int .i64 0]) ?_
      unfold arcA arcB
      rw [← h3]
      (repeat' split) <;> omega
end Go.Eng

namespace Go.Eng
open Go Go.RowKit Go.Proofs
set_option maxRecDepth 100000
set_option maxHeartbeats 4000000 in
theorem c_spec_l02Arc (y x : Int) (hy : -1000000000000 ≤ y ∧ y ≤ 1000000000000) (hx1 : -1000000000000 ≤ x ∧ x ≤ 1000000000000) : FnC Tryz.prog 272 G0 0 [] [.int .i64 y, .int .i64 x] (fun d os => d = .int .i64 (arcA y x) ∧ os = []) := by
  have hax := absI_bound hx1
  have hay := absI_bound hy
  refine fn_rule Tryz.func272 rfl (by decide +kernel) rfl (fun w0 F0 lent β0 => ?_)
  repeat' (first | refine sC ?_ | ((with_reducible refine isAwp ?_); first | (refine sS ?_; intro Q' hn he hr) | refine sA ?_) | (refine sH ?_; clear hn he hr Q') | ((conv => whnf); first | refine sK ?_ | ((with_reducible refine isCall ?_); first | (refine call_pure (c_l02Abs _ (by omega)) rfl rfl ?_) | (refine call_pure (c_l00Min _ _) rfl rfl ?_) | (refine call_pure (c_l00Max _ _) rfl rfl ?_))))
  refine loop_env (fun p : Nat × Nat => [(0,.int .i64 y),(1,.int .i64 x),(5,.int .i64 (min (absI x) (absI y))),(6,.int .i64 (max (absI x) (absI y))),(7,.int .i64 p.1),(8,.int .i64 p.2)]) (fun _ => []) (fun p => p.1 ≤ p.2 ∧ p.2 ≤ 45000 ∧ bsr (arcT (min (absI x) (absI y)) (max (absI x) (absI y))) p.1 p.2 = arcLow y x) (fun p => p.2 - p.1) (0, 45000) ⟨by simp, by simp, by simp only [arcLow]⟩ (by refine weak_to rfl rfl rfl ?_; exact ⟨rfl, rfl, rfl, rfl, rfl, rfl, trivial⟩) (fun p hk Q' hn he hr => ?_)
  obtain ⟨low, high⟩ := p
  obtain ⟨h1, h2, h3⟩ := hk
  simp only at h1 h2 h3 ⊢
  generalize hu : min (absI x) (absI y) = u at h3 ⊢
  generalize hvv : max (absI x) (absI y) = v at h3 ⊢
  obtain ⟨mid, hmid⟩ : ∃ mid : Nat, mid = (low + high) / 2 := ⟨_, rfl⟩
  have hq : ((low : Int) + high).tdiv 2 = (mid : Int) := by rw [Int.tdiv_eq_ediv_of_nonneg (by omega)]; omega
  have hm1 := mul_bound (x := sinA mid) (y := v) (m := 1000000) (n := 1000000000000) (sinA_bound _) (by omega) (by omega)
  have hm2 := mul_bound (x := cosA mid) (y := u) (m := 1000000) (n := 1000000000000) (cosA_bound _) (by omega) (by omega)
  repeat' (first | refine sC ?_ | ((with_reducible refine isAwp ?_); first | (refine sS ?_; intro Q' hn he hr) | refine sA ?_) | (refine sH ?_; clear hn he hr Q') | ((conv => whnf); first | refine sK ?_ | (refine sB ?_; repeat' (first | refine sb0 ?_ | (refine sb2 ?_ ?_ <;> intro hb <;> try exact cls))) | (refine AskS.mk ⟨by omega, ?_⟩) | (with_reducible refine ArithS.quo hq (by omega) ?_) | ((with_reducible refine isCall ?_); first | (refine call_pure (c_spec_l02Sine _ (by unfold i64B; omega)) rfl rfl ?_) | (refine call_pure (c_spec_l02Cosine _ (by unfold i64B; omega)) rfl rfl ?_) | (refine call_pure (c_spec_l02Normal _ (by unfold i64B; omega)) rfl rfl ?_) | (refine call_pure (c_l02Abs _ (by omega)) rfl rfl ?_)) | refine sP ?_ | (refine ret_pick [] rfl rfl rfl ⟨?_, rfl⟩; conv => lhs; whnf) | (refine sH ?_; clear hn he hr Q')))
  · have hT : arcT u v mid = true := decide_eq_true hb
    rw [bsr_yes (by omega) (by rw [← hmid]; exact hT), ← hmid] at h3
    subst hu hvv
    exact ⟨(low, mid), ⟨by simp; omega, by simp; omega, h3⟩, by simp; omega, (by refine weak_to rfl rfl rfl ?_; ((repeat' (first | exact trivial | refine And.intro ?_ ?_)) <;> (first | rfl | (conv => rhs; whnf) <;> (first | rfl | (refine congrArg (D.int _) ?_; omega)))))⟩
  · have hT : ¬ arcT u v mid = true := by unfold arcT; simp; omega
    rw [bsr_no (by omega) (by rw [← hmid]; exact hT), ← hmid] at h3
    subst hu hvv
    exact ⟨(mid + 1, high), ⟨by simp; omega, by simp; omega, h3⟩, by simp; omega, (by refine weak_to rfl rfl rfl ?_; ((repeat' (first | exact trivial | refine And.intro ?_ ?_)) <;> (first | rfl | (conv => rhs; whnf) <;> (first | rfl | (refine congrArg (D.int _) ?_; omega)))))⟩
  all_goals
    rw [bsr_end (by omega)] at h3
    refine congrArg (D.int _) ?_
    unfold arcA arcB
    rw [← h3]
    (repeat' split) <;> omega
end Go.Eng

namespace Go.Eng
open Go Go.RowKit Go.Proofs
set_option maxRecDepth 100000
def isZ (v : TVector) : Bool := (v.fX == 0) && ((v.fY == 0) && ((v.fZ == 0) && true))
theorem eqz (v : TVector) : EqD Tryz.prog 201 (encVector v) (encVector ⟨0, 0, 0⟩) (isZ v) := EqD.flat _ rfl (by decide +kernel) (by decide +kernel) (by rfl)
theorem c_impl_validComponent (n : Int) : FnC Tryz.prog 265 G0 0 [] [.int .i64 n] (fun d os => d = .bool (inB n (-2000000) 2000000) ∧ os = []) := by
  refine fn_rule Tryz.func265 rfl (by decide +kernel) rfl (fun w0 F0 lent β0 => ?_)
  repeat' (first | refine sC ?_ | ((with_reducible refine isAwp ?_); first | (refine sS ?_; intro Q' hn he hr) | refine sA ?_) | (refine sH ?_; clear hn he hr Q') | ((conv => whnf); first | refine sK ?_ | ((with_reducible refine isCall ?_); (refine call_pure (c_within _ _ _) rfl rfl ?_)) | (refine ret_pick [] rfl rfl rfl ⟨?_, rfl⟩; conv => lhs; whnf)))
  all_goals rfl
theorem c_impl_ValidVector (v : TVector) (h : vecB 1000000 v) : FnC Tryz.prog 244 G0 0 [] [.agg (encVector v)] (fun d os => d = .bool true ∧ os = []) := by
  obtain ⟨hx1, hy1, hz1⟩ := h
  have hv : inB v.fX (-2000000) 2000000 = true := by simp [inB]; omega
  have hv2 : inB v.fY (-2000000) 2000000 = true := by simp [inB]; omega
  have hv3 : inB v.fZ (-2000000) 2000000 = true := by simp [inB]; omega
  refine fn_rule Tryz.func244 rfl (by decide +kernel) rfl (fun w0 F0 lent β0 => ?_)
  repeat' (first | refine sC ?_ | ((with_reducible refine isAwp ?_); first | (refine sS ?_; intro Q' hn he hr) | refine sA ?_) | (refine sH ?_; clear hn he hr Q') | ((conv => whnf); first | refine sK ?_ | (refine sB ?_; repeat' (first | refine sb0 ?_ | (refine sb2 ?_ ?_ <;> intro hb <;> try exact cls))) | ((with_reducible refine isCall ?_); (refine call_pure (c_impl_validComponent _) rfl rfl ?_)) | (refine ret_pick [] rfl rfl rfl ⟨?_, rfl⟩; conv => lhs; whnf)))
  all_goals simp [hv, hv2, hv3]
set_option maxHeartbeats 4000000 in
theorem c_impl_ArcTangent_zero (y x : Int) (h0 : x = 0 ∧ y = 0) : FnC Tryz.prog 241 GS 0 [] [.int .i64 y, .int .i64 x] (fun d os => d = .tup [.int .i64 0, .int .i64 6] ∧ os = []) := by
  obtain ⟨h1, h2⟩ := h0
  have hv : inB y (-1000000000000) 1000000000000 = true := by simp [inB]; omega
  have hv2 : inB x (-1000000000000) 1000000000000 = true := by simp [inB]; omega
  refine fn_rule Tryz.func241 rfl (by decide +kernel) rfl (fun w0 F0 lent β0 => ?_)
  repeat' (first | refine sC ?_ | ((with_reducible refine isAwp ?_); first | (refine sS ?_; intro Q' hn he hr) | refine sA ?_) | (refine sH ?_; clear hn he hr Q') | ((conv => whnf); first | refine sK ?_ | (refine sB ?_; repeat' (first | refine sb0 ?_ | (refine sb2 ?_ ?_ <;> intro hb <;> try exact cls))) | ((with_reducible refine isCall ?_); (refine call_pure (FnC.anyG (c_within _ _ _)) rfl rfl ?_)) | (refine ret_pick [] rfl rfl rfl ⟨?_, rfl⟩; conv => lhs; whnf)))
  all_goals rfl
/-- Nothing lies between two vectors. -/
def noneV (a b : TVector) : Prop := lenV (crossV a b) = 0 ∧ dotV a b = 0
noncomputable def awayV (a b : TVector) : Int := open Classical in if isZ a = true ∨ isZ b = true ∨ noneV a b then 0 else arcA (lenV (crossV a b)) (dotV a b)
noncomputable def awayC (a b : TVector) : Int := open Classical in if isZ a = true ∨ isZ b = true ∨ noneV a b then 6 else 0
noncomputable def awayB (a b : TVector) : Bool := open Classical in if isZ a = true ∨ isZ b = true ∨ noneV a b then false else true
set_option maxHeartbeats 4000000 in
theorem c_impl_Separation (a b : TVector) (ha : vecB 1000000 a) (hb0 : vecB 1000000 b) : FnC Tryz.prog 214 GS 0 [] [.agg (encVector a), .agg (encVector b)] (fun d os => d = .tup [.int .i64 (awayV a b), .int .i64 (awayC a b)] ∧ os = []) := by
  have hl := lenV_bound (crossV_bound ha hb0)
  have hd := dotV_bound ha hb0
  cases hv : isZ a with
  | true =>
    refine fn_rule Tryz.func214 rfl (by decide +kernel) rfl (fun w0 F0 lent β0 => ?_)
    repeat' (first | refine sC ?_ | ((with_reducible refine isAwp ?_); first | (refine sS ?_; intro Q' hn he hr) | refine sA ?_) | (refine sH ?_; clear hn he hr Q') | ((conv => whnf); first | refine sK ?_ | (refine sB ?_; repeat' (first | refine sb0 ?_ | (refine sb2 ?_ ?_ <;> intro hb <;> try exact cls))) | (refine EqS.mk (eqz _) ?_) | ((with_reducible refine isCall ?_); first | (refine call_pure (FnC.anyG (c_impl_ValidVector _ ha)) rfl rfl ?_) | (refine call_pure (FnC.anyG (c_impl_ValidVector _ hb0)) rfl rfl ?_)) | (refine ret_pick [] rfl rfl rfl ⟨?_, rfl⟩; conv => lhs; whnf)))
    all_goals simp [awayV, awayC, hv, outD, out1, out0]
  | false =>
    cases hv2 : isZ b with
    | true =>
      refine fn_rule Tryz.func214 rfl (by decide +kernel) rfl (fun w0 F0 lent β0 => ?_)
      repeat' (first | refine sC ?_ | ((with_reducible refine isAwp ?_); first | (refine sS ?_; intro Q' hn he hr) | refine sA ?_) | (refine sH ?_; clear hn he hr Q') | ((conv => whnf); first | refine sK ?_ | (refine sB ?_; repeat' (first | refine sb0 ?_ | (refine sb2 ?_ ?_ <;> intro hb <;> try exact cls))) | (refine EqS.mk (eqz _) ?_) | ((with_reducible refine isCall ?_); first | (refine call_pure (FnC.anyG (c_impl_ValidVector _ ha)) rfl rfl ?_) | (refine call_pure (FnC.anyG (c_impl_ValidVector _ hb0)) rfl rfl ?_)) | (refine ret_pick [] rfl rfl rfl ⟨?_, rfl⟩; conv => lhs; whnf)))
      all_goals simp [awayV, awayC, hv2, outD, out1, out0]
    | false =>
      by_cases hn0 : noneV a b
      · refine fn_rule Tryz.func214 rfl (by decide +kernel) rfl (fun w0 F0 lent β0 => ?_)
        repeat' (first | refine sC ?_ | ((with_reducible refine isAwp ?_); first | (refine sS ?_; intro Q' hn he hr) | refine sA ?_) | (refine sH ?_; clear hn he hr Q') | refine sO ?_ | ((conv => whnf); first | refine sK ?_ | (refine sB ?_; repeat' (first | refine sb0 ?_ | (refine sb2 ?_ ?_ <;> intro hb <;> try exact cls))) | (refine EqS.mk (eqz _) ?_) | ((with_reducible refine isCall ?_); first | (refine call_pure (FnC.anyG (c_impl_ValidVector _ ha)) rfl rfl ?_) | (refine call_pure (FnC.anyG (c_impl_ValidVector _ hb0)) rfl rfl ?_)) | ((with_reducible refine isCallQ ?_); first | (refine callQ_pure (FnC.anyG (c_impl_crossOf _ _ ha hb0)) rfl rfl ?_) | (refine callQ_pure (FnC.anyG (c_impl_lengthOf _ (crossV_bound ha hb0))) rfl rfl ?_) | (refine callQ_pure (FnC.anyG (c_impl_dotOf _ _ ha hb0)) rfl rfl ?_) | (refine callQ_pure (c_impl_ArcTangent_zero _ _ ⟨hn0.2, hn0.1⟩) rfl rfl ?_)) | refine sD ?_ | (refine ret_pick [] rfl rfl rfl ⟨?_, rfl⟩; conv => lhs; whnf)))
        all_goals simp [awayV, awayC, hn0, outD, out1, out0]
      · refine fn_rule Tryz.func214 rfl (by decide +kernel) rfl (fun w0 F0 lent β0 => ?_)
        repeat' (first | refine sC ?_ | ((with_reducible refine isAwp ?_); first | (refine sS ?_; intro Q' hn he hr) | refine sA ?_) | (refine sH ?_; clear hn he hr Q') | refine sO ?_ | ((conv => whnf); first | refine sK ?_ | (refine sB ?_; repeat' (first | refine sb0 ?_ | (refine sb2 ?_ ?_ <;> intro hb <;> try exact cls))) | (refine EqS.mk (eqz _) ?_) | ((with_reducible refine isCall ?_); first | (refine call_pure (FnC.anyG (c_impl_ValidVector _ ha)) rfl rfl ?_) | (refine call_pure (FnC.anyG (c_impl_ValidVector _ hb0)) rfl rfl ?_)) | ((with_reducible refine isCallQ ?_); first | (refine callQ_pure (FnC.anyG (c_impl_crossOf _ _ ha hb0)) rfl rfl ?_) | (refine callQ_pure (FnC.anyG (c_impl_lengthOf _ (crossV_bound ha hb0))) rfl rfl ?_) | (refine callQ_pure (FnC.anyG (c_impl_dotOf _ _ ha hb0)) rfl rfl ?_) | (refine callQ_pure (c_impl_ArcTangent _ _ (by omega) (by omega) (fun h => hn0 ⟨h.2, h.1⟩)) rfl rfl ?_)) | refine sD ?_ | (refine ret_pick [] rfl rfl rfl ⟨?_, rfl⟩; conv => lhs; whnf)))
        all_goals simp [awayV, awayC, hv, hv2, hn0, outD, out1, out0]
end Go.Eng

namespace Go.Eng
open Go Go.RowKit Go.Proofs
set_option maxRecDepth 100000
set_option maxHeartbeats 4000000 in
theorem c_spec_l04Away (a b : TVector) (ha : vecB 1000000 a) (hb0 : vecB 1000000 b) : FnC Tryz.prog 252 G0 0 [] [.agg (encVector a), .agg (encVector b)] (fun d os => d = .tup [.int .i64 (awayV a b), .bool (awayB a b)] ∧ os = []) := by
  have hl := lenV_bound (crossV_bound ha hb0)
  have hd := dotV_bound ha hb0
  cases hv : isZ a with
  | true =>
    refine fn_rule Tryz.func252 rfl (by decide +kernel) rfl (fun w0 F0 lent β0 => ?_)
    repeat' (first | refine sC ?_ | ((with_reducible refine isAwp ?_); first | (refine sS ?_; intro Q' hn he hr) | refine sA ?_) | (refine sH ?_; clear hn he hr Q') | ((conv => whnf); first | refine sK ?_ | (refine sB ?_; repeat' (first | refine sb0 ?_ | (refine sb2 ?_ ?_ <;> intro hb <;> try exact cls))) | (refine EqS.mk (eqz _) ?_) | ((with_reducible refine isCall ?_); first | (refine call_pure (c_spec_l04Cross _ _ ha hb0) rfl rfl ?_) | (refine call_pure (c_spec_l04Length _ (crossV_bound ha hb0)) rfl rfl ?_) | (refine call_pure (c_spec_l04Dot _ _ ha hb0) rfl rfl ?_)) | (refine ret_pick [] rfl rfl rfl ⟨?_, rfl⟩; conv => lhs; whnf)))
    all_goals simp [awayV, awayB, hv, outD, out1, out0]
  | false =>
    cases hv2 : isZ b with
    | true =>
      refine fn_rule Tryz.func252 rfl (by decide +kernel) rfl (fun w0 F0 lent β0 => ?_)
      repeat' (first | refine sC ?_ | ((with_reducible refine isAwp ?_); first | (refine sS ?_; intro Q' hn he hr) | refine sA ?_) | (refine sH ?_; clear hn he hr Q') | ((conv => whnf); first | refine sK ?_ | (refine sB ?_; repeat' (first | refine sb0 ?_ | (refine sb2 ?_ ?_ <;> intro hb <;> try exact cls))) | (refine EqS.mk (eqz _) ?_) | ((with_reducible refine isCall ?_); first | (refine call_pure (c_spec_l04Cross _ _ ha hb0) rfl rfl ?_) | (refine call_pure (c_spec_l04Length _ (crossV_bound ha hb0)) rfl rfl ?_) | (refine call_pure (c_spec_l04Dot _ _ ha hb0) rfl rfl ?_)) | (refine ret_pick [] rfl rfl rfl ⟨?_, rfl⟩; conv => lhs; whnf)))
      all_goals simp [awayV, awayB, hv2, outD, out1, out0]
    | false =>
      refine fn_rule Tryz.func252 rfl (by decide +kernel) rfl (fun w0 F0 lent β0 => ?_)
      repeat' (first | refine sC ?_ | ((with_reducible refine isAwp ?_); first | (refine sS ?_; intro Q' hn he hr) | refine sA ?_) | (refine sH ?_; clear hn he hr Q') | ((conv => whnf); first | refine sK ?_ | (refine sB ?_; repeat' (first | refine sb0 ?_ | (refine sb2 ?_ ?_ <;> intro hb <;> try exact cls))) | (refine EqS.mk (eqz _) ?_) | ((with_reducible refine isCall ?_); first | (refine call_pure (c_spec_l04Cross _ _ ha hb0) rfl rfl ?_) | (refine call_pure (c_spec_l04Length _ (crossV_bound ha hb0)) rfl rfl ?_) | (refine call_pure (c_spec_l04Dot _ _ ha hb0) rfl rfl ?_) | (refine call_pure (c_spec_l02Arc _ _ (by omega) (by omega)) rfl rfl ?_)) | (refine ret_pick [] rfl rfl rfl ⟨?_, rfl⟩; conv => lhs; whnf)))
      all_goals simp_all [awayV, awayB, noneV, outD, out1, out0]
end Go.Eng

namespace Go.Eng
open Go Go.RowKit Go.Proofs
set_option maxRecDepth 100000
theorem arcA_bound (y x : Int) : 0 ≤ arcA y x ∧ arcA y x ≤ 360000 := by
  have h1 : arcLow y x ≤ 45000 := bsr_le (by omega)
  have h2 : 0 ≤ arcB y x ∧ arcB y x ≤ 90000 := by unfold arcB; split <;> omega
  unfold arcA
  (repeat' split) <;> omega
end Go.Eng
