/-
  Directions, products of vectors: the contracts of the program's functions and of the reference's.
  No conditions.
-/
import Derived.Test.YtaijhjhhpdkhcaaGreatDoorED
import Derived.Test.YtaijhjhhpdkhcaaGreatDoorTV
import Derived.Test.YtaijhjhhpdkhcaaGreatDoorA2
set_option linter.unusedVariables false
set_option linter.unusedSimpArgs false
set_option maxHeartbeats 4000000
namespace Go.Eng
open Go Go.RowKit Go.Proofs
set_option maxRecDepth 100000
theorem c_impl_CosineOf (a : Int) (ha : i64B a) : FnC Tryz.prog 182 GS 0 [] [.int .i64 a] (fun d os => d = .int .i64 (cosA a) ∧ os = []) := by
  unfold i64B at ha
  refine fn_rule Tryz.func182 rfl (by decide +kernel) rfl (fun w0 F0 lent β0 => ?_)
  repeat' (first | refine sC ?_ | ((with_reducible refine isAwp ?_); first | (refine sS ?_; intro Q' hn he hr) | refine sA ?_) | (refine sH ?_; clear hn he hr Q') | refine sO ?_ | ((conv => whnf); first | refine sK ?_ | (refine sB ?_; repeat' (first | refine sb0 ?_ | (refine sb2 ?_ ?_ <;> intro hb <;> try exact cls))) | ((with_reducible refine isCall ?_); first | (refine call_pure (FnC.anyG (c_impl_NormalAngle a ha)) rfl rfl ?_) | (refine call_pure (c_impl_SineOf _ (by unfold i64B; omega)) rfl rfl ?_)) | ((with_reducible refine isCallQ ?_); first | (refine callQ_pure (FnC.anyG (c_impl_NormalAngle a ha)) rfl rfl ?_) | (refine callQ_pure (c_impl_SineOf _ (by unfold i64B; omega)) rfl rfl ?_)) | refine sP ?_ | (refine sE ?_; intro x hx) | (refine sF ?_; intro i y hi hy) | (refine sI ?_; intro i hi) | (refine sL ?_; intro hlen) | (refine sQ ?_; intro c hc hcm; try simp only [lnM, lnA, lnC, lnN] at hc) | (refine sX ?_; intro i1 i2 hi1 hi2 hj1 hj2; try simp only [cutL, lnM, lnA, lnC, lnN, lnT, lnD, lnR] at hi1 hi2 hj2) | refine sD ?_ | (refine ret_pick [] rfl rfl rfl ⟨?_, rfl⟩; conv => lhs; whnf) | (refine ret_pick [0] rfl rfl rfl ⟨rfl, ?_⟩) | (refine sH ?_; clear hn he hr Q')))
  all_goals rfl
/-- The direction of two angles. -/
def dirV (lon lat : Int) : TVector := ⟨rnd (cosA lat * cosA lon) 1000000, rnd (cosA lat * sinA lon) 1000000, sinA lat⟩
def vecB (m : Int) (v : TVector) : Prop := (-m ≤ v.fX ∧ v.fX ≤ m) ∧ (-m ≤ v.fY ∧ v.fY ≤ m) ∧ (-m ≤ v.fZ ∧ v.fZ ≤ m)
theorem dirV_bound (lon lat : Int) : vecB 1000000 (dirV lon lat) := by
  have h1 := mul_bound (cosA_bound lat) (cosA_bound lon) (by omega)
  have h2 := mul_bound (cosA_bound lat) (sinA_bound lon) (by omega)
  exact ⟨rnd_bound (by omega) (by omega) (by omega), rnd_bound (by omega) (by omega) (by omega), sinA_bound lat⟩
theorem c_impl_directionOf (lon lat : Int) (h1 : i64B lon) (h2 : i64B lat) : FnC Tryz.prog 131 GS 0 [] [.int .i64 lon, .int .i64 lat] (fun d os => d = .agg (encVector (dirV lon lat)) ∧ os = []) := by
  have hb1 := mul_bound (cosA_bound lat) (cosA_bound lon) (by omega)
  have hb2 := mul_bound (cosA_bound lat) (sinA_bound lon) (by omega)
  refine fn_rule Tryz.func131 rfl (by decide +kernel) rfl (fun w0 F0 lent β0 => ?_)
  repeat' (first | refine sC ?_ | ((with_reducible refine isAwp ?_); first | (refine sS ?_; intro Q' hn he hr) | refine sA ?_) | (refine sH ?_; clear hn he hr Q') | refine sO ?_ | ((conv => whnf); first | refine sK ?_ | (refine sB ?_; repeat' (first | refine sb0 ?_ | (refine sb2 ?_ ?_ <;> intro hb <;> try exact cls))) | ((with_reducible refine isCall ?_); first | (refine call_pure (c_impl_CosineOf _ h1) rfl rfl ?_) | (refine call_pure (c_impl_CosineOf _ h2) rfl rfl ?_) | (refine call_pure (c_impl_SineOf _ h1) rfl rfl ?_) | (refine call_pure (c_impl_SineOf _ h2) rfl rfl ?_) | (refine call_pure (FnC.anyG (c_impl_nearest _ _ (by omega) (by omega))) rfl rfl ?_)) | ((with_reducible refine isCallQ ?_); first | (refine callQ_pure (c_impl_CosineOf _ h1) rfl rfl ?_) | (refine callQ_pure (c_impl_CosineOf _ h2) rfl rfl ?_) | (refine callQ_pure (c_impl_SineOf _ h1) rfl rfl ?_) | (refine callQ_pure (c_impl_SineOf _ h2) rfl rfl ?_) | (refine callQ_pure (FnC.anyG (c_impl_nearest _ _ (by omega) (by omega))) rfl rfl ?_)) | refine sP ?_ | (refine sE ?_; intro x hx) | (refine sF ?_; intro i y hi hy) | (refine sI ?_; intro i hi) | (refine sL ?_; intro hlen) | (refine sQ ?_; intro c hc hcm; try simp only [lnM, lnA, lnC, lnN] at hc) | (refine sX ?_; intro i1 i2 hi1 hi2 hj1 hj2; try simp only [cutL, lnM, lnA, lnC, lnN, lnT, lnD, lnR] at hi1 hi2 hj2) | refine sD ?_ | (refine ret_pick [] rfl rfl rfl ⟨?_, rfl⟩; conv => lhs; whnf) | (refine ret_pick [0] rfl rfl rfl ⟨rfl, ?_⟩) | (refine sH ?_; clear hn he hr Q')))
  all_goals rfl
def crossV (a b : TVector) : TVector := ⟨rnd (a.fY * b.fZ - a.fZ * b.fY) 1000000, rnd (a.fZ * b.fX - a.fX * b.fZ) 1000000, rnd (a.fX * b.fY - a.fY * b.fX) 1000000⟩
def dotV (a b : TVector) : Int := rnd (a.fX * b.fX + a.fY * b.fY + a.fZ * b.fZ) 1000000
theorem crossV_bound {a b : TVector} (ha : vecB 1000000 a) (hb : vecB 1000000 b) : vecB 2000000 (crossV a b) := by
  obtain ⟨ax, ay, az⟩ := ha
  obtain ⟨bx, by_, bz⟩ := hb
  have h1 := mul_bound ay bz (by omega)
  have h2 := mul_bound az by_ (by omega)
  have h3 := mul_bound az bx (by omega)
  have h4 := mul_bound ax bz (by omega)
  have h5 := mul_bound ax by_ (by omega)
  have h6 := mul_bound ay bx (by omega)
  exact ⟨rnd_bound (by omega) (by omega) (by omega), rnd_bound (by omega) (by omega) (by omega), rnd_bound (by omega) (by omega) (by omega)⟩
theorem dotV_bound {a b : TVector} (ha : vecB 1000000 a) (hb : vecB 1000000 b) : -3000000 ≤ dotV a b ∧ dotV a b ≤ 3000000 := by
  obtain ⟨ax, ay, az⟩ := ha
  obtain ⟨bx, by_, bz⟩ := hb
  have h1 := mul_bound ax bx (by omega)
  have h2 := mul_bound ay by_ (by omega)
  have h3 := mul_bound az bz (by omega)
  exact rnd_bound (by omega) (by omega) (by omega)
set_option maxHeartbeats 4000000 in
theorem c_impl_crossOf (a b : TVector) (ha : vecB 1000000 a) (hb : vecB 1000000 b) : FnC Tryz.prog 180 G0 0 [] [.agg (encVector a), .agg (encVector b)] (fun d os => d = .agg (encVector (crossV a b)) ∧ os = []) := by
  obtain ⟨ax, ay, az⟩ := ha
  obtain ⟨bx, by_, bz⟩ := hb
  have h1 := mul_bound ay bz (by omega)
  have h2 := mul_bound az by_ (by omega)
  have h3 := mul_bound az bx (by omega)
  have h4 := mul_bound ax bz (by omega)
  have h5 := mul_bound ax by_ (by omega)
  have h6 := mul_bound ay bx (by omega)
  refine fn_rule Tryz.func180 rfl (by decide +kernel) rfl (fun w0 F0 lent β0 => ?_)
  repeat' (first | refine sC ?_ | ((with_reducible refine isAwp ?_); first | (refine sS ?_; intro Q' hn he hr) | refine sA ?_) | (refine sH ?_; clear hn he hr Q') | refine sO ?_ | ((conv => whnf); first | refine sK ?_ | (refine sB ?_; repeat' (first | refine sb0 ?_ | (refine sb2 ?_ ?_ <;> intro hb <;> try exact cls))) | ((with_reducible refine isCall ?_); first | (refine call_pure (c_impl_nearest _ _ (by omega) (by omega)) rfl rfl ?_)) | ((with_reducible refine isCallQ ?_); first | (refine callQ_pure (c_impl_nearest _ _ (by omega) (by omega)) rfl rfl ?_)) | refine sP ?_ | (refine sE ?_; intro x hx) | (refine sF ?_; intro i y hi hy) | (refine sI ?_; intro i hi) | (refine sL ?_; intro hlen) | (refine sQ ?_; intro c hc hcm; try simp only [lnM, lnA, lnC, lnN] at hc) | (refine sX ?_; intro i1 i2 hi1 hi2 hj1 hj2; try simp only [cutL, lnM, lnA, lnC, lnN, lnT, lnD, lnR] at hi1 hi2 hj2) | refine sD ?_ | (refine ret_pick [] rfl rfl rfl ⟨?_, rfl⟩; conv => lhs; whnf) | (refine ret_pick [0] rfl rfl rfl ⟨rfl, ?_⟩) | (refine sH ?_; clear hn he hr Q')))
  all_goals rfl
set_option maxHeartbeats 4000000 in
theorem c_impl_dotOf (a b : TVector) (ha : vecB 1000000 a) (hb : vecB 1000000 b) : FnC Tryz.prog 181 G0 0 [] [.agg (encVector a), .agg (encVector b)] (fun d os => d = .int .i64 (dotV a b) ∧ os = []) := by
  obtain ⟨ax, ay, az⟩ := ha
  obtain ⟨bx, by_, bz⟩ := hb
  have h1 := mul_bound ax bx (by omega)
  have h2 := mul_bound ay by_ (by omega)
  have h3 := mul_bound az bz (by omega)
  refine fn_rule Tryz.func181 rfl (by decide +kernel) rfl (fun w0 F0 lent β0 => ?_)
  repeat' (first | refine sC ?_ | ((with_reducible refine isAwp ?_); first | (refine sS ?_; intro Q' hn he hr) | refine sA ?_) | (refine sH ?_; clear hn he hr Q') | refine sO ?_ | ((conv => whnf); first | refine sK ?_ | (refine sB ?_; repeat' (first | refine sb0 ?_ | (refine sb2 ?_ ?_ <;> intro hb <;> try exact cls))) | ((with_reducible refine isCall ?_); first | (refine call_pure (c_impl_nearest _ _ (by omega) (by omega)) rfl rfl ?_)) | ((with_reducible refine isCallQ ?_); first | (refine callQ_pure (c_impl_nearest _ _ (by omega) (by omega)) rfl rfl ?_)) | refine sP ?_ | (refine sE ?_; intro x hx) | (refine sF ?_; intro i y hi hy) | (refine sI ?_; intro i hi) | (refine sL ?_; intro hlen) | (refine sQ ?_; intro c hc hcm; try simp only [lnM, lnA, lnC, lnN] at hc) | (refine sX ?_; intro i1 i2 hi1 hi2 hj1 hj2; try simp only [cutL, lnM, lnA, lnC, lnN, lnT, lnD, lnR] at hi1 hi2 hj2) | refine sD ?_ | (refine ret_pick [] rfl rfl rfl ⟨?_, rfl⟩; conv => lhs; whnf) | (refine ret_pick [0] rfl rfl rfl ⟨rfl, ?_⟩) | (refine sH ?_; clear hn he hr Q')))
  all_goals rfl
end Go.Eng
