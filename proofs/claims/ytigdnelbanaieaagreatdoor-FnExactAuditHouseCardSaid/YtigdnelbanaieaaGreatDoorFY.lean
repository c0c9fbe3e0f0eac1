/-
  Contracts of functions of the program and of the reference, and plain laws: a bundle of texts.
  No conditions.
-/
import Derived.Test.YtigdnelbanaieaaGreatDoorED
import Derived.Test.YtigdnelbanaieaaGreatDoorFD
set_option linter.unusedVariables false
set_option linter.unusedSimpArgs false
set_option maxHeartbeats 4000000
namespace Go.Eng
open Go Go.RowKit Go.Proofs
set_option maxRecDepth 100000
theorem drop_next {R : List TRing} {k : Int} {i : Nat} {r : TRing} {k' : Int} (hr : R[i]? = some r) (h : ¬ k' < r.fCount) (e : (splitR R k).1 = i + (splitR (R.drop i) k').1 ∧ (splitR R k).2 = (splitR (R.drop i) k').2) : (splitR R k).1 = (i + 1) + (splitR (R.drop (i + 1)) (k' - r.fCount)).1 ∧ (splitR R k).2 = (splitR (R.drop (i + 1)) (k' - r.fCount)).2 := by
  rw [splitR_next hr h] at e
  simp only at e
  omega
theorem drop_here {R : List TRing} {k : Int} {i : Nat} {r : TRing} {k' : Int} (hr : R[i]? = some r) (h : k' < r.fCount) (e : (splitR R k).1 = i + (splitR (R.drop i) k').1 ∧ (splitR R k).2 = (splitR (R.drop i) k').2) : (splitR R k).1 = i ∧ (splitR R k).2 = k' := by
  rw [splitR_here hr h] at e
  simp only at e
  omega
set_option maxHeartbeats 4000000 in
theorem c_impl_ringOf (R : List TRing) (k : Int) (hR : ringsB R = true) (h0 : 0 ≤ k) (h1 : k < sumC R) : FnC Tryz.prog 170 G0 0 [] [.sl 5 (R.map encRing), .int .i64 k] (fun d os => d = .tup [.int .i64 ((splitR R k).1 : Nat), .int .i64 (splitR R k).2] ∧ os = []) := by
  obtain ⟨hall, hl, hs0, hs1⟩ := ringsB_all hR
  refine fn_rule Tryz.func170 rfl (by decide +kernel) rfl (fun w0 F0 lent β0 => ?_)
  repeat' (first | refine sC ?_ | ((with_reducible refine isAwp ?_); first | (refine sS ?_; intro Q' hn he hr) | refine sA ?_) | (refine sH ?_; clear hn he hr Q') | ((conv => whnf); first | refine sK ?_ | (refine sL ?_; intro hlen)))
  refine loop_env2 (fun (i : Nat) (k' : Int) => [(1,.int .i64 k'),(8,.sl 5 (R.map encRing)),(9,.int .i64 R.length),(10,.int .i64 i)]) (fun _ _ => []) (fun i k' => (i ≤ R.length ∧ 0 ≤ k' ∧ k' ≤ 120) ∧ k' < sumC (R.drop i) ∧ ((splitR R k).1 = i + (splitR (R.drop i) k').1 ∧ (splitR R k).2 = (splitR (R.drop i) k').2)) (fun i _ => R.length - i) 0 k ⟨by omega, by simpa using h1, by simp⟩ (by refine weak_to rfl rfl rfl ?_; ((repeat' (first | exact trivial | refine And.intro ?_ ?_)) <;> (first | rfl | (conv => rhs; whnf) <;> (first | rfl | (refine congrArg (D.int _) ?_; omega))))) (fun i k' hk Q' hn he hr => ?_)
  obtain ⟨⟨hk1, hk2, hk3⟩, hk4, hk5⟩ := hk
  by_cases hil : i < R.length
  · obtain ⟨r, hri⟩ : ∃ r, R[i]? = some r := ⟨_, List.getElem?_eq_getElem hil⟩
    have hrc := ringB_count (hall _ _ hri)
    have hsd := sumC_drop hri
    repeat' (first | refine sC ?_ | ((with_reducible refine isAwp ?_); first | (refine sS ?_; intro Q' hn he hr) | refine sA ?_) | (refine sH ?_; clear hn he hr Q') | ((conv => whnf); first | refine sK ?_ | (refine sB ?_; repeat' (refine sb2 ?_ ?_ <;> intro hb <;> try exact cls)) | (refine ElemS.the hri ?_) | refine sP ?_ | (refine ret_pick [] rfl rfl rfl ⟨?_, rfl⟩; conv => lhs; whnf)))
    all_goals first
      | (obtain ⟨e1, e2⟩ := drop_here hri (by omega) hk5; rw [e1, e2]; rfl)
      | exact ⟨i + 1, k' - r.fCount, ⟨by omega, by omega, drop_next hri (by omega) hk5⟩, by omega, (by refine weak_to rfl rfl rfl ?_; ((repeat' (first | exact trivial | refine And.intro ?_ ?_)) <;> (first | rfl | (conv => rhs; whnf) <;> (first | rfl | (refine congrArg (D.int _) ?_; omega)))))⟩
  · exfalso
    rw [List.drop_of_length_le (by omega)] at hk4
    simp [sumC] at hk4
    omega
set_option maxHeartbeats 4000000 in
theorem c_spec_l23Split (R : List TRing) (k : Int) (hR : ringsB R = true) (h0 : 0 ≤ k) (h1 : k < sumC R) : FnC Tryz.prog 190 G0 0 [] [.sl 5 (R.map encRing), .int .i64 k] (fun d os => d = .tup [.int .i64 ((splitR R k).1 : Nat), .int .i64 (splitR R k).2] ∧ os = []) := by
  obtain ⟨hall, hl, hs0, hs1⟩ := ringsB_all hR
  refine fn_rule Tryz.func190 rfl (by decide +kernel) rfl (fun w0 F0 lent β0 => ?_)
  repeat' (first | refine sC ?_ | ((with_reducible refine isAwp ?_); first | (refine sS ?_; intro Q' hn he hr) | refine sA ?_) | (refine sH ?_; clear hn he hr Q') | ((conv => whnf); refine sK ?_))
  refine loop_env2 (fun (i : Nat) (k' : Int) => [(0,.sl 5 (R.map encRing)),(1,.int .i64 k'),(6,.int .i64 i)]) (fun _ _ => []) (fun i k' => (i ≤ R.length ∧ 0 ≤ k' ∧ k' ≤ 120) ∧ k' < sumC (R.drop i) ∧ ((splitR R k).1 = i + (splitR (R.drop i) k').1 ∧ (splitR R k).2 = (splitR (R.drop i) k').2)) (fun i _ => R.length - i) 0 k ⟨by omega, by simpa using h1, by simp⟩ (by refine weak_to rfl rfl rfl ?_; ((repeat' (first | exact trivial | refine And.intro ?_ ?_)) <;> (first | rfl | (conv => rhs; whnf) <;> (first | rfl | (refine congrArg (D.int _) ?_; omega))))) (fun i k' hk Q' hn he hr => ?_)
  obtain ⟨⟨hk1, hk2, hk3⟩, hk4, hk5⟩ := hk
  by_cases hil : i < R.length
  · obtain ⟨r, hri⟩ : ∃ r, R[i]? = some r := ⟨_, List.getElem?_eq_getElem hil⟩
    have hrc := ringB_count (hall _ _ hri)
    have hsd := sumC_drop hri
    repeat' (first | refine sC ?_ | ((with_reducible refine isAwp ?_); first | (refine sS ?_; intro Q' hn he hr) | refine sA ?_) | (refine sH ?_; clear hn he hr Q') | ((conv => whnf); first | refine sK ?_ | (refine sB ?_; repeat' (refine sb2 ?_ ?_ <;> intro hb <;> try exact cls)) | (refine ElemS.the hri ?_) | refine sP ?_ | (refine ret_pick [] rfl rfl rfl ⟨?_, rfl⟩; conv => lhs; whnf) | (refine sH ?_; clear hn he hr Q')))
    all_goals first
      | (obtain ⟨e1, e2⟩ := drop_here hri (by omega) hk5; rw [e1, e2]; rfl)
      | exact ⟨i + 1, k' - r.fCount, ⟨by omega, by omega, drop_next hri (by omega) hk5⟩, by omega, (by refine weak_to rfl rfl rfl ?_; ((repeat' (first | exact trivial | refine And.intro ?_ ?_)) <;> (first | rfl | (conv => rhs; whnf) <;> (first | rfl | (refine congrArg (D.int _) ?_; omega)))))⟩
  · exfalso
    rw [List.drop_of_length_le (by omega)] at hk4
    simp [sumC] at hk4
    omega
theorem seatT_eq (R : List TRing) (k : Int) : [114] ++ Lib.itoa (((splitR R k).1 : Int) + 1) ++ [115] ++ Lib.itoa ((splitR R k).2 + 1) = seatT R k := by simp [seatT]
theorem c_impl_seatName (R : List TRing) (k : Int) (hR : ringsB R = true) (h0 : 0 ≤ k) (h1 : k < sumC R) : FnC Tryz.prog 107 GP 0 [] [.sl 5 (R.map encRing), .int .i64 k] (fun d os => d = .str (seatT R k) ∧ os = []) := by
  obtain ⟨h2, h3, h4, h5, h6⟩ := ringAt_ok hR h0 h1
  have h7 := (ringB_facts h3).2.1
  have hl1 := Lib.itoa_length_le (((splitR R k).1 : Int) + 1) (by omega) (by omega)
  have hl2 := Lib.itoa_length_le ((splitR R k).2 + 1) (by omega) (by omega)
  refine fn_rule Tryz.func107 rfl (by decide +kernel) rfl (fun w0 F0 lent β0 => ?_)
  repeat' (first | refine sC ?_ | ((with_reducible refine isAwp ?_); first | (refine sS ?_; intro Q' hn he hr) | refine sA ?_) | (refine sH ?_; clear hn he hr Q') | ((conv => whnf); first | refine sK ?_ | (refine AskS.mk ⟨by simp only [List.length_append, maxLen]; simp; omega, ?_⟩) | ((with_reducible refine isCall ?_); first | (refine call_pure ((c_impl_ringOf R k hR h0 h1).anyG) rfl rfl ?_) | (refine call_pure (c_impl_Decimal _ (by omega)) rfl rfl ?_)) | refine sP ?_ | (refine ret_pick [] rfl rfl rfl ⟨?_, rfl⟩; conv => lhs; whnf)))
  all_goals exact congrArg D.str (seatT_eq R k)
theorem c_spec_l23Name (R : List TRing) (k : Int) (hR : ringsB R = true) (h0 : 0 ≤ k) (h1 : k < sumC R) : FnC Tryz.prog 142 G0 0 [] [.sl 5 (R.map encRing), .int .i64 k] (fun d os => d = .str (seatT R k) ∧ os = []) := by
  obtain ⟨h2, h3, h4, h5, h6⟩ := ringAt_ok hR h0 h1
  have h7 := (ringB_facts h3).2.1
  have hl1 := Lib.itoa_length_le (((splitR R k).1 : Int) + 1) (by omega) (by omega)
  have hl2 := Lib.itoa_length_le ((splitR R k).2 + 1) (by omega) (by omega)
  refine fn_rule Tryz.func142 rfl (by decide +kernel) rfl (fun w0 F0 lent β0 => ?_)
  repeat' (first | refine sC ?_ | ((with_reducible refine isAwp ?_); first | (refine sS ?_; intro Q' hn he hr) | refine sA ?_) | (refine sH ?_; clear hn he hr Q') | ((conv => whnf); first | refine sK ?_ | (refine AskS.mk ⟨by simp only [List.length_append, maxLen]; simp; omega, ?_⟩) | ((with_reducible refine isCall ?_); first | (refine call_pure (c_spec_l23Split R k hR h0 h1) rfl rfl ?_) | (refine call_pure (c_spec_l01Dec _ (by omega)) rfl rfl ?_)) | refine sP ?_ | (refine ret_pick [] rfl rfl rfl ⟨?_, rfl⟩; conv => lhs; whnf)))
  all_goals exact congrArg D.str (seatT_eq R k)
end Go.Eng

namespace Go.Eng
open Go Go.RowKit Go.Proofs
set_option maxRecDepth 100000
theorem sinA_mod (a : Int) : sinA (a % 360000) = sinA a := by
  unfold sinA
  simp only [Int.emod_emod]
theorem cosA_mod (a : Int) : cosA (a % 360000) = cosA a := by
  unfold cosA
  simp only [Int.emod_emod]
set_option maxHeartbeats 4000000 in
theorem c_impl_seatPlace (R : List TRing) (k : Int) (hR : ringsB R = true) (h0 : 0 ≤ k) (h1 : k < sumC R) : FnC Tryz.prog 167 GS 0 [] [.sl 5 (R.map encRing), .int .i64 k] (fun d os => d = .agg (encVector (placeV R k)) ∧ os = []) := by
  obtain ⟨h2, h3, h4, h5, h6⟩ := ringAt_ok hR h0 h1
  obtain ⟨g1, g2, g3, g4, g5⟩ := ringB_facts h3
  have g6 := seatA_bound h3 h4 h5
  have m1 := mul_bound (x := (ringAt R k).fRadius) (y := sinA (seatA R k)) (m := 30000) (by omega) (sinA_bound _) (by omega)
  have m2 := mul_bound (x := (ringAt R k).fRadius) (y := cosA (seatA R k)) (m := 30000) (by omega) (cosA_bound _) (by omega)
  have hsi : i64B (seatA R k) := by unfold i64B seatA; omega
  refine fn_rule Tryz.func167 rfl (by decide +kernel) rfl (fun w0 F0 lent β0 => ?_)
  repeat' (first | refine sC ?_ | ((with_reducible refine isAwp ?_); first | (refine sS ?_; intro Q' hn he hr) | refine sA ?_) | (refine sH ?_; clear hn he hr Q') | refine sO ?_ | ((conv => whnf); first | refine sK ?_ | (refine ElemS.the h2 ?_) | (refine ArithS.to (seatA R k) rfl (wrap64 hsi) ?_) | ((with_reducible refine isCall ?_); (refine call_pure ((c_impl_ringOf R k hR h0 h1).anyG) rfl rfl ?_)) | ((with_reducible refine isCallQ ?_); first | (refine callQ_pure (c_impl_SineOf (seatA R k) hsi) rfl rfl ?_) | (refine callQ_pure (c_impl_CosineOf (seatA R k) hsi) rfl rfl ?_) | (refine callQ_pure (FnC.anyG (c_impl_nearest _ _ (by omega) (by omega))) rfl rfl ?_)) | refine sP ?_ | refine sD ?_ | (refine ret_pick [] rfl rfl rfl ⟨?_, rfl⟩; conv => lhs; whnf)))
  all_goals rfl
set_option maxHeartbeats 4000000 in
theorem c_spec_l23Place (R : List TRing) (k : Int) (hR : ringsB R = true) (h0 : 0 ≤ k) (h1 : k < sumC R) : FnC Tryz.prog 141 G0 0 [] [.sl 5 (R.map encRing), .int .i64 k] (fun d os => d = .agg (encVector (placeV R k)) ∧ os = []) := by
  obtain ⟨h2, h3, h4, h5, h6⟩ := ringAt_ok hR h0 h1
  obtain ⟨g1, g2, g3, g4, g5⟩ := ringB_facts h3
  have g6 := seatA_bound h3 h4 h5
  have m1 := mul_bound (x := (ringAt R k).fRadius) (y := sinA (seatA R k)) (m := 30000) (by omega) (sinA_bound _) (by omega)
  have m2 := mul_bound (x := (ringAt R k).fRadius) (y := cosA (seatA R k)) (m := 30000) (by omega) (cosA_bound _) (by omega)
  have hsi : i64B (seatA R k) := by unfold i64B seatA; omega
  have c1 := c_spec_l02Sine (seatA R k % 360000) (by unfold i64B; omega)
  have c2 := c_spec_l02Cosine (seatA R k % 360000) (by unfold i64B; omega)
  rw [sinA_mod] at c1
  rw [cosA_mod] at c2
  refine fn_rule Tryz.func141 rfl (by decide +kernel) rfl (fun w0 F0 lent β0 => ?_)
  repeat' (first | refine sC ?_ | ((with_reducible refine isAwp ?_); first | (refine sS ?_; intro Q' hn he hr) | refine sA ?_) | (refine sH ?_; clear hn he hr Q') | refine sO ?_ | ((conv => whnf); first | refine sK ?_ | (refine ElemS.the h2 ?_) | (refine ArithS.to (seatA R k) rfl (wrap64 hsi) ?_) | ((with_reducible refine isCall ?_); (refine call_pure (c_spec_l23Split R k hR h0 h1) rfl rfl ?_)) | ((with_reducible refine isCallQ ?_); first | (refine callQ_pure (c_spec_l02Normal (seatA R k) hsi) rfl rfl ?_) | (refine callQ_pure (c1) rfl rfl ?_) | (refine callQ_pure (c2) rfl rfl ?_) | (refine callQ_pure (c_spec_l01Div _ _ (by omega) (by omega)) rfl rfl ?_)) | refine sP ?_ | refine sD ?_ | (refine ret_pick [] rfl rfl rfl ⟨?_, rfl⟩; conv => lhs; whnf)))
  all_goals rfl
theorem placeV_bound {R : List TRing} {k : Int} (hR : ringsB R = true) (h0 : 0 ≤ k) (h1 : k < sumC R) : vecB 30000 (placeV R k) := by
  obtain ⟨h2, h3, h4, h5, h6⟩ := ringAt_ok hR h0 h1
  obtain ⟨g1, g2, g3, g4, g5⟩ := ringB_facts h3
  have m1 := mul_bound (x := (ringAt R k).fRadius) (y := sinA (seatA R k)) (m := 30000) (by omega) (sinA_bound _) (by omega)
  have m2 := mul_bound (x := (ringAt R k).fRadius) (y := cosA (seatA R k)) (m := 30000) (by omega) (cosA_bound _) (by omega)
  exact ⟨rnd_bound (by omega) (by omega) (by omega), rnd_bound (by omega) (by omega) (by omega), by show -30000 ≤ (0 : Int) ∧ (0 : Int) ≤ 30000; omega⟩
theorem domB_facts {d : TDome} (h : domB d = true) : 1000 ≤ d.fRadius ∧ d.fRadius ≤ 30000 := by
  simp only [domB, inB, Bool.and_eq_true, decide_eq_true_eq] at h
  omega
theorem inside_no1 {d : TDome} {v : TVector} (h : inB v.fX (-(d.fRadius - 1)) (d.fRadius - 1) = false) : insideB d v = false := by unfold insideB; rw [h]; rfl
theorem inside_no2 {d : TDome} {v : TVector} (h : inB v.fY (-(d.fRadius - 1)) (d.fRadius - 1) = false) : insideB d v = false := by unfold insideB; rw [h]; simp
theorem inside_no3 {d : TDome} {v : TVector} (h : inB v.fZ (-(d.fRadius - 1)) (d.fRadius - 1) = false) : insideB d v = false := by unfold insideB; rw [h]; simp
theorem inside_yes {d : TDome} {v : TVector} (h1 : inB v.fX (-(d.fRadius - 1)) (d.fRadius - 1) = true) (h2 : inB v.fY (-(d.fRadius - 1)) (d.fRadius - 1) = true) (h3 : inB v.fZ (-(d.fRadius - 1)) (d.fRadius - 1) = true) : insideB d v = decide (v.fX * v.fX + v.fY * v.fY + v.fZ * v.fZ < (d.fRadius - 1) * (d.fRadius - 1)) := by unfold insideB; rw [h1, h2, h3]; rfl
set_option maxHeartbeats 4000000 in
theorem c_impl_isInside (d : TDome) (v : TVector) (hd : domB d = true) (hv : vecB 30000 v) : FnC Tryz.prog 168 G0 0 [] [.agg (encDome d), .agg (encVector v)] (fun e os => e = .bool (insideB d v) ∧ os = []) := by
  obtain ⟨b1, b2, b3⟩ := hv
  have hr0 := domB_facts hd
  have m1 := mul_bound b1 b1 (by omega)
  have m2 := mul_bound b2 b2 (by omega)
  have m3 := mul_bound b3 b3 (by omega)
  have m4 := mul_bound (x := d.fRadius - 1) (y := d.fRadius - 1) (m := 30000) (n := 30000) (by omega) (by omega) (by omega)
  refine fn_rule Tryz.func168 rfl (by decide +kernel) rfl (fun w0 F0 lent β0 => ?_)
  repeat' (first | refine sC ?_ | ((with_reducible refine isAwp ?_); first | (refine sS ?_; intro Q' hn he hr) | refine sA ?_) | (refine sH ?_; clear hn he hr Q') | ((conv => whnf); first | refine sK ?_ | (refine sB ?_; repeat' (first | refine sb0 ?_ | (refine sb2 ?_ ?_ <;> intro hb <;> try exact cls))) | ((with_reducible refine isCall ?_); (refine call_pure (c_within _ _ _) rfl rfl ?_)) | refine sP ?_ | (refine ret_pick [] rfl rfl rfl ⟨?_, rfl⟩; conv => lhs; whnf)))
  all_goals (try simp only [Int.zero_sub] at *)
  all_goals first
    | (rw [inside_no1 (by assumption)]; done)
    | (rw [inside_no2 (by assumption)]; done)
    | (rw [inside_no3 (by assumption)]; done)
    | (rw [inside_yes (by assumption) (by assumption) (by assumption)]; done)
set_option maxHeartbeats 4000000 in
theorem c_spec_l09Seat (d : TDome) (r : List D) (v : TVector) (hd : domB d = true) (hv : vecB 30000 v) : FnC Tryz.prog 188 G0 0 [] [.rp (encDome d ++ r), .agg (encVector v)] (fun e os => e = .bool (insideB d v) ∧ os = []) := by
  obtain ⟨b1, b2, b3⟩ := hv
  have hr0 := domB_facts hd
  have m1 := mul_bound b1 b1 (by omega)
  have m2 := mul_bound b2 b2 (by omega)
  have m3 := mul_bound b3 b3 (by omega)
  have m4 := mul_bound (x := d.fRadius - 1) (y := d.fRadius - 1) (m := 30000) (n := 30000) (by omega) (by omega) (by omega)
  refine fn_rule Tryz.func188 rfl (by decide +kernel) rfl (fun w0 F0 lent β0 => ?_)
  repeat' (first | refine sC ?_ | ((with_reducible refine isAwp ?_); first | (refine sS ?_; intro Q' hn he hr) | refine sA ?_) | (refine sH ?_; clear hn he hr Q') | ((conv => whnf); first | refine sK ?_ | (refine sB ?_; repeat' (first | refine sb0 ?_ | (refine sb2 ?_ ?_ <;> intro hb <;> try exact cls))) | ((with_reducible refine isCall ?_); (refine call_pure (c_l00In _ _ _) rfl rfl ?_)) | refine sP ?_ | (refine ret_pick [] rfl rfl rfl ⟨?_, rfl⟩; conv => lhs; whnf)))
  all_goals (try simp only [Int.zero_sub] at *)
  all_goals first
    | (rw [inside_no1 (by assumption)]; done)
    | (rw [inside_no2 (by assumption)]; done)
    | (rw [inside_no3 (by assumption)]; done)
    | (rw [inside_yes (by assumption) (by assumption) (by assumption)]; done)
theorem point_mul {d : TDome} (hd : domB d = true) {x : Int} (hx : -1000000 ≤ x ∧ x ≤ 1000000) : -30000000000 ≤ d.fRadius * x ∧ d.fRadius * x ≤ 30000000000 := by
  have hr0 := domB_facts hd
  exact mul_bound (x := d.fRadius) (y := x) (m := 30000) (n := 1000000) (by omega) hx (by omega)
theorem pointV_bound {d : TDome} (hd : domB d = true) (a h : Int) : vecB 30000 (pointV d a h) := by
  obtain ⟨b1, b2, b3⟩ := dirV_bound ((90000 - a) % 360000) h
  have m1 := point_mul hd b1
  have m2 := point_mul hd b2
  have m3 := point_mul hd b3
  exact ⟨rnd_bound (by omega) (by omega) (by omega), rnd_bound (by omega) (by omega) (by omega), rnd_bound (by omega) (by omega) (by omega)⟩
theorem viewV_bound {d : TDome} (hd : domB d = true) {v : TVector} (hv : vecB 30000 v) (a h : Int) : vecB 60000 (viewV d v a h) := by
  obtain ⟨b1, b2, b3⟩ := pointV_bound hd a h
  obtain ⟨c1, c2, c3⟩ := hv
  refine ⟨?_, ?_, ?_⟩ <;> simp only [viewV] <;> omega
theorem vecB_more {m n : Int} {v : TVector} (h : vecB m v) (hm : m ≤ n) : vecB n v := by
  obtain ⟨b1, b2, b3⟩ := h
  refine ⟨?_, ?_, ?_⟩ <;> omega
theorem c_impl_domeVector (a h : Int) (ha : 0 ≤ a ∧ a ≤ 360000) (hh : 0 ≤ h ∧ h ≤ 90000) : FnC Tryz.prog 264 GS 0 [] [.int .i64 a, .int .i64 h] (fun d os => d = .agg (encVector (dirV ((90000 - a) % 360000) h)) ∧ os = []) := by
  refine fn_rule Tryz.func264 rfl (by decide +kernel) rfl (fun w0 F0 lent β0 => ?_)
  repeat' (first | refine sC ?_ | ((with_reducible refine isAwp ?_); first | (refine sS ?_; intro Q' hn he hr) | refine sA ?_) | (refine sH ?_; clear hn he hr Q') | ((conv => whnf); first | refine sK ?_ | ((with_reducible refine isCall ?_); first | (refine call_pure (FnC.anyG (c_impl_NormalAngle (90000 - a) (by unfold i64B; omega))) rfl rfl ?_) | (refine call_pure (c_impl_directionOf _ _ (by unfold i64B; omega) (by unfold i64B; omega)) rfl rfl ?_)) | refine sP ?_ | (refine ret_pick [] rfl rfl rfl ⟨?_, rfl⟩; conv => lhs; whnf)))
  all_goals rfl
set_option maxHeartbeats 4000000 in
theorem c_impl_domePoint (d : TDome) (a h : Int) (hd : domB d = true) (ha : 0 ≤ a ∧ a ≤ 360000) (hh : 0 ≤ h ∧ h ≤ 90000) : FnC Tryz.prog 243 GS 0 [] [.agg (encDome d), .int .i64 a, .int .i64 h] (fun e os => e = .agg (encVector (pointV d a h)) ∧ os = []) := by
  obtain ⟨b1, b2, b3⟩ := dirV_bound ((90000 - a) % 360000) h
  have m1 := point_mul hd b1
  have m2 := point_mul hd b2
  have m3 := point_mul hd b3
  refine fn_rule Tryz.func243 rfl (by decide +kernel) rfl (fun w0 F0 lent β0 => ?_)
  repeat' (first | refine sC ?_ | ((with_reducible refine isAwp ?_); first | (refine sS ?_; intro Q' hn he hr) | refine sA ?_) | (refine sH ?_; clear hn he hr Q') | refine sO ?_ | ((conv => whnf); first | refine sK ?_ | ((with_reducible refine isCall ?_); (refine call_pure (c_impl_domeVector a h ha hh) rfl rfl ?_)) | ((with_reducible refine isCallQ ?_); (refine callQ_pure (FnC.anyG (c_impl_nearest _ _ (by omega) (by omega))) rfl rfl ?_)) | refine sP ?_ | refine sD ?_ | (refine ret_pick [] rfl rfl rfl ⟨?_, rfl⟩; conv => lhs; whnf)))
  all_goals rfl
set_option maxHeartbeats 4000000 in
theorem c_spec_l09Point (d : TDome) (r : List D) (a h : Int) (hd : domB d = true) (ha : 0 ≤ a ∧ a ≤ 360000) (hh : 0 ≤ h ∧ h ≤ 90000) : FnC Tryz.prog 253 G0 0 [] [.rp (encDome d ++ r), .int .i64 a, .int .i64 h] (fun e os => e = .agg (encVector (pointV d a h)) ∧ os = []) := by
  obtain ⟨b1, b2, b3⟩ := dirV_bound ((90000 - a) % 360000) h
  have m1 := point_mul hd b1
  have m2 := point_mul hd b2
  have m3 := point_mul hd b3
  refine fn_rule Tryz.func253 rfl (by decide +kernel) rfl (fun w0 F0 lent β0 => ?_)
  repeat' (first | refine sC ?_ | ((with_reducible refine isAwp ?_); first | (refine sS ?_; intro Q' hn he hr) | refine sA ?_) | (refine sH ?_; clear hn he hr Q') | refine sO ?_ | ((conv => whnf); first | refine sK ?_ | ((with_reducible refine isCall ?_); first | (refine call_pure (c_spec_l02Normal (90000 - a) (by unfold i64B; omega)) rfl rfl ?_) | (refine call_pure (c_spec_l04Direction _ _ (by unfold i64B; omega) (by unfold i64B; omega)) rfl rfl ?_)) | ((with_reducible refine isCallQ ?_); (refine callQ_pure (c_spec_l01Div _ _ (by omega) (by omega)) rfl rfl ?_)) | refine sP ?_ | refine sD ?_ | (refine ret_pick [] rfl rfl rfl ⟨?_, rfl⟩; conv => lhs; whnf)))
  all_goals rfl
set_option maxHeartbeats 4000000 in
theorem c_impl_viewOf (d : TDome) (v : TVector) (a h : Int) (hd : domB d = true) (hv : vecB 30000 v) (ha : 0 ≤ a ∧ a ≤ 360000) (hh : 0 ≤ h ∧ h ≤ 90000) : FnC Tryz.prog 213 GS 0 [] [.agg (encDome d), .agg (encVector v), .int .i64 a, .int .i64 h] (fun e os => e = .agg (encVector (viewV d v a h)) ∧ os = []) := by
  obtain ⟨b1, b2, b3⟩ := pointV_bound hd a h
  obtain ⟨c1, c2, c3⟩ := hv
  refine fn_rule Tryz.func213 rfl (by decide +kernel) rfl (fun w0 F0 lent β0 => ?_)
  repeat' (first | refine sC ?_ | ((with_reducible refine isAwp ?_); first | (refine sS ?_; intro Q' hn he hr) | refine sA ?_) | (refine sH ?_; clear hn he hr Q') | ((conv => whnf); first | refine sK ?_ | ((with_reducible refine isCall ?_); (refine call_pure (c_impl_domePoint d a h hd ha hh) rfl rfl ?_)) | refine sP ?_ | (refine ret_pick [] rfl rfl rfl ⟨?_, rfl⟩; conv => lhs; whnf)))
  all_goals rfl
theorem sqR {v : TVector} (hv : vecB 60000 v) : v.fX * v.fX + v.fY * v.fY = ((v.fX * v.fX + v.fY * v.fY).toNat : Int) ∧ (v.fX * v.fX + v.fY * v.fY).toNat ≤ 7200000000 := by
  obtain ⟨b1, b2, b3⟩ := hv
  have m1 := mul_bound b1 b1 (by omega)
  have m2 := mul_bound b2 b2 (by omega)
  have g1 := sq_pos v.fX
  have g2 := sq_pos v.fY
  omega
theorem root_small {n : Nat} (h : n ≤ 7200000000) : rootN n ≤ 90000 := by
  have h2 := (rootN_spec n).1
  rcases Nat.lt_or_ge 90000 (rootN n) with h3 | h3
  · have := Nat.mul_le_mul h3 h3
    omega
  · exact h3
theorem arc_z {y x : Int} (h : x = 0 ∧ y = 0) : arcA y x = 0 := by
  obtain ⟨rfl, rfl⟩ := h
  exact arc_zero
def arcC (y x : Int) : Int := if x = 0 ∧ y = 0 then 6 else 0
theorem c_impl_ArcTangent_any (y x : Int) (hy : -1000000000000 ≤ y ∧ y ≤ 1000000000000) (hx1 : -1000000000000 ≤ x ∧ x ≤ 1000000000000) : FnC Tryz.prog 241 GS 0 [] [.int .i64 y, .int .i64 x] (fun d os => d = .tup [.int .i64 (arcA y x), .int .i64 (arcC y x)] ∧ os = []) := by
  by_cases h0 : x = 0 ∧ y = 0
  · refine (c_impl_ArcTangent_zero y x h0).mono fun d os h => ?_
    obtain ⟨rfl, rfl⟩ := h
    exact ⟨by rw [arc_z h0, arcC, if_pos h0], rfl⟩
  · refine (c_impl_ArcTangent y x hy hx1 h0).mono fun d os h => ?_
    obtain ⟨rfl, rfl⟩ := h
    exact ⟨by rw [arcC, if_neg h0], rfl⟩
set_option maxHeartbeats 4000000 in
theorem c_impl_domeAngles (v : TVector) (hv : vecB 60000 v) : FnC Tryz.prog 212 GS 0 [] [.agg (encVector v)] (fun d os => d = .tup [.int .i64 ((90000 - lonV v) % 360000), .int .i64 (latV v)] ∧ os = []) := by
  obtain ⟨hs1, hs2⟩ := sqR hv
  have hrs := root_small hs2
  have hab := arcA_bound v.fY v.fX
  have hlb := arcA_bound v.fZ (rootN (v.fX * v.fX + v.fY * v.fY).toNat)
  obtain ⟨b1, b2, b3⟩ := hv
  have m1 := mul_bound b1 b1 (by omega)
  have m2 := mul_bound b2 b2 (by omega)
  by_cases hz : v.fX = 0 ∧ v.fY = 0
  · have hlo : lonV v = 0 := by unfold lonV; rw [if_pos hz]
    by_cases hbig : 90000 < latR v
    · have hla : latV v = latR v - 360000 := by unfold latV; rw [if_pos hbig]
      rw [hlo, hla]
      unfold latR at hbig ⊢
      refine fn_rule Tryz.func212 rfl (by decide +kernel) rfl (fun w0 F0 lent β0 => ?_)
      repeat' (first | refine sC ?_ | ((with_reducible refine isAwp ?_); first | (refine sS ?_; intro Q' hn he hr) | refine sA ?_) | (refine sH ?_; clear hn he hr Q') | refine sO ?_ | ((conv => whnf); first | refine sK ?_ | (refine sB ?_; repeat' (first | refine sb0 ?_ | (refine sb2 ?_ ?_ <;> intro hb <;> try exact cls))) | (refine ArithS.to ((v.fX * v.fX + v.fY * v.fY).toNat : Int) hs1 (wrap64 (by omega)) ?_) | ((with_reducible refine isCall ?_); (refine call_pure (FnC.anyG (c_impl_NormalAngle _ (by unfold i64B; omega))) rfl rfl ?_)) | ((with_reducible refine isCallQ ?_); first | (refine callQ_pure (FnC.anyG (c_impl_RootOf _ (by omega))) rfl rfl ?_) | (refine callQ_pure (c_impl_ArcTangent_any v.fZ (rootN (v.fX * v.fX + v.fY * v.fY).toNat) (by omega) (by omega)) rfl rfl ?_)) | refine sP ?_ | refine sD ?_ | (refine ret_pick [] rfl rfl rfl ⟨?_, rfl⟩; conv => lhs; whnf)))
      all_goals rfl
    · have hla : latV v = latR v := by unfold latV; rw [if_neg hbig]
      rw [hlo, hla]
      unfold latR at hbig ⊢
      refine fn_rule Tryz.func212 rfl (by decide +kernel) rfl (fun w0 F0 lent β0 => ?_)
      repeat' (first | refine sC ?_ | ((with_reducible refine isAwp ?_); first | (refine sS ?_; intro Q' hn he hr) | refine sA ?_) | (refine sH ?_; clear hn he hr Q') | refine sO ?_ | ((conv => whnf); first | refine sK ?_ | (refine sB ?_; repeat' (first | refine sb0 ?_ | (refine sb2 ?_ ?_ <;> intro hb <;> try exact cls))) | (refine ArithS.to ((v.fX * v.fX + v.fY * v.fY).toNat : Int) hs1 (wrap64 (by omega)) ?_) | ((with_reducible refine isCall ?_); (refine call_pure (FnC.anyG (c_impl_NormalAngle _ (by unfold i64B; omega))) rfl rfl ?_)) | ((with_reducible refine isCallQ ?_); first | (refine callQ_pure (FnC.anyG (c_impl_RootOf _ (by omega))) rfl rfl ?_) | (refine callQ_pure (c_impl_ArcTangent_any v.fZ (rootN (v.fX * v.fX + v.fY * v.fY).toNat) (by omega) (by omega)) rfl rfl ?_)) | refine sP ?_ | refine sD ?_ | (refine ret_pick [] rfl rfl rfl ⟨?_, rfl⟩; conv => lhs; whnf)))
      all_goals rfl
  · have hlo : lonV v = arcA v.fY v.fX := by unfold lonV; rw [if_neg hz]
    by_cases hbig : 90000 < latR v
    · have hla : latV v = latR v - 360000 := by unfold latV; rw [if_pos hbig]
      rw [hlo, hla]
      unfold latR at hbig ⊢
      refine fn_rule Tryz.func212 rfl (by decide +kernel) rfl (fun w0 F0 lent β0 => ?_)
      repeat' (first | refine sC ?_ | ((with_reducible refine isAwp ?_); first | (refine sS ?_; intro Q' hn he hr) | refine sA ?_) | (refine sH ?_; clear hn he hr Q') | refine sO ?_ | ((conv => whnf); first | refine sK ?_ | (refine sB ?_; repeat' (first | refine sb0 ?_ | (refine sb2 ?_ ?_ <;> intro hb <;> try exact cls))) | (refine ArithS.to ((v.fX * v.fX + v.fY * v.fY).toNat : Int) hs1 (wrap64 (by omega)) ?_) | ((with_reducible refine isCall ?_); first | (refine call_pure (c_impl_ArcTangent_any v.fY v.fX (by omega) (by omega)) rfl rfl ?_) | (refine call_pure (FnC.anyG (c_impl_NormalAngle _ (by unfold i64B; omega))) rfl rfl ?_)) | ((with_reducible refine isCallQ ?_); first | (refine callQ_pure (FnC.anyG (c_impl_RootOf _ (by omega))) rfl rfl ?_) | (refine callQ_pure (c_impl_ArcTangent_any v.fZ (rootN (v.fX * v.fX + v.fY * v.fY).toNat) (by omega) (by omega)) rfl rfl ?_)) | refine sP ?_ | refine sD ?_ | (refine ret_pick [] rfl rfl rfl ⟨?_, rfl⟩; conv => lhs; whnf)))
      all_goals rfl
    · have hla : latV v = latR v := by unfold latV; rw [if_neg hbig]
      rw [hlo, hla]
      unfold latR at hbig ⊢
      refine fn_rule Tryz.func212 rfl (by decide +kernel) rfl (fun w0 F0 lent β0 => ?_)
      repeat' (first | refine sC ?_ | ((with_reducible refine isAwp ?_); first | (refine sS ?_; intro Q' hn he hr) | refine sA ?_) | (refine sH ?_; clear hn he hr Q') | refine sO ?_ | ((conv => whnf); first | refine sK ?_ | (refine sB ?_; repeat' (first | refine sb0 ?_ | (refine sb2 ?_ ?_ <;> intro hb <;> try exact cls))) | (refine ArithS.to ((v.fX * v.fX + v.fY * v.fY).toNat : Int) hs1 (wrap64 (by omega)) ?_) | ((with_reducible refine isCall ?_); first | (refine call_pure (c_impl_ArcTangent_any v.fY v.fX (by omega) (by omega)) rfl rfl ?_) | (refine call_pure (FnC.anyG (c_impl_NormalAngle _ (by unfold i64B; omega))) rfl rfl ?_)) | ((with_reducible refine isCallQ ?_); first | (refine callQ_pure (FnC.anyG (c_impl_RootOf _ (by omega))) rfl rfl ?_) | (refine callQ_pure (c_impl_ArcTangent_any v.fZ (rootN (v.fX * v.fX + v.fY * v.fY).toNat) (by omega) (by omega)) rfl rfl ?_)) | refine sP ?_ | refine sD ?_ | (refine ret_pick [] rfl rfl rfl ⟨?_, rfl⟩; conv => lhs; whnf)))
      all_goals rfl
set_option maxHeartbeats 4000000 in
theorem c_spec_l04Angles (v : TVector) (hv : vecB 60000 v) : FnC Tryz.prog 254 G0 0 [] [.agg (encVector v)] (fun d os => d = .tup [.int .i64 (lonV v), .int .i64 (latV v)] ∧ os = []) := by
  obtain ⟨hs1, hs2⟩ := sqR hv
  have hrs := root_small hs2
  have hab := arcA_bound v.fY v.fX
  have hlb := arcA_bound v.fZ (rootN (v.fX * v.fX + v.fY * v.fY).toNat)
  obtain ⟨b1, b2, b3⟩ := hv
  have m1 := mul_bound b1 b1 (by omega)
  have m2 := mul_bound b2 b2 (by omega)
  by_cases hz : v.fX = 0 ∧ v.fY = 0
  · have hlo : lonV v = 0 := by unfold lonV; rw [if_pos hz]
    by_cases hbig : 90000 < latR v
    · have hla : latV v = latR v - 360000 := by unfold latV; rw [if_pos hbig]
      rw [hlo, hla]
      unfold latR at hbig ⊢
      refine fn_rule Tryz.func254 rfl (by decide +kernel) rfl (fun w0 F0 lent β0 => ?_)
      repeat' (first | refine sC ?_ | ((with_reducible refine isAwp ?_); first | (refine sS ?_; intro Q' hn he hr) | refine sA ?_) | (refine sH ?_; clear hn he hr Q') | refine sO ?_ | ((conv => whnf); first | refine sK ?_ | (refine sB ?_; repeat' (first | refine sb0 ?_ | (refine sb2 ?_ ?_ <;> intro hb <;> try exact cls))) | (refine ArithS.to ((v.fX * v.fX + v.fY * v.fY).toNat : Int) hs1 (wrap64 (by omega)) ?_) | ((with_reducible refine isCallQ ?_); first | (refine callQ_pure (c_spec_l01Root _ (by omega)) rfl rfl ?_) | (refine callQ_pure (c_spec_l02Arc v.fZ (rootN (v.fX * v.fX + v.fY * v.fY).toNat) (by omega) (by omega)) rfl rfl ?_)) | refine sP ?_ | refine sD ?_ | (refine ret_pick [] rfl rfl rfl ⟨?_, rfl⟩; conv => lhs; whnf)))
      all_goals rfl
    · have hla : latV v = latR v := by unfold latV; rw [if_neg hbig]
      rw [hlo, hla]
      unfold latR at hbig ⊢
      refine fn_rule Tryz.func254 rfl (by decide +kernel) rfl (fun w0 F0 lent β0 => ?_)
      repeat' (first | refine sC ?_ | ((with_reducible refine isAwp ?_); first | (refine sS ?_; intro Q' hn he hr) | refine sA ?_) | (refine sH ?_; clear hn he hr Q') | refine sO ?_ | ((conv => whnf); first | refine sK ?_ | (refine sB ?_; repeat' (first | refine sb0 ?_ | (refine sb2 ?_ ?_ <;> intro hb <;> try exact cls))) | (refine ArithS.to ((v.fX * v.fX + v.fY * v.fY).toNat : Int) hs1 (wrap64 (by omega)) ?_) | ((with_reducible refine isCallQ ?_); first | (refine callQ_pure (c_spec_l01Root _ (by omega)) rfl rfl ?_) | (refine callQ_pure (c_spec_l02Arc v.fZ (rootN (v.fX * v.fX + v.fY * v.fY).toNat) (by omega) (by omega)) rfl rfl ?_)) | refine sP ?_ | refine sD ?_ | (refine ret_pick [] rfl rfl rfl ⟨?_, rfl⟩; conv => lhs; whnf)))
      all_goals rfl
  · have hlo : lonV v = arcA v.fY v.fX := by unfold lonV; rw [if_neg hz]
    by_cases hbig : 90000 < latR v
    · have hla : latV v = latR v - 360000 := by unfold latV; rw [if_pos hbig]
      rw [hlo, hla]
      unfold latR at hbig ⊢
      refine fn_rule Tryz.func254 rfl (by decide +kernel) rfl (fun w0 F0 lent β0 => ?_)
      repeat' (first | refine sC ?_ | ((with_reducible refine isAwp ?_); first | (refine sS ?_; intro Q' hn he hr) | refine sA ?_) | (refine sH ?_; clear hn he hr Q') | refine sO ?_ | ((conv => whnf); first | refine sK ?_ | (refine sB ?_; repeat' (first | refine sb0 ?_ | (refine sb2 ?_ ?_ <;> intro hb <;> try exact cls))) | (refine ArithS.to ((v.fX * v.fX + v.fY * v.fY).toNat : Int) hs1 (wrap64 (by omega)) ?_) | ((with_reducible refine isCall ?_); (refine call_pure (c_spec_l02Arc v.fY v.fX (by omega) (by omega)) rfl rfl ?_)) | ((with_reducible refine isCallQ ?_); first | (refine callQ_pure (c_spec_l01Root _ (by omega)) rfl rfl ?_) | (refine callQ_pure (c_spec_l02Arc v.fZ (rootN (v.fX * v.fX + v.fY * v.fY).toNat) (by omega) (by omega)) rfl rfl ?_)) | refine sP ?_ | refine sD ?_ | (refine ret_pick [] rfl rfl rfl ⟨?_, rfl⟩; conv => lhs; whnf)))
      all_goals rfl
    · have hla : latV v = latR v := by unfold latV; rw [if_neg hbig]
      rw [hlo, hla]
      unfold latR at hbig ⊢
      refine fn_rule Tryz.func254 rfl (by decide +kernel) rfl (fun w0 F0 lent β0 => ?_)
      repeat' (first | refine sC ?_ | ((with_reducible refine isAwp ?_); first | (refine sS ?_; intro Q' hn he hr) | refine sA ?_) | (refine sH ?_; clear hn he hr Q') | refine sO ?_ | ((conv => whnf); first | refine sK ?_ | (refine sB ?_; repeat' (first | refine sb0 ?_ | (refine sb2 ?_ ?_ <;> intro hb <;> try exact cls))) | (refine ArithS.to ((v.fX * v.fX + v.fY * v.fY).toNat : Int) hs1 (wrap64 (by omega)) ?_) | ((with_reducible refine isCall ?_); (refine call_pure (c_spec_l02Arc v.fY v.fX (by omega) (by omega)) rfl rfl ?_)) | ((with_reducible refine isCallQ ?_); first | (refine callQ_pure (c_spec_l01Root _ (by omega)) rfl rfl ?_) | (refine callQ_pure (c_spec_l02Arc v.fZ (rootN (v.fX * v.fX + v.fY * v.fY).toNat) (by omega) (by omega)) rfl rfl ?_)) | refine sP ?_ | refine sD ?_ | (refine ret_pick [] rfl rfl rfl ⟨?_, rfl⟩; conv => lhs; whnf)))
      all_goals rfl
theorem lonV_bound (v : TVector) : 0 ≤ lonV v ∧ lonV v ≤ 360000 := by
  unfold lonV
  split
  · omega
  · exact arcA_bound _ _
theorem latV_bound (v : TVector) : -360000 ≤ latV v ∧ latV v ≤ 360000 := by
  have h := arcA_bound v.fZ (rootN (v.fX * v.fX + v.fY * v.fY).toNat)
  unfold latV latR
  split <;> omega
set_option maxHeartbeats 4000000 in
theorem c_spec_l09View (d : TDome) (r : List D) (v : TVector) (a h : Int) (hd : domB d = true) (hv : vecB 30000 v) (ha : 0 ≤ a ∧ a ≤ 360000) (hh : 0 ≤ h ∧ h ≤ 90000) : FnC Tryz.prog 220 G0 0 [] [.rp (encDome d ++ r), .agg (encVector v), .int .i64 a, .int .i64 h] (fun e os => e = .tup [.int .i64 ((90000 - lonV (viewV d v a h)) % 360000), .int .i64 (latV (viewV d v a h)), .int .i64 (lenV (viewV d v a h))] ∧ os = []) := by
  have hvb := viewV_bound hd hv a h
  have hlb := lonV_bound (viewV d v a h)
  obtain ⟨b1, b2, b3⟩ := pointV_bound hd a h
  obtain ⟨c1, c2, c3⟩ := hv
  have ca := c_spec_l04Angles (viewV d v a h) hvb
  have cl := c_spec_l04Length (viewV d v a h) (vecB_more hvb (by omega))
  refine fn_rule Tryz.func220 rfl (by decide +kernel) rfl (fun w0 F0 lent β0 => ?_)
  repeat' (first | refine sC ?_ | ((with_reducible refine isAwp ?_); first | (refine sS ?_; intro Q' hn he hr) | refine sA ?_) | (refine sH ?_; clear hn he hr Q') | refine sO ?_ | ((conv => whnf); first | refine sK ?_ | ((with_reducible refine isCall ?_); first | (refine call_pure (c_spec_l09Point d r a h hd ha hh) rfl rfl ?_) | (refine call_pure (ca) rfl rfl ?_)) | ((with_reducible refine isCallQ ?_); first | (refine callQ_pure (cl) rfl rfl ?_) | (refine callQ_pure (c_spec_l02Normal (90000 - lonV (viewV d v a h)) (by unfold i64B; omega)) rfl rfl ?_)) | refine sP ?_ | refine sD ?_ | (refine ret_pick [] rfl rfl rfl ⟨?_, rfl⟩; conv => lhs; whnf)))
  all_goals rfl
theorem c_spec_l09Apart (a h x y : Int) (h1 : i64B a) (h2 : i64B h) (h3 : i64B x) (h4 : i64B y) : FnC Tryz.prog 221 G0 0 [] [.int .i64 a, .int .i64 h, .int .i64 x, .int .i64 y] (fun d os => d = .int .i64 (awayV (dirV a h) (dirV x y)) ∧ os = []) := by
  refine fn_rule Tryz.func221 rfl (by decide +kernel) rfl (fun w0 F0 lent β0 => ?_)
  repeat' (first | refine sC ?_ | ((with_reducible refine isAwp ?_); first | (refine sS ?_; intro Q' hn he hr) | refine sA ?_) | (refine sH ?_; clear hn he hr Q') | ((conv => whnf); first | refine sK ?_ | ((with_reducible refine isCall ?_); first | (refine call_pure (c_spec_l04Direction a h h1 h2) rfl rfl ?_) | (refine call_pure (c_spec_l04Direction x y h3 h4) rfl rfl ?_) | (refine call_pure (c_spec_l04Away (dirV a h) (dirV x y) (dirV_bound _ _) (dirV_bound _ _)) rfl rfl ?_)) | (refine ret_pick [] rfl rfl rfl ⟨?_, rfl⟩; conv => lhs; whnf)))
  all_goals rfl
end Go.Eng
