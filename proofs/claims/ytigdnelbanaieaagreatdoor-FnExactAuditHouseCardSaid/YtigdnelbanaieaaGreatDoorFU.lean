/-
  The worst view of a seat, scores, and the findings of the seats: the contracts of the program's functions and of the reference's.
  No conditions.
-/
import Derived.Test.YtigdnelbanaieaaGreatDoorED
import Derived.Test.YtigdnelbanaieaaGreatDoorFY
set_option linter.unusedVariables false
set_option linter.unusedSimpArgs false
set_option maxHeartbeats 4000000
namespace Go.Eng
open Go Go.RowKit Go.Proofs
set_option maxRecDepth 100000
theorem max_bif (w e : Int) : (bif true then if e > w then e else w else if e < w then e else w) = max w e := by
  show (if e > w then e else w) = max w e
  split <;> omega
set_option maxHeartbeats 8000000 in
theorem c_impl_WorstView (d : TDome) (v : TVector) (hd : domB d = true) (hv2 : vecB 30000 v) (hv3 : insideB d v = true) : FnC Tryz.prog 169 GS 0 [] [.agg (encDome d), .agg (encVector v), .int .i64 45000] (fun e os => e = .tup [.int .i64 (worstV d v), .int .i64 0] ∧ os = []) := by
  have hv : inB 45000 15000 90000 = true := by decide
  refine fn_rule Tryz.func169 rfl (by decide +kernel) rfl (fun w0 F0 lent β0 => ?_)
  repeat' (first | refine sC ?_ | ((with_reducible refine isAwp ?_); first | (refine sS ?_; intro Q' hn he hr) | refine sA ?_) | (refine sH ?_; clear hn he hr Q') | ((conv => whnf); first | refine sK ?_ | (refine sB ?_; repeat' (refine sb2 ?_ ?_ <;> intro hb <;> try exact cls)) | ((with_reducible refine isCall ?_); first | (refine call_pure ((c_impl_ValidDome d).anyG) rfl rfl ?_) | (refine call_pure (FnC.anyG (c_within _ _ _)) rfl rfl ?_) | (refine call_pure ((c_impl_isInside d v hd hv2).anyG) rfl rfl ?_)) | (refine ret_pick [] rfl rfl rfl ⟨?_, rfl⟩; conv => lhs; whnf)))
  · exfalso
    have h9 := hd.symm.trans (by assumption : domB d = false)
    cases h9
  refine loop_env3 (fun (m : Nat) (a : Int) (w : Int) => [(2,.int .i64 45000),(3,.hp 0 0),(4,.hp 1 0),(8,.int .i64 w),(9,.int .i64 a)]) (fun m a w => [.box (encDome d), .box (encVector v)]) (fun m a w => worstJ d v m a w = worstV d v ∧ 360000 ≤ a + 45000 * m ∧ (0 ≤ a ∧ a ≤ 405000) ∧ (0 ≤ w ∧ w ≤ 360000)) (fun m a w => m) 9 0 0 ⟨rfl, by omega, by omega, by omega⟩ (by refine weak_to rfl rfl rfl ?_; ((repeat' (first | exact trivial | refine And.intro ?_ ?_)) <;> (first | rfl | (conv => rhs; whnf) <;> (first | rfl | (refine congrArg (D.int _) ?_; omega))))) (fun m a w hk Q' hn he hr => ?_)
  obtain ⟨hk1, hk2, hk3, hk4⟩ := hk
  by_cases haa : a < 360000
  · obtain ⟨m', rfl⟩ : ∃ m', m = m' + 1 := ⟨m - 1, by omega⟩
    rw [worstJ_go haa] at hk1
    repeat' (first | refine sC ?_ | ((with_reducible refine isAwp ?_); first | (refine sS ?_; intro Q' hn he hr) | refine sA ?_) | (refine sH ?_; clear hn he hr Q') | ((conv => whnf); first | refine sK ?_ | (refine sB ?_; repeat' (refine sb2 ?_ ?_ <;> intro hb <;> try exact cls))))
    refine loop_env3 (fun (n : Nat) (h : Int) (w : Int) => [(2,.int .i64 45000),(3,.hp 0 0),(4,.hp 1 0),(8,.int .i64 w),(9,.int .i64 a),(10,.int .i64 h)]) (fun n h w => [.box (encDome d), .box (encVector v)]) (fun n h w => worstJ d v m' (a + 45000) (worstI d v a n h w) = worstV d v ∧ 90000 < h + 45000 * n ∧ (0 ≤ h ∧ h ≤ 135000) ∧ (0 ≤ w ∧ w ≤ 360000)) (fun n h w => n) 4 0 w ⟨hk1, by omega, by omega, by omega⟩ (by refine weak_to rfl rfl rfl ?_; ((repeat' (first | exact trivial | refine And.intro ?_ ?_)) <;> (first | rfl | (conv => rhs; whnf) <;> (first | rfl | (refine congrArg (D.int _) ?_; omega))))) (fun n h w hj Q' hn he hr => ?_)
    obtain ⟨hj1, hj2, hj3, hj4⟩ := hj
    by_cases hh : h ≤ 90000
    · obtain ⟨n', rfl⟩ : ∃ n', n = n' + 1 := ⟨n - 1, by omega⟩
      rw [worstI_go hh] at hj1
      have heb := errV_bound d v a h
      have hlb := lonV_bound (viewV d v a h)
      have hla := latV_bound (viewV d v a h)
      repeat' (first | refine sC ?_ | ((with_reducible refine isAwp ?_); first | (refine sS ?_; intro Q' hn he hr) | refine sA ?_) | (refine sH ?_; clear hn he hr Q') | ((conv => whnf); first | refine sK ?_ | (refine sB ?_; repeat' (refine sb2 ?_ ?_ <;> intro hb <;> try exact cls)) | ((with_reducible refine isCall ?_); first | (refine call_pure (c_impl_viewOf d v a h hd hv2 (by omega) (by omega)) rfl rfl ?_) | (refine call_pure (c_impl_domeAngles (viewV d v a h) (viewV_bound hd hv2 a h)) rfl rfl ?_) | (refine call_pure (c_impl_directionOf a h (by unfold i64B; omega) (by unfold i64B; omega)) rfl rfl ?_) | (refine call_pure (c_impl_directionOf ((90000 - lonV (viewV d v a h)) % 360000) (latV (viewV d v a h)) (by unfold i64B; omega) (by unfold i64B; omega)) rfl rfl ?_) | (refine call_pure (c_impl_Separation (dirV a h) (dirV ((90000 - lonV (viewV d v a h)) % 360000) (latV (viewV d v a h))) (dirV_bound _ _) (dirV_bound _ _)) rfl rfl ?_)) | refine sP ?_))
      refine ⟨n', h + 45000, max w (errV d v a h), ⟨hj1, by omega, by omega, by omega⟩, by omega, ?_⟩
      exact (by refine weak_to rfl rfl rfl ?_; ((repeat' (first | exact trivial | refine And.intro ?_ ?_)) <;> (first | rfl | (conv => rhs; whnf) <;> (first | rfl | exact (congrArg (D.int _) (max_bif w (errV d v a h))).symm | (refine congrArg (D.int _) ?_; omega)))))
    · rw [worstI_end hh] at hj1
      repeat' (first | refine sC ?_ | ((with_reducible refine isAwp ?_); first | (refine sS ?_; intro Q' hn he hr) | refine sA ?_) | (refine sH ?_; clear hn he hr Q') | ((conv => whnf); first | refine sK ?_ | (refine sB ?_; repeat' (refine sb2 ?_ ?_ <;> intro hb <;> try exact cls)) | refine sP ?_ | (refine sH ?_; clear hn he hr Q')))
      exact ⟨m', a + 45000, w, ⟨hj1, by omega, by omega, by omega⟩, by omega, (by refine weak_to rfl rfl rfl ?_; ((repeat' (first | exact trivial | refine And.intro ?_ ?_)) <;> (first | rfl | (conv => rhs; whnf) <;> (first | rfl | (refine congrArg (D.int _) ?_; omega)))))⟩
  · rw [worstJ_end haa] at hk1
    subst hk1
    repeat' (first | refine sC ?_ | ((with_reducible refine isAwp ?_); first | (refine sS ?_; intro Q' hn he hr) | refine sA ?_) | (refine sH ?_; clear hn he hr Q') | ((conv => whnf); first | refine sK ?_ | (refine sB ?_; repeat' (refine sb2 ?_ ?_ <;> intro hb <;> try exact cls)) | (refine ret_pick [] rfl rfl rfl ⟨?_, rfl⟩; conv => lhs; whnf) | (refine sH ?_; clear hn he hr Q')))
    all_goals rfl
set_option maxHeartbeats 8000000 in
theorem c_spec_l09Worst (d : TDome) (r : List D) (v : TVector) (hd : domB d = true) (hv2 : vecB 30000 v) : FnC Tryz.prog 189 G0 0 [] [.rp (encDome d ++ r), .agg (encVector v), .int .i64 45000] (fun e os => e = .int .i64 (worstV d v) ∧ os = []) := by
  refine fn_rule Tryz.func189 rfl (by decide +kernel) rfl (fun w0 F0 lent β0 => ?_)
  repeat' (first | refine sC ?_ | ((with_reducible refine isAwp ?_); first | (refine sS ?_; intro Q' hn he hr) | refine sA ?_) | (refine sH ?_; clear hn he hr Q') | ((conv => whnf); refine sK ?_))
  refine loop_env3 (fun (m : Nat) (a : Int) (w : Int) => [(0,.rp (encDome d ++ r)),(2,.int .i64 45000),(4,.hp 0 0),(7,.int .i64 w),(8,.int .i64 a)]) (fun m a w => [.box (encVector v)]) (fun m a w => worstJ d v m a w = worstV d v ∧ 360000 ≤ a + 45000 * m ∧ (0 ≤ a ∧ a ≤ 405000) ∧ (0 ≤ w ∧ w ≤ 360000)) (fun m a w => m) 9 0 0 ⟨rfl, by omega, by omega, by omega⟩ (by refine weak_to rfl rfl rfl ?_; ((repeat' (first | exact trivial | refine And.intro ?_ ?_)) <;> (first | rfl | (conv => rhs; whnf) <;> (first | rfl | (refine congrArg (D.int _) ?_; omega))))) (fun m a w hk Q' hn he hr => ?_)
  obtain ⟨hk1, hk2, hk3, hk4⟩ := hk
  by_cases haa : a < 360000
  · obtain ⟨m', rfl⟩ : ∃ m', m = m' + 1 := ⟨m - 1, by omega⟩
    rw [worstJ_go haa] at hk1
    repeat' (first | refine sC ?_ | ((with_reducible refine isAwp ?_); first | (refine sS ?_; intro Q' hn he hr) | refine sA ?_) | (refine sH ?_; clear hn he hr Q') | ((conv => whnf); first | refine sK ?_ | (refine sB ?_; repeat' (refine sb2 ?_ ?_ <;> intro hb <;> try exact cls))))
    refine loop_env3 (fun (n : Nat) (h : Int) (w : Int) => [(0,.rp (encDome d ++ r)),(2,.int .i64 45000),(4,.hp 0 0),(7,.int .i64 w),(8,.int .i64 a),(9,.int .i64 h)]) (fun n h w => [.box (encVector v)]) (fun n h w => worstJ d v m' (a + 45000) (worstI d v a n h w) = worstV d v ∧ 90000 < h + 45000 * n ∧ (0 ≤ h ∧ h ≤ 135000) ∧ (0 ≤ w ∧ w ≤ 360000)) (fun n h w => n) 4 0 w ⟨hk1, by omega, by omega, by omega⟩ (by refine weak_to rfl rfl rfl ?_; ((repeat' (first | exact trivial | refine And.intro ?_ ?_)) <;> (first | rfl | (conv => rhs; whnf) <;> (first | rfl | (refine congrArg (D.int _) ?_; omega))))) (fun n h w hj Q' hn he hr => ?_)
    obtain ⟨hj1, hj2, hj3, hj4⟩ := hj
    by_cases hh : h ≤ 90000
    · obtain ⟨n', rfl⟩ : ∃ n', n = n' + 1 := ⟨n - 1, by omega⟩
      rw [worstI_go hh] at hj1
      have heb := errV_bound d v a h
      have hlb := lonV_bound (viewV d v a h)
      have hla := latV_bound (viewV d v a h)
      repeat' (first | refine sC ?_ | ((with_reducible refine isAwp ?_); first | (refine sS ?_; intro Q' hn he hr) | refine sA ?_) | (refine sH ?_; clear hn he hr Q') | ((conv => whnf); first | refine sK ?_ | (refine sB ?_; repeat' (refine sb2 ?_ ?_ <;> intro hb <;> try exact cls)) | ((with_reducible refine isCall ?_); first | (refine call_pure (c_spec_l09View d r v a h hd hv2 (by omega) (by omega)) rfl rfl ?_) | (refine call_pure (c_spec_l09Apart a h ((90000 - lonV (viewV d v a h)) % 360000) (latV (viewV d v a h)) (by unfold i64B; omega) (by unfold i64B; omega) (by unfold i64B; omega) (by unfold i64B; omega)) rfl rfl ?_) | (refine call_pure (c_l00Max _ _) rfl rfl ?_)) | refine sP ?_))
      refine ⟨n', h + 45000, max w (errV d v a h), ⟨hj1, by omega, by omega, by omega⟩, by omega, ?_⟩
      exact (by refine weak_to rfl rfl rfl ?_; ((repeat' (first | exact trivial | refine And.intro ?_ ?_)) <;> (first | rfl | (conv => rhs; whnf) <;> (first | rfl | (refine congrArg (D.int _) ?_; omega)))))
    · rw [worstI_end hh] at hj1
      repeat' (first | refine sC ?_ | ((with_reducible refine isAwp ?_); first | (refine sS ?_; intro Q' hn he hr) | refine sA ?_) | (refine sH ?_; clear hn he hr Q') | ((conv => whnf); first | refine sK ?_ | (refine sB ?_; repeat' (refine sb2 ?_ ?_ <;> intro hb <;> try exact cls)) | refine sP ?_ | (refine sH ?_; clear hn he hr Q')))
      exact ⟨m', a + 45000, w, ⟨hj1, by omega, by omega, by omega⟩, by omega, (by refine weak_to rfl rfl rfl ?_; ((repeat' (first | exact trivial | refine And.intro ?_ ?_)) <;> (first | rfl | (conv => rhs; whnf) <;> (first | rfl | (refine congrArg (D.int _) ?_; omega)))))⟩
  · rw [worstJ_end haa] at hk1
    subst hk1
    repeat' (first | refine sC ?_ | ((with_reducible refine isAwp ?_); first | (refine sS ?_; intro Q' hn he hr) | refine sA ?_) | (refine sH ?_; clear hn he hr Q') | ((conv => whnf); first | refine sK ?_ | (refine sB ?_; repeat' (refine sb2 ?_ ?_ <;> intro hb <;> try exact cls)) | (refine ret_pick [] rfl rfl rfl ⟨?_, rfl⟩; conv => lhs; whnf) | (refine sH ?_; clear hn he hr Q')))
theorem score_no {d : TDome} {v : TVector} (h : insideB d v = false) : scoreV d v = 0 := by unfold scoreV; rw [h]; rfl
theorem score_yes {d : TDome} {v : TVector} (h : insideB d v = true) : scoreV d v = max 0 (1000 - (worstV d v).tdiv 90) := by unfold scoreV; rw [if_pos h]
theorem worst_quo (d : TDome) (v : TVector) : 0 ≤ (worstV d v).tdiv 90 ∧ (worstV d v).tdiv 90 ≤ 4000 := by
  have h := worstV_bound d v
  rw [Int.tdiv_eq_ediv_of_nonneg h.1]
  omega
set_option maxHeartbeats 4000000 in
theorem c_impl_seatScore (d : TDome) (R : List TRing) (k : Int) (hd : domB d = true) (hR : ringsB R = true) (h0 : 0 ≤ k) (h1 : k < sumC R) : FnC Tryz.prog 106 GS 0 [] [.agg (encDome d), .sl 5 (R.map encRing), .int .i64 k] (fun e os => e = .int .i64 (scoreV d (placeV R k)) ∧ os = []) := by
  have hpb := placeV_bound hR h0 h1
  have hq := worst_quo d (placeV R k)
  cases hv : insideB d (placeV R k) with
  | false =>
    rw [score_no hv]
    refine fn_rule Tryz.func106 rfl (by decide +kernel) rfl (fun w0 F0 lent β0 => ?_)
    repeat' (first | refine sC ?_ | ((with_reducible refine isAwp ?_); first | (refine sS ?_; intro Q' hn he hr) | refine sA ?_) | (refine sH ?_; clear hn he hr Q') | ((conv => whnf); first | refine sK ?_ | (refine sB ?_; repeat' (refine sb2 ?_ ?_ <;> intro hb <;> try exact cls)) | ((with_reducible refine isCall ?_); first | (refine call_pure (c_impl_seatPlace R k hR h0 h1) rfl rfl ?_) | (refine call_pure ((c_impl_isInside d (placeV R k) hd hpb).anyG) rfl rfl ?_)) | (refine ret_pick [] rfl rfl rfl ⟨?_, rfl⟩; conv => lhs; whnf)))
  | true =>
    rw [score_yes hv]
    refine fn_rule Tryz.func106 rfl (by decide +kernel) rfl (fun w0 F0 lent β0 => ?_)
    repeat' (first | refine sC ?_ | ((with_reducible refine isAwp ?_); first | (refine sS ?_; intro Q' hn he hr) | refine sA ?_) | (refine sH ?_; clear hn he hr Q') | ((conv => whnf); first | refine sK ?_ | (refine sB ?_; repeat' (refine sb2 ?_ ?_ <;> intro hb <;> try exact cls)) | (refine AskS.mk ⟨by omega, ?_⟩) | (refine ArithS.in64 (by omega) ?_) | ((with_reducible refine isCall ?_); first | (refine call_pure (c_impl_seatPlace R k hR h0 h1) rfl rfl ?_) | (refine call_pure ((c_impl_isInside d (placeV R k) hd hpb).anyG) rfl rfl ?_) | (refine call_pure (c_impl_WorstView d (placeV R k) hd hpb hv) rfl rfl ?_)) | (refine ret_pick [] rfl rfl rfl ⟨?_, rfl⟩; conv => lhs; whnf)))
    all_goals exact congrArg (D.int _) (max_bif 0 _)
set_option maxHeartbeats 4000000 in
theorem c_spec_l23Score (d : TDome) (r : List D) (R : List TRing) (k : Int) (hd : domB d = true) (hR : ringsB R = true) (h0 : 0 ≤ k) (h1 : k < sumC R) : FnC Tryz.prog 140 G0 0 [] [.rp (encDome d ++ r), .agg (encVector (placeV R k))] (fun e os => e = .int .i64 (scoreV d (placeV R k)) ∧ os = []) := by
  have hpb := placeV_bound hR h0 h1
  have hq := worst_quo d (placeV R k)
  cases hv : insideB d (placeV R k) with
  | false =>
    rw [score_no hv]
    refine fn_rule Tryz.func140 rfl (by decide +kernel) rfl (fun w0 F0 lent β0 => ?_)
    repeat' (first | refine sC ?_ | ((with_reducible refine isAwp ?_); first | (refine sS ?_; intro Q' hn he hr) | refine sA ?_) | (refine sH ?_; clear hn he hr Q') | ((conv => whnf); first | refine sK ?_ | (refine sB ?_; repeat' (refine sb2 ?_ ?_ <;> intro hb <;> try exact cls)) | ((with_reducible refine isCall ?_); (refine call_pure (c_spec_l09Seat d r (placeV R k) hd hpb) rfl rfl ?_)) | (refine ret_pick [] rfl rfl rfl ⟨?_, rfl⟩; conv => lhs; whnf)))
  | true =>
    rw [score_yes hv]
    refine fn_rule Tryz.func140 rfl (by decide +kernel) rfl (fun w0 F0 lent β0 => ?_)
    repeat' (first | refine sC ?_ | ((with_reducible refine isAwp ?_); first | (refine sS ?_; intro Q' hn he hr) | refine sA ?_) | (refine sH ?_; clear hn he hr Q') | ((conv => whnf); first | refine sK ?_ | (refine sB ?_; repeat' (refine sb2 ?_ ?_ <;> intro hb <;> try exact cls)) | (refine AskS.mk ⟨by omega, ?_⟩) | (refine ArithS.in64 (by omega) ?_) | ((with_reducible refine isCall ?_); first | (refine call_pure (c_spec_l09Seat d r (placeV R k) hd hpb) rfl rfl ?_) | (refine call_pure (c_spec_l09Worst d r (placeV R k) hd hpb) rfl rfl ?_) | (refine call_pure (c_l00Max _ _) rfl rfl ?_)) | (refine ret_pick [] rfl rfl rfl ⟨?_, rfl⟩; conv => lhs; whnf)))
    all_goals rfl
theorem houseB_seat {h : THouse} (hv : houseB h = true) : domB h.fDome = true ∧ ringsB h.fRings = true ∧ idxsB (sumC h.fRings) h.fBooked = true ∧ 0 ≤ h.fLeast ∧ h.fLeast ≤ 1000 := by
  simp only [houseB, inB, Bool.and_eq_true, decide_eq_true_eq] at hv
  exact ⟨hv.1, hv.2.2.1, hv.2.2.2.1, hv.2.2.2.2.2.2.2.2.2.2.1⟩
theorem listOk_next {α : Type} {p : α → Bool} {lt : α → α → Bool} {a : List α} (h : listOk p lt a = true) {k : Nat} {x y : α} (hx : a[k]? = some x) (hy : a[k + 1]? = some y) : lt x y = true := by
  simp only [listOk, Bool.and_eq_true, chain_iff] at h
  exact h.2 k x y hx hy
theorem rises_len {n m : Int} : ∀ {B : List Int}, listOk (fun k => inB k m (n - 1)) ltI B = true → (B.length : Int) ≤ max 0 (n - m) := by
  intro B hb
  have h : ∀ (j : Nat) (k : Int), B[j]? = some k → m + j ≤ k := by
    intro j
    induction j with
    | zero =>
      intro k hk
      have h3 := listOk_at hb hk
      simp only [inB, decide_eq_true_eq] at h3
      omega
    | succ j ih =>
      intro k hk
      have hj : j + 1 < B.length := (List.getElem?_eq_some_iff.1 hk).1
      obtain ⟨y, hy⟩ : ∃ y, B[j]? = some y := ⟨_, List.getElem?_eq_getElem (by omega)⟩
      have h4 := ih y hy
      have h5 := listOk_next hb hy hk
      simp only [ltI, decide_eq_true_eq] at h5
      omega
  rcases Nat.eq_zero_or_pos B.length with h0 | h0
  · omega
  · obtain ⟨y, hy⟩ : ∃ y, B[B.length - 1]? = some y := ⟨_, List.getElem?_eq_getElem (by omega)⟩
    have h1 := h _ y hy
    have h3 := listOk_at hb hy
    simp only [inB, decide_eq_true_eq] at h3
    omega
theorem booked_len {h : THouse} (hv : houseB h = true) : h.fBooked.length ≤ 120 := by
  obtain ⟨_, h2, h3, _⟩ := houseB_seat hv
  have h4 := (ringsB_all h2).2.2
  have h5 := rises_len (n := sumC h.fRings) (m := 0) h3
  omega
noncomputable def seatAll (h : THouse) : List TFinding := seatF h h.fBooked.length
set_option maxHeartbeats 8000000 in
theorem c_impl_seatFindings (h : THouse) (hv : houseB h = true) : FnC Tryz.prog 37 GSP 0 [] [.agg (encHouse h)] (fun d os => d = .h 0 ∧ os = [.row 78 3 ((seatAll h).map encFinding)]) := by
  obtain ⟨h1, h2, h3, h4⟩ := houseB_seat hv
  have hbl := booked_len hv
  refine fn_rule Tryz.func37 rfl (by decide +kernel) rfl (fun w0 F0 lent β0 => ?_)
  repeat' (first | refine sC ?_ | ((with_reducible refine isAwp ?_); first | (refine sS ?_; intro Q' hn he hr) | refine sA ?_) | (refine sH ?_; clear hn he hr Q') | ((conv => whnf); first | refine sK ?_ | (refine sL ?_; intro hlen)))
  refine loop_env (fun k : Nat => [(1,.hp 0 0),(3,.h 1),(8,.sl 1 (h.fBooked.map encI)),(9,.int .i64 h.fBooked.length),(10,.int .i64 k)]) (fun k => [.box (encHouse h), .row 78 3 ((seatF h k).map encFinding)]) (fun k => k ≤ h.fBooked.length) (fun k => h.fBooked.length - k) 0 (by omega) (by refine Weak.trans (weak_adopt 3 78 3 rfl rfl) (weak_to rfl rfl rfl ?_); exact ⟨rfl, rfl, rfl, rfl, rfl, trivial⟩) (fun k hk Q' hn he hr => ?_)
  have hml := seatF_len h k
  by_cases hkl : k < h.fBooked.length
  · obtain ⟨x, hx0⟩ : ∃ x, h.fBooked[k]? = some x := ⟨_, List.getElem?_eq_getElem hkl⟩
    obtain ⟨g1, g2⟩ := rings_at h2 h3 hx0
    have hsb := scoreV_bound h.fDome (placeV h.fRings x)
    repeat' (first | refine sC ?_ | ((with_reducible refine isAwp ?_); first | (refine sS ?_; intro Q' hn he hr) | refine sA ?_) | (refine sH ?_; clear hn he hr Q') | ((conv => whnf); first | refine sK ?_ | (refine sB ?_; repeat' (refine sb2 ?_ ?_ <;> intro hb <;> try exact cls)) | (refine ElemS.the hx0 ?_) | ((with_reducible refine isCall ?_); first | (refine call_pure ((c_impl_seatScore h.fDome h.fRings x h1 h2 g1 g2).spS) rfl rfl ?_) | (refine call_pure ((c_impl_seatName h.fRings x h2 g1 g2).spP) rfl rfl ?_) | (refine call_pure ((c_impl_Decimal (scoreV h.fDome (placeV h.fRings x)) (by omega)).spP) rfl rfl ?_)) | refine sP ?_))
    · refine ⟨k + 1, by omega, by omega, ?_⟩
      exact (by refine weak_to rfl rfl (by rw [seatF_yes hx0 (by unfold scoreS; omega), List.map_append]; rfl) ?_; ((repeat' (first | exact trivial | refine And.intro ?_ ?_)) <;> (first | rfl | (conv => rhs; whnf) <;> (first | rfl | (refine congrArg (D.int _) ?_; omega)))))
    · refine ⟨k + 1, by omega, by omega, ?_⟩
      exact (by refine weak_to rfl rfl (by rw [seatF_no hx0 (by unfold scoreS; omega)]; rfl) ?_; ((repeat' (first | exact trivial | refine And.intro ?_ ?_)) <;> (first | rfl | (conv => rhs; whnf) <;> (first | rfl | (refine congrArg (D.int _) ?_; omega)))))
  · obtain rfl : k = h.fBooked.length := by omega
    repeat' (first | refine sC ?_ | ((with_reducible refine isAwp ?_); first | (refine sS ?_; intro Q' hn he hr) | refine sA ?_) | (refine sH ?_; clear hn he hr Q') | ((conv => whnf); first | refine sK ?_ | (refine sB ?_; repeat' (refine sb2 ?_ ?_ <;> intro hb <;> try exact cls)) | ((with_reducible refine isRet ?_); (refine ret_pick [1] rfl rfl rfl ⟨rfl, ?_⟩)) | (refine sH ?_; clear hn he hr Q')))
    all_goals rfl
set_option maxHeartbeats 8000000 in
theorem c_spec_l31Seat (h : THouse) (r : List D) (hv : houseB h = true) : FnC Tryz.prog 77 G0 0 [] [.rp (encHouseR h r)] (fun d os => d = .h 0 ∧ os = [.row 78 3 ((seatAll h).map encFinding)]) := by
  obtain ⟨h1, h2, h3, h4⟩ := houseB_seat hv
  have hbl := booked_len hv
  refine fn_rule Tryz.func77 rfl (by decide +kernel) rfl (fun w0 F0 lent β0 => ?_)
  repeat' (first | refine sC ?_ | ((with_reducible refine isAwp ?_); first | (refine sS ?_; intro Q' hn he hr) | refine sA ?_) | (refine sH ?_; clear hn he hr Q') | ((conv => whnf); refine sK ?_))
  refine loop_env (fun k : Nat => [(0,.rp (encHouseR h r)),(3,.h 0),(4,.int .i64 k)]) (fun k => [.row 78 3 ((seatF h k).map encFinding)]) (fun k => k ≤ h.fBooked.length) (fun k => h.fBooked.length - k) 0 (by omega) (by refine weak_to rfl rfl rfl ?_; ((repeat' (first | exact trivial | refine And.intro ?_ ?_)) <;> (first | rfl | (conv => rhs; whnf) <;> (first | rfl | (refine congrArg (D.int _) ?_; omega))))) (fun k hk Q' hn he hr => ?_)
  have hml := seatF_len h k
  by_cases hkl : k < h.fBooked.length
  · obtain ⟨x, hx0⟩ : ∃ x, h.fBooked[k]? = some x := ⟨_, List.getElem?_eq_getElem hkl⟩
    obtain ⟨g1, g2⟩ := rings_at h2 h3 hx0
    have hsb := scoreV_bound h.fDome (placeV h.fRings x)
    repeat' (first | refine sC ?_ | ((with_reducible refine isAwp ?_); first | (refine sS ?_; intro Q' hn he hr) | refine sA ?_) | (refine sH ?_; clear hn he hr Q') | refine sO ?_ | ((conv => whnf); first | refine sK ?_ | (refine sB ?_; repeat' (refine sb2 ?_ ?_ <;> intro hb <;> try exact cls)) | (refine ElemS.the hx0 ?_) | ((with_reducible refine isCallQ ?_); first | (refine callQ_pure (c_spec_l23Place h.fRings x h2 g1 g2) rfl rfl ?_) | (refine callQ_pure (c_spec_l23Score h.fDome _ h.fRings x h1 h2 g1 g2) rfl rfl ?_) | (refine callQ_pure (c_spec_l23Name h.fRings x h2 g1 g2) rfl rfl ?_) | (refine callQ_pure (c_spec_l01Dec (scoreV h.fDome (placeV h.fRings x)) (by omega)) rfl rfl ?_)) | refine sP ?_ | (refine sL ?_; intro hlen) | refine sD ?_))
    · refine ⟨k + 1, by omega, by omega, ?_⟩
      exact (by refine weak_to rfl rfl (by rw [seatF_yes hx0 (by unfold scoreS; omega), List.map_append]; rfl) ?_; ((repeat' (first | exact trivial | refine And.intro ?_ ?_)) <;> (first | rfl | (conv => rhs; whnf) <;> (first | rfl | (refine congrArg (D.int _) ?_; omega)))))
    · refine ⟨k + 1, by omega, by omega, ?_⟩
      exact (by refine weak_to rfl rfl (by rw [seatF_no hx0 (by unfold scoreS; omega)]; rfl) ?_; ((repeat' (first | exact trivial | refine And.intro ?_ ?_)) <;> (first | rfl | (conv => rhs; whnf) <;> (first | rfl | (refine congrArg (D.int _) ?_; omega)))))
  · obtain rfl : k = h.fBooked.length := by omega
    repeat' (first | refine sC ?_ | ((with_reducible refine isAwp ?_); first | (refine sS ?_; intro Q' hn he hr) | refine sA ?_) | (refine sH ?_; clear hn he hr Q') | ((conv => whnf); first | refine sK ?_ | (refine sB ?_; repeat' (refine sb2 ?_ ?_ <;> intro hb <;> try exact cls)) | ((with_reducible refine isRet ?_); (refine ret_pick [0] rfl rfl rfl ⟨rfl, ?_⟩)) | (refine sL ?_; intro hlen) | (refine sH ?_; clear hn he hr Q')))
    all_goals rfl
end Go.Eng
