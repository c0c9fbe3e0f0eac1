/-
  Weights of projectors, spots that are not lit, the findings of the dome: the contracts of the program's functions and of the reference's.
  No conditions.
-/
import Derived.Test.YtigdnelbanaieaaGreatDoorED
import Derived.Test.YtigdnelbanaieaaGreatDoorFX
import Derived.Test.YtigdnelbanaieaaGreatDoorFM
import Derived.Test.YtigdnelbanaieaaGreatDoorVY
import Derived.Test.YtigdnelbanaieaaGreatDoorLT
import Derived.Test.YtigdnelbanaieaaGreatDoorDT
import Derived.Test.YtigdnelbanaieaaGreatDoorPK
set_option linter.unusedVariables false
set_option linter.unusedSimpArgs false
set_option maxHeartbeats 4000000
namespace Go.Eng
open Go Go.RowKit Go.Proofs
set_option maxRecDepth 100000
theorem projs_all {a : List TProjector} (h : projsB a = true) : a.length ≤ 6 ∧ ∀ (k : Nat) p, a[k]? = some p → projB p = true := by
  simp only [projsB, Bool.and_eq_true, decide_eq_true_eq] at h
  exact ⟨h.1, fun k p hp => listOk_at h.2 hp⟩
set_option maxHeartbeats 4000000 in
theorem c_impl_rawWeight (p : TProjector) (a h : Int) (hp : projB p = true) (ha : i64B a) (hh : i64B h) : FnC Tryz.prog 203 GS 0 [] [.agg (encProjector p), .int .i64 a, .int .i64 h] (fun d os => d = .int .i64 (rawV p (dirV a h)) ∧ os = []) := by
  obtain ⟨h1, h2, h3, h4⟩ := projB_facts hp
  have hd := awayV_bound (dirV p.fAzimuth p.fAltitude) (dirV a h)
  refine fn_rule Tryz.func203 rfl (by decide +kernel) rfl (fun w0 F0 lent β0 => ?_)
  repeat' (first | refine sC ?_ | ((with_reducible refine isAwp ?_); first | (refine sS ?_; intro Q' hn he hr) | refine sA ?_) | (refine sH ?_; clear hn he hr Q') | ((conv => whnf); first | refine sK ?_ | (refine sB ?_; repeat' (refine sb2 ?_ ?_ <;> intro hb <;> try exact cls)) | (refine AskS.mk ⟨by omega, ?_⟩) | (refine ArithS.in64 (by have h9 := rawQ_bound (f := p.fField) (d := awayV (dirV p.fAzimuth p.fAltitude) (dirV a h)) h3 ⟨hd.1, by omega⟩; omega) ?_) | ((with_reducible refine isCall ?_); first | (refine call_pure (c_impl_directionOf p.fAzimuth p.fAltitude (by unfold i64B; omega) (by unfold i64B; omega)) rfl rfl ?_) | (refine call_pure (c_impl_directionOf a h ha hh) rfl rfl ?_) | (refine call_pure (c_impl_Separation (dirV p.fAzimuth p.fAltitude) (dirV a h) (dirV_bound _ _) (dirV_bound _ _)) rfl rfl ?_)) | (refine ret_pick [] rfl rfl rfl ⟨?_, rfl⟩; conv => lhs; whnf)))
  all_goals first
    | (rw [rawV_no (by assumption)]; done)
    | (rw [rawV_yes (by omega)]; done)
set_option maxHeartbeats 4000000 in
theorem c_spec_l10Raw (p : TProjector) (v : TVector) (hp : projB p = true) (hv : vecB 1000000 v) : FnC Tryz.prog 219 G0 0 [] [.rp (encProjector p), .agg (encVector v)] (fun d os => d = .int .i64 (rawV p v) ∧ os = []) := by
  obtain ⟨h1, h2, h3, h4⟩ := projB_facts hp
  have hd := awayV_bound (dirV p.fAzimuth p.fAltitude) v
  refine fn_rule Tryz.func219 rfl (by decide +kernel) rfl (fun w0 F0 lent β0 => ?_)
  repeat' (first | refine sC ?_ | ((with_reducible refine isAwp ?_); first | (refine sS ?_; intro Q' hn he hr) | refine sA ?_) | (refine sH ?_; clear hn he hr Q') | refine sO ?_ | ((conv => whnf); first | refine sK ?_ | (refine sB ?_; repeat' (refine sb2 ?_ ?_ <;> intro hb <;> try exact cls)) | (refine AskS.mk ⟨by omega, ?_⟩) | (refine ArithS.in64 (by have h9 := rawQ_bound (f := p.fField) (d := awayV (dirV p.fAzimuth p.fAltitude) v) h3 ⟨hd.1, by omega⟩; omega) ?_) | ((with_reducible refine isCallQ ?_); first | (refine callQ_pure (c_spec_l04Direction p.fAzimuth p.fAltitude (by unfold i64B; omega) (by unfold i64B; omega)) rfl rfl ?_) | (refine callQ_pure (c_spec_l04Away (dirV p.fAzimuth p.fAltitude) v (dirV_bound _ _) hv) rfl rfl ?_)) | refine sD ?_ | (refine ret_pick [] rfl rfl rfl ⟨?_, rfl⟩; conv => lhs; whnf)))
  all_goals first
    | (rw [rawV_no (by assumption)]; done)
    | (rw [rawV_yes (by omega)]; done)
set_option maxHeartbeats 4000000 in
theorem c_impl_reaching (ps : List TProjector) (a h : Int) (hps : projsB ps = true) (ha : 0 ≤ a ∧ a ≤ 359999) (hh : 0 ≤ h ∧ h ≤ 90000) : FnC Tryz.prog 159 GS 0 [] [.sl 5 (ps.map encProjector), .sl 1 ([a, h].map encI)] (fun d os => d = .int .i64 (reachN ps a h) ∧ os = []) := by
  obtain ⟨hl, hall⟩ := projs_all hps
  refine fn_rule Tryz.func159 rfl (by decide +kernel) rfl (fun w0 F0 lent β0 => ?_)
  repeat' (first | refine sC ?_ | ((with_reducible refine isAwp ?_); first | (refine sS ?_; intro Q' hn he hr) | refine sA ?_) | (refine sH ?_; clear hn he hr Q') | ((conv => whnf); first | refine sK ?_ | (refine sL ?_; intro hlen)))
  refine loop_env (fun k : Nat => [(0,.sl 5 (ps.map encProjector)),(1,.sl 1 ([a, h].map encI)),(5,.int .i64 (reachN (ps.take k) a h)),(8,.sl 5 (ps.map encProjector)),(9,.int .i64 ps.length),(10,.int .i64 k)]) (fun _ => []) (fun k => k ≤ ps.length) (fun k => ps.length - k) 0 (by omega) (by refine weak_to rfl rfl rfl ?_; ((repeat' (first | exact trivial | refine And.intro ?_ ?_)) <;> (first | rfl | (conv => rhs; whnf) <;> (first | rfl | (refine congrArg (D.int _) ?_; omega))))) (fun k hk Q' hn he hr => ?_)
  have hrl := reachN_le (ps.take k) a h
  have htl : (ps.take k).length ≤ 6 := by rw [List.length_take]; omega
  by_cases hkl : k < ps.length
  · obtain ⟨p, hp⟩ : ∃ p, ps[k]? = some p := ⟨_, List.getElem?_eq_getElem hkl⟩
    have hst := reachN_take hp a h
    repeat' (first | refine sC ?_ | ((with_reducible refine isAwp ?_); first | (refine sS ?_; intro Q' hn he hr) | refine sA ?_) | (refine sH ?_; clear hn he hr Q') | refine sO ?_ | ((conv => whnf); first | refine sK ?_ | (refine sB ?_; repeat' (refine sb2 ?_ ?_ <;> intro hb <;> try exact cls)) | (refine ElemS.the hp ?_) | (refine ElemS.lit 0 rfl rfl ?_) | (refine ElemS.lit 1 rfl rfl ?_) | ((with_reducible refine isCallQ ?_); (refine callQ_pure (c_impl_rawWeight p a h (hall _ _ hp) (by unfold i64B; omega) (by unfold i64B; omega)) rfl rfl ?_)) | refine sP ?_ | refine sD ?_))
    · refine ⟨k + 1, by omega, by omega, ?_⟩
      rw [hst, if_pos (by omega)]
      exact (by refine weak_to rfl rfl rfl ?_; ((repeat' (first | exact trivial | refine And.intro ?_ ?_)) <;> (first | rfl | (conv => rhs; whnf) <;> (first | rfl | (refine congrArg (D.int _) ?_; omega)))))
    · refine ⟨k + 1, by omega, by omega, ?_⟩
      rw [hst, if_neg (by omega)]
      exact (by refine weak_to rfl rfl rfl ?_; ((repeat' (first | exact trivial | refine And.intro ?_ ?_)) <;> (first | rfl | (conv => rhs; whnf) <;> (first | rfl | (refine congrArg (D.int _) ?_; omega)))))
  · obtain rfl : k = ps.length := by omega
    rw [List.take_length]
    repeat' (first | refine sC ?_ | ((with_reducible refine isAwp ?_); first | (refine sS ?_; intro Q' hn he hr) | refine sA ?_) | (refine sH ?_; clear hn he hr Q') | ((conv => whnf); first | refine sK ?_ | (refine sB ?_; repeat' (refine sb2 ?_ ?_ <;> intro hb <;> try exact cls)) | (refine ret_pick [] rfl rfl rfl ⟨?_, rfl⟩; conv => lhs; whnf) | (refine sH ?_; clear hn he hr Q')))
    all_goals rfl
set_option maxHeartbeats 4000000 in
theorem c_spec_l10Count (ps : List TProjector) (a h : Int) (hps : projsB ps = true) (ha : 0 ≤ a ∧ a ≤ 359999) (hh : 0 ≤ h ∧ h ≤ 90000) : FnC Tryz.prog 185 G0 0 [] [.sl 5 (ps.map encProjector), .sl 1 ([a, h].map encI)] (fun d os => d = .int .i64 (reachN ps a h) ∧ os = []) := by
  obtain ⟨hl, hall⟩ := projs_all hps
  refine fn_rule Tryz.func185 rfl (by decide +kernel) rfl (fun w0 F0 lent β0 => ?_)
  repeat' (first | refine sC ?_ | ((with_reducible refine isAwp ?_); first | (refine sS ?_; intro Q' hn he hr) | refine sA ?_) | (refine sH ?_; clear hn he hr Q') | ((conv => whnf); refine sK ?_))
  refine draw_cut (γ := Unit) (fun _ => [(0,.sl 5 (ps.map encProjector)),(5,.int .i64 0),(6,.hp 0 0)]) (fun _ => [.box (encVector (dirV a h))]) (fun _ => True) ?_ (fun _ _ => ?_)
  · refine draw_tree3 (.ins [0,3] (.fork 1 (.fork 2 (.fork 4 (.fork 5 (.fork 6 (.line [7,8]) (.line [7,6,8])) (.line [7,5,6,8])) (.line [7,4,5,6,8])) (.fork 4 (.fork 2 (.fork 5 (.fork 6 (.line [7,8]) (.line [7,6,8])) (.line [7,5,6,8])) (.fork 5 (.fork 2 (.fork 6 (.line [7,8]) (.line [7,6,8])) (.line [7,2,6,8])) (.ins [7] (.fork 2 (.line [5,6,8]) (.line [5,2,6,8]))))) (.ins [7] (.fork 2 (.line [4,5,6,8]) (.ins [4] (.fork 2 (.line [5,6,8]) (.line [5,2,6,8]))))))) (.fork 4 (.fork 1 (.fork 2 (.fork 5 (.fork 6 (.line [7,8]) (.line [7,6,8])) (.line [7,5,6,8])) (.fork 5 (.fork 2 (.fork 6 (.line [7,8]) (.line [7,6,8])) (.line [7,2,6,8])) (.ins [7] (.fork 2 (.line [5,6,8]) (.line [5,2,6,8]))))) (.fork 5 (.fork 1 (.fork 2 (.fork 6 (.line [7,8]) (.line [7,6,8])) (.line [7,2,6,8])) (.line [7,1,2,6,8])) (.ins [7] (.fork 1 (.fork 2 (.line [5,6,8]) (.line [5,2,6,8])) (.line [5,1,2,6,8]))))) (.ins [7] (.fork 1 (.fork 2 (.line [4,5,6,8]) (.ins [4] (.fork 2 (.line [5,6,8]) (.line [5,2,6,8])))) (.ins [4] (.fork 1 (.fork 2 (.line [5,6,8]) (.line [5,2,6,8])) (.line [5,1,2,6,8])))))))) (by decide +kernel) (by decide +kernel) (by decide +kernel) ?_
    repeat' ((conv => whnf); first | (refine ElemS.lit 0 rfl rfl ?_) | (refine ElemS.lit 1 rfl rfl ?_) | ((with_reducible refine isTree ?_); first | refine treeK_cons rfl ?_ | refine treeK_fork rfl ?_ ?_ | refine treeK_nil ?_) | ((with_reducible refine isCall ?_); (refine call_pure (c_spec_l04Direction a h (by unfold i64B; omega) (by unfold i64B; omega)) rfl rfl ?_)))
    all_goals refine ⟨(), trivial, ?_⟩
    all_goals exact (by refine weak_to rfl rfl rfl ?_; ((repeat' (first | exact trivial | refine And.intro ?_ ?_)) <;> (first | rfl | (conv => rhs; whnf) <;> (first | rfl | (refine congrArg (D.int _) ?_; omega)))))
  repeat' (first | refine sC ?_ | ((with_reducible refine isAwp ?_); first | (refine sS ?_; intro Q' hn he hr) | refine sA ?_) | (refine sH ?_; clear hn he hr Q') | ((conv => whnf); refine sK ?_))
  refine loop_env (fun k : Nat => [(0,.sl 5 (ps.map encProjector)),(5,.int .i64 (reachN (ps.take k) a h)),(6,.hp 0 0),(7,.int .i64 k)]) (fun _ => [.box (encVector (dirV a h))]) (fun k => k ≤ ps.length) (fun k => ps.length - k) 0 (by omega) (by refine weak_to rfl rfl rfl ?_; ((repeat' (first | exact trivial | refine And.intro ?_ ?_)) <;> (first | rfl | (conv => rhs; whnf) <;> (first | rfl | (refine congrArg (D.int _) ?_; omega))))) (fun k hk Q' hn he hr => ?_)
  have hrl := reachN_le (ps.take k) a h
  have htl : (ps.take k).length ≤ 6 := by rw [List.length_take]; omega
  by_cases hkl : k < ps.length
  · obtain ⟨p, hp⟩ : ∃ p, ps[k]? = some p := ⟨_, List.getElem?_eq_getElem hkl⟩
    have hst := reachN_take hp a h
    repeat' (first | refine sC ?_ | ((with_reducible refine isAwp ?_); first | (refine sS ?_; intro Q' hn he hr) | refine sA ?_) | (refine sH ?_; clear hn he hr Q') | refine sO ?_ | ((conv => whnf); first | refine sK ?_ | (refine sB ?_; repeat' (refine sb2 ?_ ?_ <;> intro hb <;> try exact cls)) | (refine ElemS.the hp ?_) | ((with_reducible refine isCallQ ?_); (refine callQ_pure (c_spec_l10Raw p (dirV a h) (hall _ _ hp) (dirV_bound _ _)) rfl rfl ?_)) | refine sP ?_ | (refine sL ?_; intro hlen) | refine sD ?_))
    · refine ⟨k + 1, by omega, by omega, ?_⟩
      rw [hst, if_pos (by omega)]
      exact (by refine weak_to rfl rfl rfl ?_; ((repeat' (first | exact trivial | refine And.intro ?_ ?_)) <;> (first | rfl | (conv => rhs; whnf) <;> (first | rfl | (refine congrArg (D.int _) ?_; omega)))))
    · refine ⟨k + 1, by omega, by omega, ?_⟩
      rw [hst, if_neg (by omega)]
      exact (by refine weak_to rfl rfl rfl ?_; ((repeat' (first | exact trivial | refine And.intro ?_ ?_)) <;> (first | rfl | (conv => rhs; whnf) <;> (first | rfl | (refine congrArg (D.int _) ?_; omega)))))
  · obtain rfl : k = ps.length := by omega
    rw [List.take_length]
    repeat' (first | refine sC ?_ | ((with_reducible refine isAwp ?_); first | (refine sS ?_; intro Q' hn he hr) | refine sA ?_) | (refine sH ?_; clear hn he hr Q') | ((conv => whnf); first | refine sK ?_ | (refine sB ?_; repeat' (refine sb2 ?_ ?_ <;> intro hb <;> try exact cls)) | (refine sL ?_; intro hlen) | (refine ret_pick [] rfl rfl rfl ⟨?_, rfl⟩; conv => lhs; whnf) | (refine sH ?_; clear hn he hr Q')))
    all_goals rfl
set_option maxHeartbeats 4000000 in
theorem c_impl_spotsOf (s : Int) (hs : 10000 ≤ s ∧ s ≤ 90000) : FnC Tryz.prog 158 G0 0 [] [.int .i64 s] (fun d os => d = .tup [.sl 1 ((spotsL s).map encSpot), .int .i64 0] ∧ os = []) := by
  have hv : inB s 10000 90000 = true := by simp [inB]; omega
  refine fn_rule Tryz.func158 rfl (by decide +kernel) rfl (fun w0 F0 lent β0 => ?_)
  repeat' (first | refine sC ?_ | ((with_reducible refine isAwp ?_); first | (refine sS ?_; intro Q' hn he hr) | refine sA ?_) | (refine sH ?_; clear hn he hr Q') | ((conv => whnf); first | refine sK ?_ | (refine sB ?_; repeat' (refine sb2 ?_ ?_ <;> intro hb <;> try exact cls)) | ((with_reducible refine isCall ?_); (refine call_pure (c_within _ _ _) rfl rfl ?_))))
  refine loop_env3 (fun (m : Nat) (h : Int) (out : List (List Int)) => [(0,.int .i64 s),(4,.h 0),(5,.int .i64 h)]) (fun m h out => [.row 26 1 (out.map encSpot)]) (fun m h out => out ++ altiL s m h = spotsL s ∧ 90000 < h + 10000 * m ∧ (0 ≤ h ∧ h ≤ 180000) ∧ out.length + 40 * m ≤ 480) (fun m h out => m) 12 0 [] ⟨rfl, by omega, by omega, by simp⟩ (by refine Weak.trans (weak_adopt 4 26 1 rfl rfl) (weak_to rfl rfl rfl ?_); exact ⟨rfl, rfl, rfl, trivial⟩) (fun m h out hk Q' hn he hr => ?_)
  obtain ⟨hk1, hk2, hk3, hk4⟩ := hk
  by_cases hh : h ≤ 90000
  · obtain ⟨m', rfl⟩ : ∃ m', m = m' + 1 := ⟨m - 1, by omega⟩
    rw [altiL_go hh, ← List.append_assoc] at hk1
    repeat' (first | refine sC ?_ | ((with_reducible refine isAwp ?_); first | (refine sS ?_; intro Q' hn he hr) | refine sA ?_) | (refine sH ?_; clear hn he hr Q') | ((conv => whnf); first | refine sK ?_ | (refine sB ?_; repeat' (refine sb2 ?_ ?_ <;> intro hb <;> try exact cls))))
    refine loop_env3 (fun (n : Nat) (a : Int) (out : List (List Int)) => [(0,.int .i64 s),(4,.h 0),(5,.int .i64 h),(6,.int .i64 a)]) (fun n a out => [.row 26 1 (out.map encSpot)]) (fun n a out => out ++ azimL s h n a ++ altiL s m' (h + s) = spotsL s ∧ 360000 ≤ a + 10000 * n ∧ (0 ≤ a ∧ a ≤ 450000) ∧ out.length + n + 40 * m' ≤ 480) (fun n a out => n) 40 0 out ⟨hk1, by omega, by omega, by omega⟩ (by refine weak_to rfl rfl rfl ?_; ((repeat' (first | exact trivial | refine And.intro ?_ ?_)) <;> (first | rfl | (conv => rhs; whnf) <;> (first | rfl | (refine congrArg (D.int _) ?_; omega))))) (fun n a out hj Q' hn he hr => ?_)
    obtain ⟨hj1, hj2, hj3, hj4⟩ := hj
    by_cases haa : a < 360000
    · obtain ⟨n', rfl⟩ : ∃ n', n = n' + 1 := ⟨n - 1, by omega⟩
      rw [azimL_go haa] at hj1
      repeat' (first | refine sC ?_ | ((with_reducible refine isAwp ?_); first | (refine sS ?_; intro Q' hn he hr) | refine sA ?_) | (refine sH ?_; clear hn he hr Q') | ((conv => whnf); first | refine sK ?_ | (refine sB ?_; repeat' (refine sb2 ?_ ?_ <;> intro hb <;> try exact cls)) | refine sP ?_))
      refine ⟨n', a + s, out ++ [[a, h]], ⟨by rw [← hj1]; simp, by omega, by omega, by simp; omega⟩, by omega, ?_⟩
      exact (by refine weak_to rfl rfl (by rw [List.map_append]; rfl) ?_; ((repeat' (first | exact trivial | refine And.intro ?_ ?_)) <;> (first | rfl | (conv => rhs; whnf) <;> (first | rfl | (refine congrArg (D.int _) ?_; omega)))))
    · rw [azimL_end haa, List.append_nil] at hj1
      repeat' (first | refine sC ?_ | ((with_reducible refine isAwp ?_); first | (refine sS ?_; intro Q' hn he hr) | refine sA ?_) | (refine sH ?_; clear hn he hr Q') | ((conv => whnf); first | refine sK ?_ | (refine sB ?_; repeat' (refine sb2 ?_ ?_ <;> intro hb <;> try exact cls)) | refine sP ?_ | (refine sH ?_; clear hn he hr Q')))
      exact ⟨m', h + s, out, ⟨hj1, by omega, by omega, by omega⟩, by omega, (by refine weak_to rfl rfl rfl ?_; ((repeat' (first | exact trivial | refine And.intro ?_ ?_)) <;> (first | rfl | (conv => rhs; whnf) <;> (first | rfl | (refine congrArg (D.int _) ?_; omega)))))⟩
  · rw [altiL_end hh, List.append_nil] at hk1
    repeat' (first | refine sC ?_ | ((with_reducible refine isAwp ?_); first | (refine sS ?_; intro Q' hn he hr) | refine sA ?_) | (refine sH ?_; clear hn he hr Q') | ((conv => whnf); first | refine sK ?_ | (refine sB ?_; repeat' (refine sb2 ?_ ?_ <;> intro hb <;> try exact cls)) | ((with_reducible refine isRet ?_); (refine ret_freeze 0 rfl (Nat.zero_le _) ?_; refine ret_pick [] rfl rfl rfl ⟨?_, rfl⟩)) | (refine sH ?_; clear hn he hr Q')))
    rw [← hk1]
    rfl
set_option maxHeartbeats 4000000 in
theorem c_spec_l10Spots (s : Int) (hs : 10000 ≤ s ∧ s ≤ 90000) : FnC Tryz.prog 184 G0 0 [] [.int .i64 s] (fun d os => d = .sl 1 ((spotsL s).map encSpot) ∧ os = []) := by
  refine fn_rule Tryz.func184 rfl (by decide +kernel) rfl (fun w0 F0 lent β0 => ?_)
  repeat' (first | refine sC ?_ | ((with_reducible refine isAwp ?_); first | (refine sS ?_; intro Q' hn he hr) | refine sA ?_) | (refine sH ?_; clear hn he hr Q') | ((conv => whnf); refine sK ?_))
  refine loop_env3 (fun (m : Nat) (h : Int) (out : List (List Int)) => [(0,.int .i64 s),(3,.h 0),(4,.int .i64 h)]) (fun m h out => [.row 26 1 (out.map encSpot)]) (fun m h out => out ++ altiL s m h = spotsL s ∧ 90000 < h + 10000 * m ∧ (0 ≤ h ∧ h ≤ 180000) ∧ out.length + 40 * m ≤ 480) (fun m h out => m) 12 0 [] ⟨rfl, by omega, by omega, by simp⟩ (by refine weak_to rfl rfl rfl ?_; ((repeat' (first | exact trivial | refine And.intro ?_ ?_)) <;> (first | rfl | (conv => rhs; whnf) <;> (first | rfl | (refine congrArg (D.int _) ?_; omega))))) (fun m h out hk Q' hn he hr => ?_)
  obtain ⟨hk1, hk2, hk3, hk4⟩ := hk
  by_cases hh : h ≤ 90000
  · obtain ⟨m', rfl⟩ : ∃ m', m = m' + 1 := ⟨m - 1, by omega⟩
    rw [altiL_go hh, ← List.append_assoc] at hk1
    repeat' (first | refine sC ?_ | ((with_reducible refine isAwp ?_); first | (refine sS ?_; intro Q' hn he hr) | refine sA ?_) | (refine sH ?_; clear hn he hr Q') | ((conv => whnf); first | refine sK ?_ | (refine sB ?_; repeat' (refine sb2 ?_ ?_ <;> intro hb <;> try exact cls))))
    refine loop_env3 (fun (n : Nat) (a : Int) (out : List (List Int)) => [(0,.int .i64 s),(3,.h 0),(4,.int .i64 h),(5,.int .i64 a)]) (fun n a out => [.row 26 1 (out.map encSpot)]) (fun n a out => out ++ azimL s h n a ++ altiL s m' (h + s) = spotsL s ∧ 360000 ≤ a + 10000 * n ∧ (0 ≤ a ∧ a ≤ 450000) ∧ out.length + n + 40 * m' ≤ 480) (fun n a out => n) 40 0 out ⟨hk1, by omega, by omega, by omega⟩ (by refine weak_to rfl rfl rfl ?_; ((repeat' (first | exact trivial | refine And.intro ?_ ?_)) <;> (first | rfl | (conv => rhs; whnf) <;> (first | rfl | (refine congrArg (D.int _) ?_; omega))))) (fun n a out hj Q' hn he hr => ?_)
    obtain ⟨hj1, hj2, hj3, hj4⟩ := hj
    by_cases haa : a < 360000
    · obtain ⟨n', rfl⟩ : ∃ n', n = n' + 1 := ⟨n - 1, by omega⟩
      rw [azimL_go haa] at hj1
      repeat' (first | refine sC ?_ | ((with_reducible refine isAwp ?_); first | (refine sS ?_; intro Q' hn he hr) | refine sA ?_) | (refine sH ?_; clear hn he hr Q') | ((conv => whnf); first | refine sK ?_ | (refine sB ?_; repeat' (refine sb2 ?_ ?_ <;> intro hb <;> try exact cls)) | refine sP ?_))
      refine ⟨n', a + s, out ++ [[a, h]], ⟨by rw [← hj1]; simp, by omega, by omega, by simp; omega⟩, by omega, ?_⟩
      exact (by refine weak_to rfl rfl (by rw [List.map_append]; rfl) ?_; ((repeat' (first | exact trivial | refine And.intro ?_ ?_)) <;> (first | rfl | (conv => rhs; whnf) <;> (first | rfl | (refine congrArg (D.int _) ?_; omega)))))
    · rw [azimL_end haa, List.append_nil] at hj1
      repeat' (first | refine sC ?_ | ((with_reducible refine isAwp ?_); first | (refine sS ?_; intro Q' hn he hr) | refine sA ?_) | (refine sH ?_; clear hn he hr Q') | ((conv => whnf); first | refine sK ?_ | (refine sB ?_; repeat' (refine sb2 ?_ ?_ <;> intro hb <;> try exact cls)) | refine sP ?_ | (refine sH ?_; clear hn he hr Q')))
      exact ⟨m', h + s, out, ⟨hj1, by omega, by omega, by omega⟩, by omega, (by refine weak_to rfl rfl rfl ?_; ((repeat' (first | exact trivial | refine And.intro ?_ ?_)) <;> (first | rfl | (conv => rhs; whnf) <;> (first | rfl | (refine congrArg (D.int _) ?_; omega)))))⟩
  · rw [altiL_end hh, List.append_nil] at hk1
    repeat' (first | refine sC ?_ | ((with_reducible refine isAwp ?_); first | (refine sS ?_; intro Q' hn he hr) | refine sA ?_) | (refine sH ?_; clear hn he hr Q') | ((conv => whnf); first | refine sK ?_ | (refine sB ?_; repeat' (refine sb2 ?_ ?_ <;> intro hb <;> try exact cls)) | ((with_reducible refine isRet ?_); (refine ret_freeze 0 rfl (Nat.zero_le _) ?_; refine ret_pick [] rfl rfl rfl ⟨?_, rfl⟩)) | (refine sH ?_; clear hn he hr Q')))
    rw [← hk1]
    rfl
set_option maxHeartbeats 4000000 in
theorem c_impl_DarkSpots (ps : List TProjector) (s : Int) (hv : projsB ps = true) (hs : 10000 ≤ s ∧ s ≤ 90000) : FnC Tryz.prog 97 GS 0 [] [.sl 5 (ps.map encProjector), .int .i64 s] (fun d os => d = .tup [.sl 1 ((darkL ps (spotsL s)).map encSpot), .int .i64 0] ∧ os = []) := by
  have hsl := spotsL_len s
  refine fn_rule Tryz.func97 rfl (by decide +kernel) rfl (fun w0 F0 lent β0 => ?_)
  repeat' (first | refine sC ?_ | ((with_reducible refine isAwp ?_); first | (refine sS ?_; intro Q' hn he hr) | refine sA ?_) | (refine sH ?_; clear hn he hr Q') | ((conv => whnf); first | refine sK ?_ | (refine sB ?_; repeat' (refine sb2 ?_ ?_ <;> intro hb <;> try exact cls)) | ((with_reducible refine isCall ?_); first | (refine call_pure ((c_impl_ValidProjectors ps).anyG) rfl rfl ?_) | (refine call_pure ((c_impl_spotsOf s hs).anyG) rfl rfl ?_)) | (refine sL ?_; intro hlen)))
  refine loop_env (fun k : Nat => [(0,.sl 5 (ps.map encProjector)),(8,.h 0),(22,.sl 1 ((spotsL s).map encSpot)),(23,.int .i64 (spotsL s).length),(24,.int .i64 k)]) (fun k => [.row 26 1 ((darkL ps ((spotsL s).take k)).map encSpot)]) (fun k => k ≤ (spotsL s).length) (fun k => (spotsL s).length - k) 0 (by omega) (by refine Weak.trans (weak_adopt 8 26 1 rfl rfl) (weak_to rfl rfl rfl ?_); exact ⟨rfl, rfl, rfl, rfl, rfl, trivial⟩) (fun k hk Q' hn he hr => ?_)
  have hdl := darkL_len ps ((spotsL s).take k)
  have htl : ((spotsL s).take k).length ≤ 480 := by rw [List.length_take]; omega
  by_cases hkl : k < (spotsL s).length
  · obtain ⟨t, ht⟩ : ∃ t, (spotsL s)[k]? = some t := ⟨_, List.getElem?_eq_getElem hkl⟩
    obtain ⟨a, h, rfl, ha, hh⟩ := spotsL_mem (by omega) (List.mem_of_getElem? ht)
    have hdb : darkB ps [a, h] = decide (reachN ps a h = 0) := rfl
    repeat' (first | refine sC ?_ | ((with_reducible refine isAwp ?_); first | (refine sS ?_; intro Q' hn he hr) | refine sA ?_) | (refine sH ?_; clear hn he hr Q') | ((conv => whnf); first | refine sK ?_ | (refine sB ?_; repeat' (refine sb2 ?_ ?_ <;> intro hb <;> try exact cls)) | (refine ElemS.the ht ?_) | ((with_reducible refine isCall ?_); (refine call_pure (c_impl_reaching ps a h hv ha hh) rfl rfl ?_)) | refine sP ?_))
    · refine ⟨k + 1, by omega, by omega, ?_⟩
      exact (by refine weak_to rfl rfl (by rw [darkL_yes ht (by rw [hdb]; exact decide_eq_true (by omega)), List.map_append]; rfl) ?_; ((repeat' (first | exact trivial | refine And.intro ?_ ?_)) <;> (first | rfl | (conv => rhs; whnf) <;> (first | rfl | (refine congrArg (D.int _) ?_; omega)))))
    · refine ⟨k + 1, by omega, by omega, ?_⟩
      exact (by refine weak_to rfl rfl (by rw [darkL_no ht (by rw [hdb]; exact decide_eq_false (by omega))]; rfl) ?_; ((repeat' (first | exact trivial | refine And.intro ?_ ?_)) <;> (first | rfl | (conv => rhs; whnf) <;> (first | rfl | (refine congrArg (D.int _) ?_; omega)))))
  · obtain rfl : k = (spotsL s).length := by omega
    rw [List.take_length]
    repeat' (first | refine sC ?_ | ((with_reducible refine isAwp ?_); first | (refine sS ?_; intro Q' hn he hr) | refine sA ?_) | (refine sH ?_; clear hn he hr Q') | ((conv => whnf); first | refine sK ?_ | (refine sB ?_; repeat' (refine sb2 ?_ ?_ <;> intro hb <;> try exact cls)) | ((with_reducible refine isRet ?_); (refine ret_freeze 0 rfl (Nat.zero_le _) ?_; refine ret_pick [] rfl rfl rfl ⟨?_, rfl⟩)) | (refine sH ?_; clear hn he hr Q')))
    all_goals rfl
theorem c_spec_l10Ask (ps : List TProjector) (s : Int) (hv : projsB ps = true) (hs : 10000 ≤ s ∧ s ≤ 90000) : FnC Tryz.prog 183 G0 0 [] [.sl 5 (ps.map encProjector), .int .i64 s] (fun d os => d = .int .i64 0 ∧ os = []) := by
  have hv2 : inB s 10000 90000 = true := by simp [inB]; omega
  refine fn_rule Tryz.func183 rfl (by decide +kernel) rfl (fun w0 F0 lent β0 => ?_)
  repeat' (first | refine sC ?_ | ((with_reducible refine isAwp ?_); first | (refine sS ?_; intro Q' hn he hr) | refine sA ?_) | (refine sH ?_; clear hn he hr Q') | ((conv => whnf); first | refine sK ?_ | (refine sB ?_; repeat' (refine sb2 ?_ ?_ <;> intro hb <;> try exact cls)) | ((with_reducible refine isCall ?_); first | (refine call_pure (c_spec_l10Ok ps) rfl rfl ?_) | (refine call_pure (c_spec_l10Step s) rfl rfl ?_)) | (refine ret_pick [] rfl rfl rfl ⟨?_, rfl⟩; conv => lhs; whnf)))
set_option maxHeartbeats 4000000 in
theorem c_spec_DarkSpots (ps : List TProjector) (s : Int) (hv : projsB ps = true) (hs : 10000 ≤ s ∧ s ≤ 90000) : FnC Tryz.prog 133 G0 0 [] [.sl 5 (ps.map encProjector), .int .i64 s] (fun d os => d = .tup [.sl 1 ((darkL ps (spotsL s)).map encSpot), .int .i64 0] ∧ os = []) := by
  have hsl := spotsL_len s
  refine fn_rule Tryz.func133 rfl (by decide +kernel) rfl (fun w0 F0 lent β0 => ?_)
  repeat' (first | refine sC ?_ | ((with_reducible refine isAwp ?_); first | (refine sS ?_; intro Q' hn he hr) | refine sA ?_) | (refine sH ?_; clear hn he hr Q') | ((conv => whnf); first | refine sK ?_ | (refine sB ?_; repeat' (refine sb2 ?_ ?_ <;> intro hb <;> try exact cls)) | ((with_reducible refine isCall ?_); first | (refine call_pure (c_spec_l10Ask ps s hv hs) rfl rfl ?_) | (refine call_pure (c_spec_l10Spots s hs) rfl rfl ?_))))
  refine loop_env (fun k : Nat => [(0,.sl 5 (ps.map encProjector)),(7,.h 0),(8,.sl 1 ((spotsL s).map encSpot)),(9,.int .i64 k)]) (fun k => [.row 26 1 ((darkL ps ((spotsL s).take k)).map encSpot)]) (fun k => k ≤ (spotsL s).length) (fun k => (spotsL s).length - k) 0 (by omega) (by refine weak_to rfl rfl rfl ?_; ((repeat' (first | exact trivial | refine And.intro ?_ ?_)) <;> (first | rfl | (conv => rhs; whnf) <;> (first | rfl | (refine congrArg (D.int _) ?_; omega))))) (fun k hk Q' hn he hr => ?_)
  have hdl := darkL_len ps ((spotsL s).take k)
  have htl : ((spotsL s).take k).length ≤ 480 := by rw [List.length_take]; omega
  by_cases hkl : k < (spotsL s).length
  · obtain ⟨t, ht⟩ : ∃ t, (spotsL s)[k]? = some t := ⟨_, List.getElem?_eq_getElem hkl⟩
    obtain ⟨a, h, rfl, ha, hh⟩ := spotsL_mem (by omega) (List.mem_of_getElem? ht)
    have hdb : darkB ps [a, h] = decide (reachN ps a h = 0) := rfl
    repeat' (first | refine sC ?_ | ((with_reducible refine isAwp ?_); first | (refine sS ?_; intro Q' hn he hr) | refine sA ?_) | (refine sH ?_; clear hn he hr Q') | ((conv => whnf); first | refine sK ?_ | (refine sB ?_; repeat' (refine sb2 ?_ ?_ <;> intro hb <;> try exact cls)) | (refine ElemS.the ht ?_) | ((with_reducible refine isCall ?_); (refine call_pure (c_spec_l10Count ps a h hv ha hh) rfl rfl ?_)) | refine sP ?_ | (refine sL ?_; intro hlen)))
    · refine ⟨k + 1, by omega, by omega, ?_⟩
      exact (by refine weak_to rfl rfl (by rw [darkL_yes ht (by rw [hdb]; exact decide_eq_true (by omega)), List.map_append]; rfl) ?_; ((repeat' (first | exact trivial | refine And.intro ?_ ?_)) <;> (first | rfl | (conv => rhs; whnf) <;> (first | rfl | (refine congrArg (D.int _) ?_; omega)))))
    · refine ⟨k + 1, by omega, by omega, ?_⟩
      exact (by refine weak_to rfl rfl (by rw [darkL_no ht (by rw [hdb]; exact decide_eq_false (by omega))]; rfl) ?_; ((repeat' (first | exact trivial | refine And.intro ?_ ?_)) <;> (first | rfl | (conv => rhs; whnf) <;> (first | rfl | (refine congrArg (D.int _) ?_; omega)))))
  · obtain rfl : k = (spotsL s).length := by omega
    rw [List.take_length]
    repeat' (first | refine sC ?_ | ((with_reducible refine isAwp ?_); first | (refine sS ?_; intro Q' hn he hr) | refine sA ?_) | (refine sH ?_; clear hn he hr Q') | ((conv => whnf); first | refine sK ?_ | (refine sB ?_; repeat' (refine sb2 ?_ ?_ <;> intro hb <;> try exact cls)) | ((with_reducible refine isRet ?_); (refine ret_freeze 0 rfl (Nat.zero_le _) ?_; refine ret_pick [] rfl rfl rfl ⟨?_, rfl⟩)) | (refine sL ?_; intro hlen) | (refine sH ?_; clear hn he hr Q')))
    all_goals rfl
def joinTo (L : List Int) (k : Nat) : List UInt8 := joinL ((L.take k).map Lib.itoa)
theorem joinL_snoc : ∀ (l : List (List UInt8)) (x : List UInt8), joinL (l ++ [x]) = if l = [] then x else joinL l ++ 44 :: x
  | [], x => rfl
  | [p], x => by simp [joinL]
  | p :: q :: r, x => by
    have h := joinL_snoc (q :: r) x
    simp only [List.cons_append] at h
    simp only [List.cons_append, joinL, h]
    simp
theorem joinTo_step {L : List Int} {k : Nat} {n : Int} (hn : L[k]? = some n) : joinTo L (k + 1) = if k = 0 then Lib.itoa n else joinTo L k ++ 44 :: Lib.itoa n := by
  have hk := (List.getElem?_eq_some_iff.1 hn).1
  unfold joinTo
  rw [List.take_add_one, hn, Option.toList_some, List.map_append, List.map_singleton, joinL_snoc]
  by_cases h0 : k = 0
  · subst h0; simp
  · rw [if_neg h0, if_neg]
    simp
    refine ⟨h0, ?_⟩
    intro h
    rw [h] at hk
    simp at hk
theorem joinTo_len {L : List Int} (hb0 : ∀ (k : Nat) n, L[k]? = some n → -1000000000000 ≤ n ∧ n ≤ 1000000000000) (hl : L.length ≤ 64) (k : Nat) : (joinTo L k).length ≤ 2000 := by
  have h2 := joinL_len ((L.take k).map Lib.itoa) fun x hx => by
    obtain ⟨n, hn, rfl⟩ := List.mem_map.1 hx
    obtain ⟨j, hj⟩ := List.getElem?_of_mem (List.mem_of_mem_take hn)
    have := hb0 j n hj
    have := Lib.itoa_length_le n (by omega) (by omega)
    omega
  rw [List.length_map, List.length_take] at h2
  unfold joinTo
  omega
set_option maxHeartbeats 4000000 in
theorem c_spec_l01List (L : List Int) (h1 : 1 ≤ L.length ∧ L.length ≤ 64) (hb0 : ∀ (k : Nat) n, L[k]? = some n → -1000000000000 ≤ n ∧ n ≤ 1000000000000) : FnC Tryz.prog 134 G0 0 [] [.sl 1 (L.map encI)] (fun d os => d = .str (joinL (L.map Lib.itoa)) ∧ os = []) := by
  refine fn_rule Tryz.func134 rfl (by decide +kernel) rfl (fun w0 F0 lent β0 => ?_)
  repeat' (first | refine sC ?_ | ((with_reducible refine isAwp ?_); first | (refine sS ?_; intro Q' hn he hr) | refine sA ?_) | (refine sH ?_; clear hn he hr Q') | ((conv => whnf); first | refine sK ?_ | (refine sB ?_; repeat' (refine sb2 ?_ ?_ <;> intro hb <;> try exact cls)) | (refine sL ?_; intro hlen)))
  refine loop_env (fun k : Nat => [(0,.sl 1 (L.map encI)),(3,.str (joinTo L k)),(4,.int .i64 k)]) (fun _ => []) (fun k => k ≤ L.length) (fun k => L.length - k) 0 (by omega) (by refine weak_to rfl rfl rfl ?_; ((repeat' (first | exact trivial | refine And.intro ?_ ?_)) <;> (first | rfl | (conv => rhs; whnf) <;> (first | rfl | (refine congrArg (D.int _) ?_; omega))))) (fun k hk Q' hn he hr => ?_)
  have hjl := joinTo_len hb0 h1.2 k
  by_cases hkl : k < L.length
  · obtain ⟨n, hnk⟩ : ∃ n, L[k]? = some n := ⟨_, List.getElem?_eq_getElem hkl⟩
    have hbn := hb0 k n hnk
    have hnl := Lib.itoa_length_le n (by omega) (by omega)
    have hst := joinTo_step hnk
    repeat' (first | refine sC ?_ | ((with_reducible refine isAwp ?_); first | (refine sS ?_; intro Q' hn he hr) | refine sA ?_) | (refine sH ?_; clear hn he hr Q') | ((conv => whnf); first | refine sK ?_ | (refine sB ?_; repeat' (refine sb2 ?_ ?_ <;> intro hb <;> try exact cls)) | (refine AskS.mk ⟨by first | (unfold maxLen; simp; omega) | (unfold maxLen; omega), ?_⟩) | (refine ElemS.the hnk ?_) | ((with_reducible refine isCall ?_); (refine call_pure (c_spec_l01Dec n (by omega)) rfl rfl ?_)) | refine sP ?_ | (refine sL ?_; intro hlen)))
    · refine ⟨k + 1, by omega, by omega, ?_⟩
      rw [hst, if_neg (by omega)]
      exact (by refine weak_to rfl rfl rfl ?_; ((repeat' (first | exact trivial | refine And.intro ?_ ?_)) <;> (first | rfl | (conv => rhs; whnf) <;> (first | rfl | simp | (refine congrArg (D.int _) ?_; omega)))))
    · refine ⟨k + 1, by omega, by omega, ?_⟩
      rw [hst, if_pos (by omega)]
      obtain rfl : k = 0 := by omega
      exact (by refine weak_to rfl rfl rfl ?_; ((repeat' (first | exact trivial | refine And.intro ?_ ?_)) <;> (first | rfl | (conv => rhs; whnf) <;> (first | rfl | simp | (refine congrArg (D.int _) ?_; omega)))))
  · obtain rfl : k = L.length := by omega
    repeat' (first | refine sC ?_ | ((with_reducible refine isAwp ?_); first | (refine sS ?_; intro Q' hn he hr) | refine sA ?_) | (refine sH ?_; clear hn he hr Q') | ((conv => whnf); first | refine sK ?_ | (refine sB ?_; repeat' (refine sb2 ?_ ?_ <;> intro hb <;> try exact cls)) | (refine sL ?_; intro hlen) | (refine ret_pick [] rfl rfl rfl ⟨?_, rfl⟩; conv => lhs; whnf) | (refine sH ?_; clear hn he hr Q')))
    unfold joinTo
    rw [List.take_length]
theorem houseB_dome {h : THouse} (hv : houseB h = true) : projsB h.fProjectors = true ∧ 10000 ≤ h.fStep ∧ h.fStep ≤ 90000 := by
  simp only [houseB, inB, Bool.and_eq_true, decide_eq_true_eq] at hv
  exact ⟨hv.2.1, hv.2.2.2.2.2.2.2.2.2.1⟩
noncomputable def domTo (h : THouse) (k : Nat) : List TFinding := ((darkL h.fProjectors (spotsL h.fStep)).take k).map darkF
theorem domTo_succ {h : THouse} {k : Nat} {s : List Int} (hs : (darkL h.fProjectors (spotsL h.fStep))[k]? = some s) : domTo h (k + 1) = domTo h k ++ [darkF s] := by
  unfold domTo
  rw [List.take_add_one, hs]
  simp
theorem domTo_len (h : THouse) (k : Nat) : (domTo h k).length ≤ 480 := by
  have h1 := darkL_len h.fProjectors (spotsL h.fStep)
  have h2 := spotsL_len h.fStep
  simp only [domTo, List.length_map, List.length_take]
  omega
theorem domF_len (h : THouse) : (domF h).length ≤ 480 := by
  have h1 := darkL_len h.fProjectors (spotsL h.fStep)
  have h2 := spotsL_len h.fStep
  simp only [domF, List.length_map]
  omega
set_option maxHeartbeats 8000000 in
theorem c_spec_l31Dome (h : THouse) (r : List D) (hv : houseB h = true) : FnC Tryz.prog 75 G0 0 [] [.rp (encHouseR h r)] (fun d os => d = .h 0 ∧ os = [.row 78 3 ((domF h).map encFinding)]) := by
  obtain ⟨h1, h2⟩ := houseB_dome hv
  have hdl := darkL_len h.fProjectors (spotsL h.fStep)
  have hsl := spotsL_len h.fStep
  refine fn_rule Tryz.func75 rfl (by decide +kernel) rfl (fun w0 F0 lent β0 => ?_)
  repeat' (first | refine sC ?_ | ((with_reducible refine isAwp ?_); first | (refine sS ?_; intro Q' hn he hr) | refine sA ?_) | (refine sH ?_; clear hn he hr Q') | refine sO ?_ | ((conv => whnf); first | refine sK ?_ | ((with_reducible refine isCallQ ?_); (refine callQ_pure (c_spec_DarkSpots h.fProjectors h.fStep h1 h2) rfl rfl ?_)) | refine sD ?_))
  refine loop_env (fun k : Nat => [(3,.h 0),(4,.sl 1 ((darkL h.fProjectors (spotsL h.fStep)).map encSpot)),(6,.int .i64 k)]) (fun k => [.row 78 3 ((domTo h k).map encFinding)]) (fun k => k ≤ (darkL h.fProjectors (spotsL h.fStep)).length) (fun k => (darkL h.fProjectors (spotsL h.fStep)).length - k) 0 (by omega) (by refine weak_to rfl rfl rfl ?_; ((repeat' (first | exact trivial | refine And.intro ?_ ?_)) <;> (first | rfl | (conv => rhs; whnf) <;> (first | rfl | (refine congrArg (D.int _) ?_; omega))))) (fun k hk Q' hn he hr => ?_)
  have hml := domTo_len h k
  by_cases hkl : k < (darkL h.fProjectors (spotsL h.fStep)).length
  · obtain ⟨t, ht⟩ : ∃ t, (darkL h.fProjectors (spotsL h.fStep))[k]? = some t := ⟨_, List.getElem?_eq_getElem hkl⟩
    obtain ⟨a, z, rfl, ha, hh⟩ := spotsL_mem (by omega) (darkL_mem (List.mem_of_getElem? ht))
    have hlt := c_spec_l01List [a, z] ⟨by simp, by simp⟩ (by
      intro k n hk
      match k, hk with
      | 0, hk => cases hk; omega
      | 1, hk => cases hk; omega)
    repeat' (first | refine sC ?_ | ((with_reducible refine isAwp ?_); first | (refine sS ?_; intro Q' hn he hr) | refine sA ?_) | (refine sH ?_; clear hn he hr Q') | ((conv => whnf); first | refine sK ?_ | (refine sB ?_; repeat' (refine sb2 ?_ ?_ <;> intro hb <;> try exact cls)) | (refine ElemS.the ht ?_) | ((with_reducible refine isCall ?_); (refine call_pure (hlt) rfl rfl ?_)) | refine sP ?_ | (refine sL ?_; intro hlen)))
    refine ⟨k + 1, by omega, by omega, ?_⟩
    exact (by refine weak_to rfl rfl (by rw [domTo_succ ht, List.map_append]; rfl) ?_; ((repeat' (first | exact trivial | refine And.intro ?_ ?_)) <;> (first | rfl | (conv => rhs; whnf) <;> (first | rfl | (refine congrArg (D.int _) ?_; omega)))))
  · obtain rfl : k = (darkL h.fProjectors (spotsL h.fStep)).length := by omega
    repeat' (first | refine sC ?_ | ((with_reducible refine isAwp ?_); first | (refine sS ?_; intro Q' hn he hr) | refine sA ?_) | (refine sH ?_; clear hn he hr Q') | ((conv => whnf); first | refine sK ?_ | (refine sB ?_; repeat' (refine sb2 ?_ ?_ <;> intro hb <;> try exact cls)) | ((with_reducible refine isRet ?_); (refine ret_pick [0] rfl rfl rfl ⟨rfl, ?_⟩)) | (refine sL ?_; intro hlen) | (refine sH ?_; clear hn he hr Q')))
    unfold domTo
    rw [List.take_length]
    rfl
end Go.Eng
