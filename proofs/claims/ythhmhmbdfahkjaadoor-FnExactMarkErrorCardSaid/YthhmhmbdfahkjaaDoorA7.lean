/-
  The angle of a direction, by the reference.
  No conditions.
-/
import Derived.Test.YthhmhmbdfahkjaaDoorA6
namespace Go.Eng
open Go Go.RowKit Go.Proofs
set_option maxRecDepth 100000
set_option maxHeartbeats 4000000 in
theorem c_spec_l02Arc (y x : Int) (hy : -1000000000000 ≤ y ∧ y ≤ 1000000000000) (hx1 : -1000000000000 ≤ x ∧ x ≤ 1000000000000) : FnC Tryd.prog 69 G0 0 [] [.int .i64 y, .int .i64 x] (fun d os => d = .int .i64 (arcA y x) ∧ os = []) := by
  have hax := absI_bound hx1
  have hay := absI_bound hy
  refine fn_rule Tryd.func69 rfl (by decide +kernel) rfl (fun w0 F0 lent β0 => ?_)
  repeat' (first
           | (with_reducible refine awp_seq_k (fun Q' hn he hr => ?_))
           | (with_reducible refine awp_block_k (fun Q' hn he hr => ?_))
           | (with_reducible refine awp_cond_k ?_)
           | (with_reducible refine awp_region_k ?_)
           | (with_reducible refine awp_draw_k ?_)
           | (with_reducible refine awp_ret_k ?_)
           | (with_reducible refine awp_exit_k ?_)
           | (with_reducible refine awp_skip_k ?_)
           | (with_reducible refine awp_label_k ?_)
           | (with_reducible refine awp_scope_k ?_)
           | (with_reducible refine awp_loop_k ?_)
           | (with_reducible refine hn _ ?_; clear hn he hr Q')
           | (with_reducible refine hr _ ?_; clear hn he hr Q')
           | (with_reducible refine he _ _ ?_; clear hn he hr Q')
           | (with_reducible refine opsK_go ?_)
           | (with_reducible refine quietK_go ?_)
           | (with_reducible refine opsD_one ?_)
           | (with_reducible refine opsD_end ?_)
           | (with_reducible refine quietD_one ?_)
           | (with_reducible refine quietD_end ?_)
           | ((with_reducible refine isOps ?_); refine opsD_one ?_)
           | ((with_reducible refine isOps ?_); refine opsD_end ?_)
           | ((with_reducible refine isQuiet ?_); refine quietD_one ?_)
           | ((with_reducible refine isQuiet ?_); refine quietD_end ?_)
           | (conv => whnf
              first
              | (with_reducible refine opsK_go ?_)
              | (with_reducible refine quietK_go ?_)
              | ((first | (with_reducible refine br_t ?_) | (with_reducible refine br_f ?_) | (with_reducible refine br_c ?_)); repeat' (first | (with_reducible refine Br.tt ?_) | (with_reducible refine Br.ff ?_) | (with_reducible refine Br.nt ?_) | (with_reducible refine Br.nf ?_) | (with_reducible refine Br.condt ?_) | (with_reducible refine Br.condf ?_) | (with_reducible refine Br.ncondt ?_) | (with_reducible refine Br.ncondf ?_) | ((first | (with_reducible refine Br.lt (fun hb => ?_) (fun hb => ?_)) | (with_reducible refine Br.le (fun hb => ?_) (fun hb => ?_)) | (with_reducible refine Br.eqn (fun hb => ?_) (fun hb => ?_)) | (with_reducible refine Br.nlt (fun hb => ?_) (fun hb => ?_)) | (with_reducible refine Br.nle (fun hb => ?_) (fun hb => ?_)) | (with_reducible refine Br.neqn (fun hb => ?_) (fun hb => ?_)) | (with_reducible refine Br.dec (fun hb => ?_) (fun hb => ?_)) | (with_reducible refine Br.beq (fun hb => ?_) (fun hb => ?_)) | (with_reducible refine Br.ndec (fun hb => ?_) (fun hb => ?_)) | (with_reducible refine Br.nbeq (fun hb => ?_) (fun hb => ?_)) | (with_reducible refine Br.nsym (fun hb => ?_) (fun hb => ?_)) | (with_reducible refine Br.sym (fun hb => ?_) (fun hb => ?_))) <;> (try (first | exact absurd rfl hb | exact absurd (hb.symm.trans hv) (by decide) | exact absurd (hb.symm.trans hv2) (by decide) | exact absurd (hb.symm.trans hv3) (by decide) | exact absurd hb (List.cons_ne_nil _ _) | exact absurd hb (by decide) | (exfalso; omega))))))
              | ((with_reducible refine isCall ?_); first | (refine call_pure (c_l02Abs _ (by omega)) rfl rfl ?_) | (refine call_pure (c_l00Min _ _) rfl rfl ?_) | (refine call_pure (c_l00Max _ _) rfl rfl ?_))
              | ((with_reducible refine isCallQ ?_); first | (refine callQ_pure (c_l02Abs _ (by omega)) rfl rfl ?_) | (refine callQ_pure (c_l00Min _ _) rfl rfl ?_) | (refine callQ_pure (c_l00Max _ _) rfl rfl ?_))
              | (refine SameV.mk ?_)
              | (refine NeedS.mk (by (try simp only [cutL, List.length_map, List.length_append, List.length_cons, List.length_nil, List.length_take, List.length_drop, List.length_replicate]); omega) ?_)
              | (refine CapS.mk fun c hc hcm => ?_; try simp only [List.length_map, List.length_append, List.length_cons, List.length_nil] at hc)
              | (refine CutS.zn (by (try simp only [cutL, List.length_map, List.length_append, List.length_cons, List.length_nil, List.length_take, List.length_drop, List.length_replicate]); omega) ?_)
              | (refine CutS.nn (by omega) (by (try simp only [cutL, List.length_map, List.length_append, List.length_cons, List.length_nil, List.length_take, List.length_drop, List.length_replicate]); omega) ?_)
              | (refine CutS.at (by (try simp only [cutL, List.length_map, List.length_append, List.length_cons, List.length_nil, List.length_take, List.length_drop, List.length_replicate]); omega) fun i1 i2 hi1 hi2 hj1 hj2 => ?_; try simp only [cutL, List.length_map, List.length_append, List.length_cons, List.length_nil, List.length_take, List.length_drop, List.length_replicate] at hi1 hi2 hj2)
              | (refine SameL.mk ?_)
              | (refine LenS.nil ?_)
              | (refine LenS.one ?_)
              | (refine LenS.map fun hlen => ?_)
              | (refine LenS.int fun hlen => ?_)
              | (refine ArithS.in64 (by omega) ?_)
              | (refine MakeS.nat rfl (by omega) ?_)
              | (refine InS.fill (by omega) ?_)
              | (refine ElemS.fill (by omega) ?_)
              | (refine InS.nat (by omega) ?_)
              | (refine InS.nat (by (try simp only [List.length_map]); omega) ?_)
              | (refine ElemS.the (by assumption) ?_)
              | (refine ElemS.nat (by omega) fun x hx => ?_)
              | (refine ByteS.the (by assumption) ?_)
              | (refine ByteS.nat (by omega) fun x hx => ?_)
              | (refine ElemS.at (by omega) fun i y hi hy => ?_)
              | (refine ByteS.at (by omega) fun i y hi hy => ?_)
              | (refine InS.at (by omega) fun i hi => ?_)
              | (refine AskS.app rfl (by (try simp only [cutL, List.length_take, List.length_drop, List.length_replicate, List.length_map, List.length_append, List.length_cons, List.length_nil]); omega) ?_)
              | (refine draw_k (by decide +kernel) (by decide +kernel) ?_)
              | (refine draw_kb (by decide +kernel) (by decide +kernel) ?_)
              | (refine ret_pick [] rfl rfl rfl ⟨?_, rfl⟩; conv => lhs; whnf)
              | (refine ret_pick [0] rfl rfl rfl ⟨rfl, ?_⟩)
              | (refine he _ _ ?_; clear hn he hr Q') | (refine hn _ ?_; clear hn he hr Q') | (refine hr _ ?_; clear hn he hr Q')))
  refine loop_env (fun p : Nat × Nat => [(0,.int .i64 y),(1,.int .i64 x),(5,.int .i64 (min (absI x) (absI y))),(6,.int .i64 (max (absI x) (absI y))),(7,.int .i64 p.1),(8,.int .i64 p.2)]) (fun _ => []) (fun p => p.1 ≤ p.2 ∧ p.2 ≤ 45000 ∧ bsr (arcT (min (absI x) (absI y)) (max (absI x) (absI y))) p.1 p.2 = arcLow y x) (fun p => p.2 - p.1) (0, 45000) ⟨by simp, by simp, by simp only [arcLow]⟩ (by refine weak_to rfl rfl rfl ?_; exact ⟨rfl, rfl, rfl, rfl, rfl, rfl, trivial⟩) (fun p hk Q' hn he hr => ?_)
  obtain ⟨low, high⟩ := p
  obtain ⟨h1, h2, h3⟩ := hk
  simp only at h1 h2 h3 ⊢
  generalize hu : min (absI x) (absI y) = u at h3 ⊢
  generalize hvv : max (absI x) (absI y) = v at h3 ⊢
  obtain ⟨mid, hmid⟩ : ∃ mid : Nat, mid = (low + high) / 2 := ⟨_, rfl⟩
  have hq : ((low : Int) + high).tdiv 2 = (mid : Int) := by rw [Int.tdiv_eq_ediv_of_nonneg (by omega)]; omega
  have hm1 := mul_bound (x := sinA mid) (y := v) (m := 1000000) (n := 1000000000000) (sinA_bound _) (by omega) (by omega)
  have hm2 := mul_bound (x := cosA mid) (y := u) (m := 1000000) (n := 1000000000000) (cosA_bound _) (by omega) (by omega)
  repeat' (first
           | (with_reducible refine awp_seq_k (fun Q' hn he hr => ?_))
           | (with_reducible refine awp_block_k (fun Q' hn he hr => ?_))
           | (with_reducible refine awp_cond_k ?_)
           | (with_reducible refine awp_region_k ?_)
           | (with_reducible refine awp_draw_k ?_)
           | (with_reducible refine awp_ret_k ?_)
           | (with_reducible refine awp_exit_k ?_)
           | (with_reducible refine awp_skip_k ?_)
           | (with_reducible refine awp_label_k ?_)
           | (with_reducible refine awp_scope_k ?_)
           | (with_reducible refine awp_loop_k ?_)
           | (with_reducible refine hn _ ?_; clear hn he hr Q')
           | (with_reducible refine hr _ ?_; clear hn he hr Q')
           | (with_reducible refine he _ _ ?_; clear hn he hr Q')
           | (with_reducible refine opsK_go ?_)
           | (with_reducible refine quietK_go ?_)
           | (with_reducible refine opsD_one ?_)
           | (with_reducible refine opsD_end ?_)
           | (with_reducible refine quietD_one ?_)
           | (with_reducible refine quietD_end ?_)
           | ((with_reducible refine isOps ?_); refine opsD_one ?_)
           | ((with_reducible refine isOps ?_); refine opsD_end ?_)
           | ((with_reducible refine isQuiet ?_); refine quietD_one ?_)
           | ((with_reducible refine isQuiet ?_); refine quietD_end ?_)
           | (conv => whnf
              first
              | (with_reducible refine opsK_go ?_)
              | (with_reducible refine quietK_go ?_)
              | ((first | (with_reducible refine br_t ?_) | (with_reducible refine br_f ?_) | (with_reducible refine br_c ?_)); repeat' (first | (with_reducible refine Br.tt ?_) | (with_reducible refine Br.ff ?_) | (with_reducible refine Br.nt ?_) | (with_reducible refine Br.nf ?_) | (with_reducible refine Br.condt ?_) | (with_reducible refine Br.condf ?_) | (with_reducible refine Br.ncondt ?_) | (with_reducible refine Br.ncondf ?_) | ((first | (with_reducible refine Br.lt (fun hb => ?_) (fun hb => ?_)) | (with_reducible refine Br.le (fun hb => ?_) (fun hb => ?_)) | (with_reducible refine Br.eqn (fun hb => ?_) (fun hb => ?_)) | (with_reducible refine Br.nlt (fun hb => ?_) (fun hb => ?_)) | (with_reducible refine Br.nle (fun hb => ?_) (fun hb => ?_)) | (with_reducible refine Br.neqn (fun hb => ?_) (fun hb => ?_)) | (with_reducible refine Br.dec (fun hb => ?_) (fun hb => ?_)) | (with_reducible refine Br.beq (fun hb => ?_) (fun hb => ?_)) | (with_reducible refine Br.ndec (fun hb => ?_) (fun hb => ?_)) | (with_reducible refine Br.nbeq (fun hb => ?_) (fun hb => ?_)) | (with_reducible refine Br.nsym (fun hb => ?_) (fun hb => ?_)) | (with_reducible refine Br.sym (fun hb => ?_) (fun hb => ?_))) <;> (try (first | exact absurd rfl hb | exact absurd (hb.symm.trans hv) (by decide) | exact absurd (hb.symm.trans hv2) (by decide) | exact absurd (hb.symm.trans hv3) (by decide) | exact absurd hb (List.cons_ne_nil _ _) | exact absurd hb (by decide) | (exfalso; omega))))))
              | (refine AskS.mk ⟨by omega, ?_⟩)
              | (with_reducible refine ArithS.quo hq (by omega) ?_)
              | ((with_reducible refine isCall ?_); first | (refine call_pure (c_spec_l02Sine _ (by unfold i64B; omega)) rfl rfl ?_) | (refine call_pure (c_spec_l02Cosine _ (by unfold i64B; omega)) rfl rfl ?_) | (refine call_pure (c_spec_l02Normal _ (by unfold i64B; omega)) rfl rfl ?_) | (refine call_pure (c_l02Abs _ (by omega)) rfl rfl ?_))
              | ((with_reducible refine isCallQ ?_); first | (refine callQ_pure (c_spec_l02Sine _ (by unfold i64B; omega)) rfl rfl ?_) | (refine callQ_pure (c_spec_l02Cosine _ (by unfold i64B; omega)) rfl rfl ?_) | (refine callQ_pure (c_spec_l02Normal _ (by unfold i64B; omega)) rfl rfl ?_) | (refine callQ_pure (c_l02Abs _ (by omega)) rfl rfl ?_))
              | (refine SameV.mk ?_)
              | (refine NeedS.mk (by (try simp only [cutL, List.length_map, List.length_append, List.length_cons, List.length_nil, List.length_take, List.length_drop, List.length_replicate]); omega) ?_)
              | (refine CapS.mk fun c hc hcm => ?_; try simp only [List.length_map, List.length_append, List.length_cons, List.length_nil] at hc)
              | (refine CutS.zn (by (try simp only [cutL, List.length_map, List.length_append, List.length_cons, List.length_nil, List.length_take, List.length_drop, List.length_replicate]); omega) ?_)
              | (refine CutS.nn (by omega) (by (try simp only [cutL, List.length_map, List.length_append, List.length_cons, List.length_nil, List.length_take, List.length_drop, List.length_replicate]); omega) ?_)
              | (refine CutS.at (by (try simp only [cutL, List.length_map, List.length_append, List.length_cons, List.length_nil, List.length_take, List.length_drop, List.length_replicate]); omega) fun i1 i2 hi1 hi2 hj1 hj2 => ?_; try simp only [cutL, List.length_map, List.length_append, List.length_cons, List.length_nil, List.length_take, List.length_drop, List.length_replicate] at hi1 hi2 hj2)
              | (refine SameL.mk ?_)
              | (refine LenS.nil ?_)
              | (refine LenS.one ?_)
              | (refine LenS.map fun hlen => ?_)
              | (refine LenS.int fun hlen => ?_)
              | (refine ArithS.in64 (by omega) ?_)
              | (refine MakeS.nat rfl (by omega) ?_)
              | (refine InS.fill (by omega) ?_)
              | (refine ElemS.fill (by omega) ?_)
              | (refine InS.nat (by omega) ?_)
              | (refine InS.nat (by (try simp only [List.length_map]); omega) ?_)
              | (refine ElemS.the (by assumption) ?_)
              | (refine ElemS.nat (by omega) fun x hx => ?_)
              | (refine ByteS.the (by assumption) ?_)
              | (refine ByteS.nat (by omega) fun x hx => ?_)
              | (refine ElemS.at (by omega) fun i y hi hy => ?_)
              | (refine ByteS.at (by omega) fun i y hi hy => ?_)
              | (refine InS.at (by omega) fun i hi => ?_)
              | (refine AskS.app rfl (by (try simp only [cutL, List.length_take, List.length_drop, List.length_replicate, List.length_map, List.length_append, List.length_cons, List.length_nil]); omega) ?_)
              | (refine draw_k (by decide +kernel) (by decide +kernel) ?_)
              | (refine draw_kb (by decide +kernel) (by decide +kernel) ?_)
              | (refine ret_pick [] rfl rfl rfl ⟨?_, rfl⟩; conv => lhs; whnf)
              | (refine ret_pick [0] rfl rfl rfl ⟨rfl, ?_⟩)
              | (refine he _ _ ?_; clear hn he hr Q') | (refine hn _ ?_; clear hn he hr Q') | (refine hr _ ?_; clear hn he hr Q')))
  · have hT : arcT u v mid = true := decide_eq_true hb
    rw [bsr_yes (by omega) (by rw [← hmid]; exact hT), ← hmid] at h3
    subst hu hvv
    exact ⟨(low, mid), ⟨by simp; omega, by simp; omega, h3⟩, by simp; omega, (by refine weak_to rfl rfl rfl ?_; ((repeat' (first | exact trivial | refine And.intro ?_ ?_)) <;> (first | rfl | (conv => rhs; whnf) <;> (first | rfl | (refine congrArg (D.int _) ?_; omega)))))⟩
  · have hT : ¬ arcT u v mid = true := by unfold arcT; simp; omega
    rw [bsr_no (by omega) (by rw [← hmid]; exact hT), ← hmid] at h3
    subst hu hvv
    exact ⟨(mid + 1, high), ⟨by simp; omega, by simp; omega, h3⟩, by simp; omega, (by refine weak_to rfl rfl rfl ?_; ((repeat' (first | exact trivial | refine And.intro ?_ ?_)) <;> (first | rfl | (conv => rhs; whnf) <;> (first | rfl | (refine congrArg (D.int _) ?_; omega)))))⟩
  all_goals
    rw [bsr_end (by omega)] at h3
    refine congrArg (D.int _) ?_
    unfold arcA arcB
    rw [← h3]
    (repeat' split) <;> omega
end Go.Eng
