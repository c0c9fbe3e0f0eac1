/-
  The cache after all uses, by the reference: what it says of uses; rows without one element.
  No conditions.
-/
import Derived.Test.YthhmhmbdfahkjaaED
import Derived.Test.YthhmhmbdfahkjaaM3
namespace Go.Eng
open Go Go.RowKit Go.Proofs
set_option maxRecDepth 100000
set_option maxHeartbeats 4000000 in
theorem c_spec_l25Uses (a : List TMedia) (uses : List SB) (hv : validMs a = true) : FnC Try.prog 71 G0 0 [] [.sl 2 (a.map encMedia), .sl 1 (uses.map encS)] (fun d os => d = .int .i64 (usesErr a uses) ∧ os = []) := by
  cases hs : sized a uses with
  | false =>
    have he : usesErr a uses = 3 := by unfold usesErr; rw [if_neg (by rw [hs]; simp)]
    obtain ⟨j, y, hj, hy0⟩ := unsized hs
    have hjl := (List.getElem?_eq_some_iff.1 hj).1
    refine fn_rule Try.func71 rfl (by decide +kernel) rfl (fun w0 F0 lent β0 => ?_)
    repeat' (first
             | (with_reducible refine awp_seq_k (fun Q' hn he hr => ?_))
             | (with_reducible refine awp_block_k (fun Q' hn he hr => ?_))
             | (with_reducible refine awp_cond_k ?_)
             | (with_reducible refine awp_region_k ?_)
             | (with_reducible refine awp_draw_k ?_)
             | (with_reducible refine awp_ret_k ?_)
             | (with_reducible refine awp_exit_k ?_)
             | (with_reducible refine awp_skip_k ?_)
             | (with_reducible refine awp_label_k ?_)
             | (with_reducible refine awp_scope_k ?_)
             | (with_reducible refine awp_loop_k ?_)
             | (with_reducible refine hn _ ?_; clear hn he hr Q')
             | (with_reducible refine hr _ ?_; clear hn he hr Q')
             | (with_reducible refine he _ _ ?_; clear hn he hr Q')
             | (conv => whnf
                first
                | ((first | (with_reducible refine br_t ?_) | (with_reducible refine br_f ?_) | (with_reducible refine br_c ?_)); repeat' (first | (with_reducible refine Br.tt ?_) | (with_reducible refine Br.ff ?_) | (with_reducible refine Br.nt ?_) | (with_reducible refine Br.nf ?_) | (with_reducible refine Br.condt ?_) | (with_reducible refine Br.condf ?_) | (with_reducible refine Br.ncondt ?_) | (with_reducible refine Br.ncondf ?_) | ((first | (with_reducible refine Br.lt (fun hb => ?_) (fun hb => ?_)) | (with_reducible refine Br.le (fun hb => ?_) (fun hb => ?_)) | (with_reducible refine Br.eqn (fun hb => ?_) (fun hb => ?_)) | (with_reducible refine Br.nlt (fun hb => ?_) (fun hb => ?_)) | (with_reducible refine Br.nle (fun hb => ?_) (fun hb => ?_)) | (with_reducible refine Br.neqn (fun hb => ?_) (fun hb => ?_)) | (with_reducible refine Br.dec (fun hb => ?_) (fun hb => ?_)) | (with_reducible refine Br.beq (fun hb => ?_) (fun hb => ?_)) | (with_reducible refine Br.ndec (fun hb => ?_) (fun hb => ?_)) | (with_reducible refine Br.nbeq (fun hb => ?_) (fun hb => ?_)) | (with_reducible refine Br.nsym (fun hb => ?_) (fun hb => ?_)) | (with_reducible refine Br.sym (fun hb => ?_) (fun hb => ?_))) <;> (try (first | exact absurd rfl hb | exact absurd (hb.symm.trans hv) (by decide) | exact absurd (hb.symm.trans hv2) (by decide) | exact absurd (hb.symm.trans hv3) (by decide) | exact absurd hb (List.cons_ne_nil _ _) | exact absurd hb (by decide) | (exfalso; omega))))))
                | ((with_reducible refine isCall ?_); first | (refine call_pure (c_spec_l25Ok _) rfl rfl ?_))
                | ((with_reducible refine isCallQ ?_); first | (refine callQ_pure (c_spec_l25Ok _) rfl rfl ?_))
                | (refine SameV.mk ?_)
                | (refine NeedS.mk (by (try simp only [cutL, List.length_map, List.length_append, List.length_cons, List.length_nil, List.length_take, List.length_drop, List.length_replicate]); omega) ?_)
                | (refine CapS.mk fun c hc hcm => ?_; try simp only [List.length_map, List.length_append, List.length_cons, List.length_nil] at hc)
                | (refine CutS.zn (by (try simp only [cutL, List.length_map, List.length_append, List.length_cons, List.length_nil, List.length_take, List.length_drop, List.length_replicate]); omega) ?_)
                | (refine CutS.nn (by omega) (by (try simp only [cutL, List.length_map, List.length_append, List.length_cons, List.length_nil, List.length_take, List.length_drop, List.length_replicate]); omega) ?_)
                | (refine CutS.at (by (try simp only [cutL, List.length_map, List.length_append, List.length_cons, List.length_nil, List.length_take, List.length_drop, List.length_replicate]); omega) fun i1 i2 hi1 hi2 hj1 hj2 => ?_; try simp only [cutL, List.length_map, List.length_append, List.length_cons, List.length_nil, List.length_take, List.length_drop, List.length_replicate] at hi1 hi2 hj2)
                | (refine SameL.mk ?_)
                | (refine LenS.nil ?_)
                | (refine LenS.one ?_)
                | (refine LenS.map fun hlen => ?_)
                | (refine LenS.int fun hlen => ?_)
                | (refine ArithS.in64 (by omega) ?_)
                | (refine MakeS.nat rfl (by omega) ?_)
                | (refine InS.fill (by omega) ?_)
                | (refine ElemS.fill (by omega) ?_)
                | (refine InS.nat (by omega) ?_)
                | (refine InS.nat (by (try simp only [List.length_map]); omega) ?_)
                | (refine ElemS.the (by assumption) ?_)
                | (refine ElemS.nat (by omega) fun x hx => ?_)
                | (refine ByteS.the (by assumption) ?_)
                | (refine ByteS.nat (by omega) fun x hx => ?_)
                | (refine ElemS.at (by omega) fun i y hi hy => ?_)
                | (refine ByteS.at (by omega) fun i y hi hy => ?_)
                | (refine InS.at (by omega) fun i hi => ?_)
                | (refine AskS.app rfl (by (try simp only [cutL, List.length_take, List.length_drop, List.length_replicate, List.length_map, List.length_append, List.length_cons, List.length_nil]); omega) ?_)
                | (refine draw_k (by decide +kernel) (by decide +kernel) ?_)
                | (refine draw_kb (by decide +kernel) (by decide +kernel) ?_)
                | (refine ret_pick [] rfl rfl rfl ⟨?_, rfl⟩; conv => lhs; whnf)
                | (refine ret_pick [0] rfl rfl rfl ⟨rfl, ?_⟩)
                | (refine he _ _ ?_; clear hn he hr Q') | (refine hn _ ?_; clear hn he hr Q') | (refine hr _ ?_; clear hn he hr Q')))
    refine loop_env (fun k : Nat => [(0,.sl 2 (a.map encMedia)),(1,.sl 1 (uses.map encS)),(5,.int .i64 k)]) (fun _ => []) (fun k => k ≤ j) (fun k => j - k) 0 (by omega) (by refine weak_to rfl rfl rfl ?_; ((repeat' (first | exact trivial | refine And.intro ?_ ?_)) <;> (first | rfl | (conv => rhs; whnf) <;> (first | rfl | (refine congrArg (D.int _) ?_; omega))))) (fun k hk Q' hn he hr => ?_)
    repeat' (first
             | (with_reducible refine awp_seq_k (fun Q' hn he hr => ?_))
             | (with_reducible refine awp_block_k (fun Q' hn he hr => ?_))
             | (with_reducible refine awp_cond_k ?_)
             | (with_reducible refine awp_region_k ?_)
             | (with_reducible refine awp_draw_k ?_)
             | (with_reducible refine awp_ret_k ?_)
             | (with_reducible refine awp_exit_k ?_)
             | (with_reducible refine awp_skip_k ?_)
             | (with_reducible refine awp_label_k ?_)
             | (with_reducible refine awp_scope_k ?_)
             | (with_reducible refine awp_loop_k ?_)
             | (with_reducible refine hn _ ?_; clear hn he hr Q')
             | (with_reducible refine hr _ ?_; clear hn he hr Q')
             | (with_reducible refine he _ _ ?_; clear hn he hr Q')
             | (conv => whnf
                first
                | ((first | (with_reducible refine br_t ?_) | (with_reducible refine br_f ?_) | (with_reducible refine br_c ?_)); repeat' (first | (with_reducible refine Br.tt ?_) | (with_reducible refine Br.ff ?_) | (with_reducible refine Br.nt ?_) | (with_reducible refine Br.nf ?_) | (with_reducible refine Br.condt ?_) | (with_reducible refine Br.condf ?_) | (with_reducible refine Br.ncondt ?_) | (with_reducible refine Br.ncondf ?_) | ((first | (with_reducible refine Br.lt (fun hb => ?_) (fun hb => ?_)) | (with_reducible refine Br.le (fun hb => ?_) (fun hb => ?_)) | (with_reducible refine Br.eqn (fun hb => ?_) (fun hb => ?_)) | (with_reducible refine Br.nlt (fun hb => ?_) (fun hb => ?_)) | (with_reducible refine Br.nle (fun hb => ?_) (fun hb => ?_)) | (with_reducible refine Br.neqn (fun hb => ?_) (fun hb => ?_)) | (with_reducible refine Br.dec (fun hb => ?_) (fun hb => ?_)) | (with_reducible refine Br.beq (fun hb => ?_) (fun hb => ?_)) | (with_reducible refine Br.ndec (fun hb => ?_) (fun hb => ?_)) | (with_reducible refine Br.nbeq (fun hb => ?_) (fun hb => ?_)) | (with_reducible refine Br.nsym (fun hb => ?_) (fun hb => ?_)) | (with_reducible refine Br.sym (fun hb => ?_) (fun hb => ?_))) <;> (try (first | exact absurd rfl hb | exact absurd (hb.symm.trans hv) (by decide) | exact absurd (hb.symm.trans hv2) (by decide) | exact absurd (hb.symm.trans hv3) (by decide) | exact absurd hb (List.cons_ne_nil _ _) | exact absurd hb (by decide) | (exfalso; omega))))))
                | ((with_reducible refine isCall ?_); first | (refine call_look (c_spec_l25Size _ _) rfl ?_))
                | ((with_reducible refine isCallQ ?_); first | (refine callQ_look (c_spec_l25Size _ _) rfl ?_))
                | (refine SameV.mk ?_)
                | (refine NeedS.mk (by (try simp only [cutL, List.length_map, List.length_append, List.length_cons, List.length_nil, List.length_take, List.length_drop, List.length_replicate]); omega) ?_)
                | (refine CapS.mk fun c hc hcm => ?_; try simp only [List.length_map, List.length_append, List.length_cons, List.length_nil] at hc)
                | (refine CutS.zn (by (try simp only [cutL, List.length_map, List.length_append, List.length_cons, List.length_nil, List.length_take, List.length_drop, List.length_replicate]); omega) ?_)
                | (refine CutS.nn (by omega) (by (try simp only [cutL, List.length_map, List.length_append, List.length_cons, List.length_nil, List.length_take, List.length_drop, List.length_replicate]); omega) ?_)
                | (refine CutS.at (by (try simp only [cutL, List.length_map, List.length_append, List.length_cons, List.length_nil, List.length_take, List.length_drop, List.length_replicate]); omega) fun i1 i2 hi1 hi2 hj1 hj2 => ?_; try simp only [cutL, List.length_map, List.length_append, List.length_cons, List.length_nil, List.length_take, List.length_drop, List.length_replicate] at hi1 hi2 hj2)
                | (refine SameL.mk ?_)
                | (refine LenS.nil ?_)
                | (refine LenS.one ?_)
                | (refine LenS.map fun hlen => ?_)
                | (refine LenS.int fun hlen => ?_)
                | (refine ArithS.in64 (by omega) ?_)
                | (refine MakeS.nat rfl (by omega) ?_)
                | (refine InS.fill (by omega) ?_)
                | (refine ElemS.fill (by omega) ?_)
                | (refine InS.nat (by omega) ?_)
                | (refine InS.nat (by (try simp only [List.length_map]); omega) ?_)
                | (refine ElemS.the (by assumption) ?_)
                | (refine ElemS.nat (by omega) fun x hx => ?_)
                | (refine ByteS.the (by assumption) ?_)
                | (refine ByteS.nat (by omega) fun x hx => ?_)
                | (refine ElemS.at (by omega) fun i y hi hy => ?_)
                | (refine ByteS.at (by omega) fun i y hi hy => ?_)
                | (refine InS.at (by omega) fun i hi => ?_)
                | (refine AskS.app rfl (by (try simp only [cutL, List.length_take, List.length_drop, List.length_replicate, List.length_map, List.length_append, List.length_cons, List.length_nil]); omega) ?_)
                | (refine draw_k (by decide +kernel) (by decide +kernel) ?_)
                | (refine draw_kb (by decide +kernel) (by decide +kernel) ?_)
                | (refine ret_pick [] rfl rfl rfl ⟨?_, rfl⟩; conv => lhs; whnf)
                | (refine ret_pick [0] rfl rfl rfl ⟨rfl, ?_⟩)
                | (refine he _ _ ?_; clear hn he hr Q') | (refine hn _ ?_; clear hn he hr Q') | (refine hr _ ?_; clear hn he hr Q')))
    · rw [he]
    · have hkj : k ≠ j := by
        rintro rfl
        rw [hj] at hx; cases hx
        exact absurd hy0 (by assumption)
      exact ⟨k + 1, by omega, by omega, (by refine weak_to rfl rfl rfl ?_; ((repeat' (first | exact trivial | refine And.intro ?_ ?_)) <;> (first | rfl | (conv => rhs; whnf) <;> (first | rfl | (refine congrArg (D.int _) ?_; omega)))))⟩
  | true =>
    have hz := sized_ok hv hs
    have he : usesErr a uses = if uses.length ≤ 40 then 0 else 5 := by unfold usesErr; rw [if_pos hs]
    refine fn_rule Try.func71 rfl (by decide +kernel) rfl (fun w0 F0 lent β0 => ?_)
    repeat' (first
             | (with_reducible refine awp_seq_k (fun Q' hn he hr => ?_))
             | (with_reducible refine awp_block_k (fun Q' hn he hr => ?_))
             | (with_reducible refine awp_cond_k ?_)
             | (with_reducible refine awp_region_k ?_)
             | (with_reducible refine awp_draw_k ?_)
             | (with_reducible refine awp_ret_k ?_)
             | (with_reducible refine awp_exit_k ?_)
             | (with_reducible refine awp_skip_k ?_)
             | (with_reducible refine awp_label_k ?_)
             | (with_reducible refine awp_scope_k ?_)
             | (with_reducible refine awp_loop_k ?_)
             | (with_reducible refine hn _ ?_; clear hn he hr Q')
             | (with_reducible refine hr _ ?_; clear hn he hr Q')
             | (with_reducible refine he _ _ ?_; clear hn he hr Q')
             | (conv => whnf
                first
                | ((first | (with_reducible refine br_t ?_) | (with_reducible refine br_f ?_) | (with_reducible refine br_c ?_)); repeat' (first | (with_reducible refine Br.tt ?_) | (with_reducible refine Br.ff ?_) | (with_reducible refine Br.nt ?_) | (with_reducible refine Br.nf ?_) | (with_reducible refine Br.condt ?_) | (with_reducible refine Br.condf ?_) | (with_reducible refine Br.ncondt ?_) | (with_reducible refine Br.ncondf ?_) | ((first | (with_reducible refine Br.lt (fun hb => ?_) (fun hb => ?_)) | (with_reducible refine Br.le (fun hb => ?_) (fun hb => ?_)) | (with_reducible refine Br.eqn (fun hb => ?_) (fun hb => ?_)) | (with_reducible refine Br.nlt (fun hb => ?_) (fun hb => ?_)) | (with_reducible refine Br.nle (fun hb => ?_) (fun hb => ?_)) | (with_reducible refine Br.neqn (fun hb => ?_) (fun hb => ?_)) | (with_reducible refine Br.dec (fun hb => ?_) (fun hb => ?_)) | (with_reducible refine Br.beq (fun hb => ?_) (fun hb => ?_)) | (with_reducible refine Br.ndec (fun hb => ?_) (fun hb => ?_)) | (with_reducible refine Br.nbeq (fun hb => ?_) (fun hb => ?_)) | (with_reducible refine Br.nsym (fun hb => ?_) (fun hb => ?_)) | (with_reducible refine Br.sym (fun hb => ?_) (fun hb => ?_))) <;> (try (first | exact absurd rfl hb | exact absurd (hb.symm.trans hv) (by decide) | exact absurd (hb.symm.trans hv2) (by decide) | exact absurd (hb.symm.trans hv3) (by decide) | exact absurd hb (List.cons_ne_nil _ _) | exact absurd hb (by decide) | (exfalso; omega))))))
                | ((with_reducible refine isCall ?_); first | (refine call_pure (c_spec_l25Ok _) rfl rfl ?_))
                | ((with_reducible refine isCallQ ?_); first | (refine callQ_pure (c_spec_l25Ok _) rfl rfl ?_))
                | (refine SameV.mk ?_)
                | (refine NeedS.mk (by (try simp only [cutL, List.length_map, List.length_append, List.length_cons, List.length_nil, List.length_take, List.length_drop, List.length_replicate]); omega) ?_)
                | (refine CapS.mk fun c hc hcm => ?_; try simp only [List.length_map, List.length_append, List.length_cons, List.length_nil] at hc)
                | (refine CutS.zn (by (try simp only [cutL, List.length_map, List.length_append, List.length_cons, List.length_nil, List.length_take, List.length_drop, List.length_replicate]); omega) ?_)
                | (refine CutS.nn (by omega) (by (try simp only [cutL, List.length_map, List.length_append, List.length_cons, List.length_nil, List.length_take, List.length_drop, List.length_replicate]); omega) ?_)
                | (refine CutS.at (by (try simp only [cutL, List.length_map, List.length_append, List.length_cons, List.length_nil, List.length_take, List.length_drop, List.length_replicate]); omega) fun i1 i2 hi1 hi2 hj1 hj2 => ?_; try simp only [cutL, List.length_map, List.length_append, List.length_cons, List.length_nil, List.length_take, List.length_drop, List.length_replicate] at hi1 hi2 hj2)
                | (refine SameL.mk ?_)
                | (refine LenS.nil ?_)
                | (refine LenS.one ?_)
                | (refine LenS.map fun hlen => ?_)
                | (refine LenS.int fun hlen => ?_)
                | (refine ArithS.in64 (by omega) ?_)
                | (refine MakeS.nat rfl (by omega) ?_)
                | (refine InS.fill (by omega) ?_)
                | (refine ElemS.fill (by omega) ?_)
                | (refine InS.nat (by omega) ?_)
                | (refine InS.nat (by (try simp only [List.length_map]); omega) ?_)
                | (refine ElemS.the (by assumption) ?_)
                | (refine ElemS.nat (by omega) fun x hx => ?_)
                | (refine ByteS.the (by assumption) ?_)
                | (refine ByteS.nat (by omega) fun x hx => ?_)
                | (refine ElemS.at (by omega) fun i y hi hy => ?_)
                | (refine ByteS.at (by omega) fun i y hi hy => ?_)
                | (refine InS.at (by omega) fun i hi => ?_)
                | (refine AskS.app rfl (by (try simp only [cutL, List.length_take, List.length_drop, List.length_replicate, List.length_map, List.length_append, List.length_cons, List.length_nil]); omega) ?_)
                | (refine draw_k (by decide +kernel) (by decide +kernel) ?_)
                | (refine draw_kb (by decide +kernel) (by decide +kernel) ?_)
                | (refine ret_pick [] rfl rfl rfl ⟨?_, rfl⟩; conv => lhs; whnf)
                | (refine ret_pick [0] rfl rfl rfl ⟨rfl, ?_⟩)
                | (refine he _ _ ?_; clear hn he hr Q') | (refine hn _ ?_; clear hn he hr Q') | (refine hr _ ?_; clear hn he hr Q')))
    refine loop_env (fun k : Nat => [(0,.sl 2 (a.map encMedia)),(1,.sl 1 (uses.map encS)),(5,.int .i64 k)]) (fun _ => []) (fun k => k ≤ uses.length) (fun k => uses.length - k) 0 (by omega) (by refine weak_to rfl rfl rfl ?_; ((repeat' (first | exact trivial | refine And.intro ?_ ?_)) <;> (first | rfl | (conv => rhs; whnf) <;> (first | rfl | (refine congrArg (D.int _) ?_; omega))))) (fun k hk Q' hn he hr => ?_)
    repeat' (first
             | (with_reducible refine awp_seq_k (fun Q' hn he hr => ?_))
             | (with_reducible refine awp_block_k (fun Q' hn he hr => ?_))
             | (with_reducible refine awp_cond_k ?_)
             | (with_reducible refine awp_region_k ?_)
             | (with_reducible refine awp_draw_k ?_)
             | (with_reducible refine awp_ret_k ?_)
             | (with_reducible refine awp_exit_k ?_)
             | (with_reducible refine awp_skip_k ?_)
             | (with_reducible refine awp_label_k ?_)
             | (with_reducible refine awp_scope_k ?_)
             | (with_reducible refine awp_loop_k ?_)
             | (with_reducible refine hn _ ?_; clear hn he hr Q')
             | (with_reducible refine hr _ ?_; clear hn he hr Q')
             | (with_reducible refine he _ _ ?_; clear hn he hr Q')
             | (conv => whnf
                first
                | ((first | (with_reducible refine br_t ?_) | (with_reducible refine br_f ?_) | (with_reducible refine br_c ?_)); repeat' (first | (with_reducible refine Br.tt ?_) | (with_reducible refine Br.ff ?_) | (with_reducible refine Br.nt ?_) | (with_reducible refine Br.nf ?_) | (with_reducible refine Br.condt ?_) | (with_reducible refine Br.condf ?_) | (with_reducible refine Br.ncondt ?_) | (with_reducible refine Br.ncondf ?_) | ((first | (with_reducible refine Br.lt (fun hb => ?_) (fun hb => ?_)) | (with_reducible refine Br.le (fun hb => ?_) (fun hb => ?_)) | (with_reducible refine Br.eqn (fun hb => ?_) (fun hb => ?_)) | (with_reducible refine Br.nlt (fun hb => ?_) (fun hb => ?_)) | (with_reducible refine Br.nle (fun hb => ?_) (fun hb => ?_)) | (with_reducible refine Br.neqn (fun hb => ?_) (fun hb => ?_)) | (with_reducible refine Br.dec (fun hb => ?_) (fun hb => ?_)) | (with_reducible refine Br.beq (fun hb => ?_) (fun hb => ?_)) | (with_reducible refine Br.ndec (fun hb => ?_) (fun hb => ?_)) | (with_reducible refine Br.nbeq (fun hb => ?_) (fun hb => ?_)) | (with_reducible refine Br.nsym (fun hb => ?_) (fun hb => ?_)) | (with_reducible refine Br.sym (fun hb => ?_) (fun hb => ?_))) <;> (try (first | exact absurd rfl hb | exact absurd (hb.symm.trans hv) (by decide) | exact absurd (hb.symm.trans hv2) (by decide) | exact absurd (hb.symm.trans hv3) (by decide) | exact absurd hb (List.cons_ne_nil _ _) | exact absurd hb (by decide) | (exfalso; omega))))))
                | ((with_reducible refine isCall ?_); first | (refine call_look (c_spec_l25Size _ _) rfl ?_))
                | ((with_reducible refine isCallQ ?_); first | (refine callQ_look (c_spec_l25Size _ _) rfl ?_))
                | (refine SameV.mk ?_)
                | (refine NeedS.mk (by (try simp only [cutL, List.length_map, List.length_append, List.length_cons, List.length_nil, List.length_take, List.length_drop, List.length_replicate]); omega) ?_)
                | (refine CapS.mk fun c hc hcm => ?_; try simp only [List.length_map, List.length_append, List.length_cons, List.length_nil] at hc)
                | (refine CutS.zn (by (try simp only [cutL, List.length_map, List.length_append, List.length_cons, List.length_nil, List.length_take, List.length_drop, List.length_replicate]); omega) ?_)
                | (refine CutS.nn (by omega) (by (try simp only [cutL, List.length_map, List.length_append, List.length_cons, List.length_nil, List.length_take, List.length_drop, List.length_replicate]); omega) ?_)
                | (refine CutS.at (by (try simp only [cutL, List.length_map, List.length_append, List.length_cons, List.length_nil, List.length_take, List.length_drop, List.length_replicate]); omega) fun i1 i2 hi1 hi2 hj1 hj2 => ?_; try simp only [cutL, List.length_map, List.length_append, List.length_cons, List.length_nil, List.length_take, List.length_drop, List.length_replicate] at hi1 hi2 hj2)
                | (refine SameL.mk ?_)
                | (refine LenS.nil ?_)
                | (refine LenS.one ?_)
                | (refine LenS.map fun hlen => ?_)
                | (refine LenS.int fun hlen => ?_)
                | (refine ArithS.in64 (by omega) ?_)
                | (refine MakeS.nat rfl (by omega) ?_)
                | (refine InS.fill (by omega) ?_)
                | (refine ElemS.fill (by omega) ?_)
                | (refine InS.nat (by omega) ?_)
                | (refine InS.nat (by (try simp only [List.length_map]); omega) ?_)
                | (refine ElemS.the (by assumption) ?_)
                | (refine ElemS.nat (by omega) fun x hx => ?_)
                | (refine ByteS.the (by assumption) ?_)
                | (refine ByteS.nat (by omega) fun x hx => ?_)
                | (refine ElemS.at (by omega) fun i y hi hy => ?_)
                | (refine ByteS.at (by omega) fun i y hi hy => ?_)
                | (refine InS.at (by omega) fun i hi => ?_)
                | (refine AskS.app rfl (by (try simp only [cutL, List.length_take, List.length_drop, List.length_replicate, List.length_map, List.length_append, List.length_cons, List.length_nil]); omega) ?_)
                | (refine draw_k (by decide +kernel) (by decide +kernel) ?_)
                | (refine draw_kb (by decide +kernel) (by decide +kernel) ?_)
                | (refine ret_pick [] rfl rfl rfl ⟨?_, rfl⟩; conv => lhs; whnf)
                | (refine ret_pick [0] rfl rfl rfl ⟨rfl, ?_⟩)
                | (refine he _ _ ?_; clear hn he hr Q') | (refine hn _ ?_; clear hn he hr Q') | (refine hr _ ?_; clear hn he hr Q')))
    · exfalso
      have := hz _ (List.mem_of_getElem? hx)
      omega
    · exact ⟨k + 1, by omega, by omega, (by refine weak_to rfl rfl rfl ?_; ((repeat' (first | exact trivial | refine And.intro ?_ ?_)) <;> (first | rfl | (conv => rhs; whnf) <;> (first | rfl | (refine congrArg (D.int _) ?_; omega)))))⟩
    · rw [he, if_neg (by omega)]
    · rw [he, if_pos (by omega)]
theorem c_spec_victim_at (a : List TMedia) (uses l : List SB) (pol m : Int) (f : Nat) (j : Int) (hj : j = f) (hf : f ≤ uses.length) (hl : uses.length ≤ 1048576) : FnC Try.prog 88 G0 0 [] [.rp [.sl 2 (a.map encMedia), .sl 1 (uses.map encS), .int .i64 pol, .sl 1 (l.map encS), .int .i64 m], .int .i64 j] (fun d os => d = .int .i64 (vic pol (uses.drop f) l) ∧ os = []) := by
  subst hj
  exact c_spec_victim a uses l pol m f hf hl
theorem era_rows {l : List SB} {i i1 : Nat} (h : i1 = i + 1) : (era l i).map encS = [] ++ List.take (i - 0) (List.drop 0 (l.map encS)) ++ List.take ((l.map encS).length - i1) (List.drop i1 (l.map encS)) := by
  subst h
  rw [List.nil_append, List.drop_zero, Nat.sub_zero, show List.take ((l.map encS).length - (i + 1)) (List.drop (i + 1) (l.map encS)) = List.drop (i + 1) (l.map encS) from List.take_of_length_le (by simp)]
  unfold era
  rw [List.map_append, List.map_take, List.map_drop]
end Go.Eng
