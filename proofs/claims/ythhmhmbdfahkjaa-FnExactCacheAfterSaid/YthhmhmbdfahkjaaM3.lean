/-
  The cache after all uses: the program's.
  No conditions.
-/
import Derived.Test.YthhmhmbdfahkjaaM2
namespace Go.Eng
open Go Go.RowKit Go.Proofs
set_option maxRecDepth 100000
theorem sizeM_ok {a : List TMedia} (h : validMs a = true) {x : SB} (hx : sizeM a x ≠ 0) : 1 ≤ sizeM a x ∧ sizeM a x ≤ 100000 := by
  unfold sizeM at *
  split at hx
  · rename_i m hm
    simp only [validMs, Bool.and_eq_true] at h
    have h1 := listOk_at h.2 hm
    simp only [validM, inB, Bool.and_eq_true, decide_eq_true_eq] at h1
    exact h1.2
  · exact absurd rfl hx
/-- Is every use one of a file? -/
def sized (a : List TMedia) (uses : List SB) : Bool := uses.all fun x => decide (sizeM a x ≠ 0)
def usesErr (a : List TMedia) (uses : List SB) : Int := if sized a uses = true then (if uses.length ≤ 40 then 0 else 5) else 3
theorem sized_ok {a : List TMedia} {uses : List SB} (h : validMs a = true) (hs : sized a uses = true) : okZ (sizeM a) uses := fun x hx => by
  simp only [sized, List.all_eq_true, decide_eq_true_eq] at hs
  exact sizeM_ok h (hs x hx)
theorem usesErr_ok {a : List TMedia} {uses : List SB} (h : validMs a = true) (hu : usesErr a uses = 0) : okZ (sizeM a) uses ∧ uses.length ≤ 40 := by
  unfold usesErr at hu
  split at hu
  · rename_i hs
    split at hu
    · exact ⟨sized_ok h hs, by assumption⟩
    · cases hu
  · cases hu
theorem unsized {a : List TMedia} {uses : List SB} (h : sized a uses = false) : ∃ (j : Nat) (x : SB), uses[j]? = some x ∧ sizeM a x = 0 := by
  simp only [sized, List.all_eq_false] at h
  obtain ⟨x, hx, h2⟩ := h
  obtain ⟨j, hj⟩ := List.mem_iff_getElem?.1 hx
  exact ⟨j, x, hj, by simpa using h2⟩
set_option maxHeartbeats 4000000 in
theorem c_impl_useCache_bad1 (a : List TMedia) (uses : List SB) (cap pol : Int) (hv : validMs a = false) : FnC Try.prog 56 G0 0 [] [.sl 2 (a.map encMedia), .sl 1 (uses.map encS), .int .i64 cap, .int .i64 pol] (fun d os => d = .tup [.sl 1 [], .int .i64 0, .int .i64 1] ∧ os = []) := by
  refine fn_rule Try.func56 rfl (by decide +kernel) rfl (fun w0 F0 lent β0 => ?_)
  repeat' (first
           | (with_reducible refine awp_seq_k (fun Q' hn he hr => ?_))
           | (with_reducible refine awp_block_k (fun Q' hn he hr => ?_))
           | (with_reducible refine awp_cond_k ?_)
           | (with_reducible refine awp_region_k ?_)
           | (with_reducible refine awp_draw_k ?_)
           | (with_reducible refine awp_ret_k ?_)
           | (with_reducible refine awp_exit_k ?_)
           | (with_reducible refine awp_skip_k ?_)
           | (with_reducible refine awp_label_k ?_)
           | (with_reducible refine awp_scope_k ?_)
           | (with_reducible refine awp_loop_k ?_)
           | (with_reducible refine hn _ ?_; clear hn he hr Q')
           | (with_reducible refine hr _ ?_; clear hn he hr Q')
           | (with_reducible refine he _ _ ?_; clear hn he hr Q')
           | (conv => whnf
              first
              | ((first | (with_reducible refine br_t ?_) | (with_reducible refine br_f ?_) | (with_reducible refine br_c ?_)); repeat' (first | (with_reducible refine Br.tt ?_) | (with_reducible refine Br.ff ?_) | (with_reducible refine Br.nt ?_) | (with_reducible refine Br.nf ?_) | (with_reducible refine Br.condt ?_) | (with_reducible refine Br.condf ?_) | (with_reducible refine Br.ncondt ?_) | (with_reducible refine Br.ncondf ?_) | ((first | (with_reducible refine Br.lt (fun hb => ?_) (fun hb => ?_)) | (with_reducible refine Br.le (fun hb => ?_) (fun hb => ?_)) | (with_reducible refine Br.eqn (fun hb => ?_) (fun hb => ?_)) | (with_reducible refine Br.nlt (fun hb => ?_) (fun hb => ?_)) | (with_reducible refine Br.nle (fun hb => ?_) (fun hb => ?_)) | (with_reducible refine Br.neqn (fun hb => ?_) (fun hb => ?_)) | (with_reducible refine Br.dec (fun hb => ?_) (fun hb => ?_)) | (with_reducible refine Br.beq (fun hb => ?_) (fun hb => ?_)) | (with_reducible refine Br.ndec (fun hb => ?_) (fun hb => ?_)) | (with_reducible refine Br.nbeq (fun hb => ?_) (fun hb => ?_)) | (with_reducible refine Br.nsym (fun hb => ?_) (fun hb => ?_)) | (with_reducible refine Br.sym (fun hb => ?_) (fun hb => ?_))) <;> (try (first | exact absurd rfl hb | exact absurd (hb.symm.trans hv) (by decide) | exact absurd (hb.symm.trans hv2) (by decide) | exact absurd (hb.symm.trans hv3) (by decide) | exact absurd hb (List.cons_ne_nil _ _) | exact absurd hb (by decide) | (exfalso; omega))))))
              | ((with_reducible refine isCall ?_); first | (refine call_pure (c_impl_ValidMedia _) rfl rfl ?_))
              | ((with_reducible refine isCallQ ?_); first | (refine callQ_pure (c_impl_ValidMedia _) rfl rfl ?_))
              | ((with_reducible refine isRet ?_); first | (refine ret_nil 1 ?_; refine ret_pick [] rfl rfl rfl ⟨?_, rfl⟩))
              | (refine SameV.mk ?_)
              | (refine NeedS.mk (by (try simp only [cutL, List.length_map, List.length_append, List.length_cons, List.length_nil, List.length_take, List.length_drop, List.length_replicate]); omega) ?_)
              | (refine CapS.mk fun c hc hcm => ?_; try simp only [List.length_map, List.length_append, List.length_cons, List.length_nil] at hc)
              | (refine CutS.zn (by (try simp only [cutL, List.length_map, List.length_append, List.length_cons, List.length_nil, List.length_take, List.length_drop, List.length_replicate]); omega) ?_)
              | (refine CutS.nn (by omega) (by (try simp only [cutL, List.length_map, List.length_append, List.length_cons, List.length_nil, List.length_take, List.length_drop, List.length_replicate]); omega) ?_)
              | (refine CutS.at (by (try simp only [cutL, List.length_map, List.length_append, List.length_cons, List.length_nil, List.length_take, List.length_drop, List.length_replicate]); omega) fun i1 i2 hi1 hi2 hj1 hj2 => ?_; try simp only [cutL, List.length_map, List.length_append, List.length_cons, List.length_nil, List.length_take, List.length_drop, List.length_replicate] at hi1 hi2 hj2)
              | (refine SameL.mk ?_)
              | (refine LenS.nil ?_)
              | (refine LenS.one ?_)
              | (refine LenS.map fun hlen => ?_)
              | (refine LenS.int fun hlen => ?_)
              | (refine ArithS.in64 (by omega) ?_)
              | (refine MakeS.nat rfl (by omega) ?_)
              | (refine InS.fill (by omega) ?_)
              | (refine ElemS.fill (by omega) ?_)
              | (refine InS.nat (by omega) ?_)
              | (refine InS.nat (by (try simp only [List.length_map]); omega) ?_)
              | (refine ElemS.the (by assumption) ?_)
              | (refine ElemS.nat (by omega) fun x hx => ?_)
              | (refine ByteS.the (by assumption) ?_)
              | (refine ByteS.nat (by omega) fun x hx => ?_)
              | (refine ElemS.at (by omega) fun i y hi hy => ?_)
              | (refine ByteS.at (by omega) fun i y hi hy => ?_)
              | (refine InS.at (by omega) fun i hi => ?_)
              | (refine AskS.app rfl (by (try simp only [cutL, List.length_take, List.length_drop, List.length_replicate, List.length_map, List.length_append, List.length_cons, List.length_nil]); omega) ?_)
              | (refine draw_k (by decide +kernel) (by decide +kernel) ?_)
              | (refine draw_kb (by decide +kernel) (by decide +kernel) ?_)
              | (refine ret_pick [] rfl rfl rfl ⟨?_, rfl⟩; conv => lhs; whnf)
              | (refine ret_pick [0] rfl rfl rfl ⟨rfl, ?_⟩)
              | (refine he _ _ ?_; clear hn he hr Q') | (refine hn _ ?_; clear hn he hr Q') | (refine hr _ ?_; clear hn he hr Q')))
  rfl
set_option maxHeartbeats 4000000 in
theorem c_impl_useCache_bad2 (a : List TMedia) (uses : List SB) (cap pol : Int) (hv : validMs a = true) (hr : (inB cap 1 1600000 && inB pol 1 3) = false) : FnC Try.prog 56 G0 0 [] [.sl 2 (a.map encMedia), .sl 1 (uses.map encS), .int .i64 cap, .int .i64 pol] (fun d os => d = .tup [.sl 1 [], .int .i64 0, .int .i64 2] ∧ os = []) := by
  cases hv2 : inB cap 1 1600000 with
  | false =>
    refine fn_rule Try.func56 rfl (by decide +kernel) rfl (fun w0 F0 lent β0 => ?_)
    repeat' (first
             | (with_reducible refine awp_seq_k (fun Q' hn he hr => ?_))
             | (with_reducible refine awp_block_k (fun Q' hn he hr => ?_))
             | (with_reducible refine awp_cond_k ?_)
             | (with_reducible refine awp_region_k ?_)
             | (with_reducible refine awp_draw_k ?_)
             | (with_reducible refine awp_ret_k ?_)
             | (with_reducible refine awp_exit_k ?_)
             | (with_reducible refine awp_skip_k ?_)
             | (with_reducible refine awp_label_k ?_)
             | (with_reducible refine awp_scope_k ?_)
             | (with_reducible refine awp_loop_k ?_)
             | (with_reducible refine hn _ ?_; clear hn he hr Q')
             | (with_reducible refine hr _ ?_; clear hn he hr Q')
             | (with_reducible refine he _ _ ?_; clear hn he hr Q')
             | (conv => whnf
                first
                | ((first | (with_reducible refine br_t ?_) | (with_reducible refine br_f ?_) | (with_reducible refine br_c ?_)); repeat' (first | (with_reducible refine Br.tt ?_) | (with_reducible refine Br.ff ?_) | (with_reducible refine Br.nt ?_) | (with_reducible refine Br.nf ?_) | (with_reducible refine Br.condt ?_) | (with_reducible refine Br.condf ?_) | (with_reducible refine Br.ncondt ?_) | (with_reducible refine Br.ncondf ?_) | ((first | (with_reducible refine Br.lt (fun hb => ?_) (fun hb => ?_)) | (with_reducible refine Br.le (fun hb => ?_) (fun hb => ?_)) | (with_reducible refine Br.eqn (fun hb => ?_) (fun hb => ?_)) | (with_reducible refine Br.nlt (fun hb => ?_) (fun hb => ?_)) | (with_reducible refine Br.nle (fun hb => ?_) (fun hb => ?_)) | (with_reducible refine Br.neqn (fun hb => ?_) (fun hb => ?_)) | (with_reducible refine Br.dec (fun hb => ?_) (fun hb => ?_)) | (with_reducible refine Br.beq (fun hb => ?_) (fun hb => ?_)) | (with_reducible refine Br.ndec (fun hb => ?_) (fun hb => ?_)) | (with_reducible refine Br.nbeq (fun hb => ?_) (fun hb => ?_)) | (with_reducible refine Br.nsym (fun hb => ?_) (fun hb => ?_)) | (with_reducible refine Br.sym (fun hb => ?_) (fun hb => ?_))) <;> (try (first | exact absurd rfl hb | exact absurd (hb.symm.trans hv) (by decide) | exact absurd (hb.symm.trans hv2) (by decide) | exact absurd (hb.symm.trans hv3) (by decide) | exact absurd hb (List.cons_ne_nil _ _) | exact absurd hb (by decide) | (exfalso; omega))))))
                | ((with_reducible refine isCall ?_); first | (refine call_pure (c_impl_ValidMedia _) rfl rfl ?_) | (refine call_pure (c_within _ _ _) rfl rfl ?_))
                | ((with_reducible refine isCallQ ?_); first | (refine callQ_pure (c_impl_ValidMedia _) rfl rfl ?_) | (refine callQ_pure (c_within _ _ _) rfl rfl ?_))
                | ((with_reducible refine isRet ?_); first | (refine ret_nil 1 ?_; refine ret_pick [] rfl rfl rfl ⟨?_, rfl⟩))
                | (refine SameV.mk ?_)
                | (refine NeedS.mk (by (try simp only [cutL, List.length_map, List.length_append, List.length_cons, List.length_nil, List.length_take, List.length_drop, List.length_replicate]); omega) ?_)
                | (refine CapS.mk fun c hc hcm => ?_; try simp only [List.length_map, List.length_append, List.length_cons, List.length_nil] at hc)
                | (refine CutS.zn (by (try simp only [cutL, List.length_map, List.length_append, List.length_cons, List.length_nil, List.length_take, List.length_drop, List.length_replicate]); omega) ?_)
                | (refine CutS.nn (by omega) (by (try simp only [cutL, List.length_map, List.length_append, List.length_cons, List.length_nil, List.length_take, List.length_drop, List.length_replicate]); omega) ?_)
                | (refine CutS.at (by (try simp only [cutL, List.length_map, List.length_append, List.length_cons, List.length_nil, List.length_take, List.length_drop, List.length_replicate]); omega) fun i1 i2 hi1 hi2 hj1 hj2 => ?_; try simp only [cutL, List.length_map, List.length_append, List.length_cons, List.length_nil, List.length_take, List.length_drop, List.length_replicate] at hi1 hi2 hj2)
                | (refine SameL.mk ?_)
                | (refine LenS.nil ?_)
                | (refine LenS.one ?_)
                | (refine LenS.map fun hlen => ?_)
                | (refine LenS.int fun hlen => ?_)
                | (refine ArithS.in64 (by omega) ?_)
                | (refine MakeS.nat rfl (by omega) ?_)
                | (refine InS.fill (by omega) ?_)
                | (refine ElemS.fill (by omega) ?_)
                | (refine InS.nat (by omega) ?_)
                | (refine InS.nat (by (try simp only [List.length_map]); omega) ?_)
                | (refine ElemS.the (by assumption) ?_)
                | (refine ElemS.nat (by omega) fun x hx => ?_)
                | (refine ByteS.the (by assumption) ?_)
                | (refine ByteS.nat (by omega) fun x hx => ?_)
                | (refine ElemS.at (by omega) fun i y hi hy => ?_)
                | (refine ByteS.at (by omega) fun i y hi hy => ?_)
                | (refine InS.at (by omega) fun i hi => ?_)
                | (refine AskS.app rfl (by (try simp only [cutL, List.length_take, List.length_drop, List.length_replicate, List.length_map, List.length_append, List.length_cons, List.length_nil]); omega) ?_)
                | (refine draw_k (by decide +kernel) (by decide +kernel) ?_)
                | (refine draw_kb (by decide +kernel) (by decide +kernel) ?_)
                | (refine ret_pick [] rfl rfl rfl ⟨?_, rfl⟩; conv => lhs; whnf)
                | (refine ret_pick [0] rfl rfl rfl ⟨rfl, ?_⟩)
                | (refine he _ _ ?_; clear hn he hr Q') | (refine hn _ ?_; clear hn he hr Q') | (refine hr _ ?_; clear hn he hr Q')))
    rfl
  | true =>
    have hv3 : inB pol 1 3 = false := by rw [hv2] at hr; simpa using hr
    refine fn_rule Try.func56 rfl (by decide +kernel) rfl (fun w0 F0 lent β0 => ?_)
    repeat' (first
             | (with_reducible refine awp_seq_k (fun Q' hn he hr => ?_))
             | (with_reducible refine awp_block_k (fun Q' hn he hr => ?_))
             | (with_reducible refine awp_cond_k ?_)
             | (with_reducible refine awp_region_k ?_)
             | (with_reducible refine awp_draw_k ?_)
             | (with_reducible refine awp_ret_k ?_)
             | (with_reducible refine awp_exit_k ?_)
             | (with_reducible refine awp_skip_k ?_)
             | (with_reducible refine awp_label_k ?_)
             | (with_reducible refine awp_scope_k ?_)
             | (with_reducible refine awp_loop_k ?_)
             | (with_reducible refine hn _ ?_; clear hn he hr Q')
             | (with_reducible refine hr _ ?_; clear hn he hr Q')
             | (with_reducible refine he _ _ ?_; clear hn he hr Q')
             | (conv => whnf
                first
                | ((first | (with_reducible refine br_t ?_) | (with_reducible refine br_f ?_) | (with_reducible refine br_c ?_)); repeat' (first | (with_reducible refine Br.tt ?_) | (with_reducible refine Br.ff ?_) | (with_reducible refine Br.nt ?_) | (with_reducible refine Br.nf ?_) | (with_reducible refine Br.condt ?_) | (with_reducible refine Br.condf ?_) | (with_reducible refine Br.ncondt ?_) | (with_reducible refine Br.ncondf ?_) | ((first | (with_reducible refine Br.lt (fun hb => ?_) (fun hb => ?_)) | (with_reducible refine Br.le (fun hb => ?_) (fun hb => ?_)) | (with_reducible refine Br.eqn (fun hb => ?_) (fun hb => ?_)) | (with_reducible refine Br.nlt (fun hb => ?_) (fun hb => ?_)) | (with_reducible refine Br.nle (fun hb => ?_) (fun hb => ?_)) | (with_reducible refine Br.neqn (fun hb => ?_) (fun hb => ?_)) | (with_reducible refine Br.dec (fun hb => ?_) (fun hb => ?_)) | (with_reducible refine Br.beq (fun hb => ?_) (fun hb => ?_)) | (with_reducible refine Br.ndec (fun hb => ?_) (fun hb => ?_)) | (with_reducible refine Br.nbeq (fun hb => ?_) (fun hb => ?_)) | (with_reducible refine Br.nsym (fun hb => ?_) (fun hb => ?_)) | (with_reducible refine Br.sym (fun hb => ?_) (fun hb => ?_))) <;> (try (first | exact absurd rfl hb | exact absurd (hb.symm.trans hv) (by decide) | exact absurd (hb.symm.trans hv2) (by decide) | exact absurd (hb.symm.trans hv3) (by decide) | exact absurd hb (List.cons_ne_nil _ _) | exact absurd hb (by decide) | (exfalso; omega))))))
                | ((with_reducible refine isCall ?_); first | (refine call_pure (c_impl_ValidMedia _) rfl rfl ?_) | (refine call_pure (c_within _ _ _) rfl rfl ?_))
                | ((with_reducible refine isCallQ ?_); first | (refine callQ_pure (c_impl_ValidMedia _) rfl rfl ?_) | (refine callQ_pure (c_within _ _ _) rfl rfl ?_))
                | ((with_reducible refine isRet ?_); first | (refine ret_nil 1 ?_; refine ret_pick [] rfl rfl rfl ⟨?_, rfl⟩))
                | (refine SameV.mk ?_)
                | (refine NeedS.mk (by (try simp only [cutL, List.length_map, List.length_append, List.length_cons, List.length_nil, List.length_take, List.length_drop, List.length_replicate]); omega) ?_)
                | (refine CapS.mk fun c hc hcm => ?_; try simp only [List.length_map, List.length_append, List.length_cons, List.length_nil] at hc)
                | (refine CutS.zn (by (try simp only [cutL, List.length_map, List.length_append, List.length_cons, List.length_nil, List.length_take, List.length_drop, List.length_replicate]); omega) ?_)
                | (refine CutS.nn (by omega) (by (try simp only [cutL, List.length_map, List.length_append, List.length_cons, List.length_nil, List.length_take, List.length_drop, List.length_replicate]); omega) ?_)
                | (refine CutS.at (by (try simp only [cutL, List.length_map, List.length_append, List.length_cons, List.length_nil, List.length_take, List.length_drop, List.length_replicate]); omega) fun i1 i2 hi1 hi2 hj1 hj2 => ?_; try simp only [cutL, List.length_map, List.length_append, List.length_cons, List.length_nil, List.length_take, List.length_drop, List.length_replicate] at hi1 hi2 hj2)
                | (refine SameL.mk ?_)
                | (refine LenS.nil ?_)
                | (refine LenS.one ?_)
                | (refine LenS.map fun hlen => ?_)
                | (refine LenS.int fun hlen => ?_)
                | (refine ArithS.in64 (by omega) ?_)
                | (refine MakeS.nat rfl (by omega) ?_)
                | (refine InS.fill (by omega) ?_)
                | (refine ElemS.fill (by omega) ?_)
                | (refine InS.nat (by omega) ?_)
                | (refine InS.nat (by (try simp only [List.length_map]); omega) ?_)
                | (refine ElemS.the (by assumption) ?_)
                | (refine ElemS.nat (by omega) fun x hx => ?_)
                | (refine ByteS.the (by assumption) ?_)
                | (refine ByteS.nat (by omega) fun x hx => ?_)
                | (refine ElemS.at (by omega) fun i y hi hy => ?_)
                | (refine ByteS.at (by omega) fun i y hi hy => ?_)
                | (refine InS.at (by omega) fun i hi => ?_)
                | (refine AskS.app rfl (by (try simp only [cutL, List.length_take, List.length_drop, List.length_replicate, List.length_map, List.length_append, List.length_cons, List.length_nil]); omega) ?_)
                | (refine draw_k (by decide +kernel) (by decide +kernel) ?_)
                | (refine draw_kb (by decide +kernel) (by decide +kernel) ?_)
                | (refine ret_pick [] rfl rfl rfl ⟨?_, rfl⟩; conv => lhs; whnf)
                | (refine ret_pick [0] rfl rfl rfl ⟨rfl, ?_⟩)
                | (refine he _ _ ?_; clear hn he hr Q') | (refine hn _ ?_; clear hn he hr Q') | (refine hr _ ?_; clear hn he hr Q')))
    rfl
set_option maxHeartbeats 4000000 in
theorem c_impl_useCache_bad3 (a : List TMedia) (uses : List SB) (cap pol : Int) (hv : validMs a = true) (hv2 : inB cap 1 1600000 = true) (hv3 : inB pol 1 3 = true) (hu : usesErr a uses ≠ 0) : FnC Try.prog 56 G0 0 [] [.sl 2 (a.map encMedia), .sl 1 (uses.map encS), .int .i64 cap, .int .i64 pol] (fun d os => d = .tup [.sl 1 [], .int .i64 0, .int .i64 (usesErr a uses)] ∧ os = []) := by
  cases hs : sized a uses with
  | false =>
    have he : usesErr a uses = 3 := by unfold usesErr; rw [if_neg (by rw [hs]; simp)]
    obtain ⟨j, y, hj, hy0⟩ := unsized hs
    have hjl := (List.getElem?_eq_some_iff.1 hj).1
    refine fn_rule Try.func56 rfl (by decide +kernel) rfl (fun w0 F0 lent β0 => ?_)
    repeat' (first
             | (with_reducible refine awp_seq_k (fun Q' hn he hr => ?_))
             | (with_reducible refine awp_block_k (fun Q' hn he hr => ?_))
             | (with_reducible refine awp_cond_k ?_)
             | (with_reducible refine awp_region_k ?_)
             | (with_reducible refine awp_draw_k ?_)
             | (with_reducible refine awp_ret_k ?_)
             | (with_reducible refine awp_exit_k ?_)
             | (with_reducible refine awp_skip_k ?_)
             | (with_reducible refine awp_label_k ?_)
             | (with_reducible refine awp_scope_k ?_)
             | (with_reducible refine awp_loop_k ?_)
             | (with_reducible refine hn _ ?_; clear hn he hr Q')
             | (with_reducible refine hr _ ?_; clear hn he hr Q')
             | (with_reducible refine he _ _ ?_; clear hn he hr Q')
             | (conv => whnf
                first
                | ((first | (with_reducible refine br_t ?_) | (with_reducible refine br_f ?_) | (with_reducible refine br_c ?_)); repeat' (first | (with_reducible refine Br.tt ?_) | (with_reducible refine Br.ff ?_) | (with_reducible refine Br.nt ?_) | (with_reducible refine Br.nf ?_) | (with_reducible refine Br.condt ?_) | (with_reducible refine Br.condf ?_) | (with_reducible refine Br.ncondt ?_) | (with_reducible refine Br.ncondf ?_) | ((first | (with_reducible refine Br.lt (fun hb => ?_) (fun hb => ?_)) | (with_reducible refine Br.le (fun hb => ?_) (fun hb => ?_)) | (with_reducible refine Br.eqn (fun hb => ?_) (fun hb => ?_)) | (with_reducible refine Br.nlt (fun hb => ?_) (fun hb => ?_)) | (with_reducible refine Br.nle (fun hb => ?_) (fun hb => ?_)) | (with_reducible refine Br.neqn (fun hb => ?_) (fun hb => ?_)) | (with_reducible refine Br.dec (fun hb => ?_) (fun hb => ?_)) | (with_reducible refine Br.beq (fun hb => ?_) (fun hb => ?_)) | (with_reducible refine Br.ndec (fun hb => ?_) (fun hb => ?_)) | (with_reducible refine Br.nbeq (fun hb => ?_) (fun hb => ?_)) | (with_reducible refine Br.nsym (fun hb => ?_) (fun hb => ?_)) | (with_reducible refine Br.sym (fun hb => ?_) (fun hb => ?_))) <;> (try (first | exact absurd rfl hb | exact absurd (hb.symm.trans hv) (by decide) | exact absurd (hb.symm.trans hv2) (by decide) | exact absurd (hb.symm.trans hv3) (by decide) | exact absurd hb (List.cons_ne_nil _ _) | exact absurd hb (by decide) | (exfalso; omega))))))
                | ((with_reducible refine isCall ?_); first | (refine call_pure (c_impl_ValidMedia _) rfl rfl ?_) | (refine call_pure (c_within _ _ _) rfl rfl ?_))
                | ((with_reducible refine isCallQ ?_); first | (refine callQ_pure (c_impl_ValidMedia _) rfl rfl ?_) | (refine callQ_pure (c_within _ _ _) rfl rfl ?_))
                | (refine SameV.mk ?_)
                | (refine NeedS.mk (by (try simp only [cutL, List.length_map, List.length_append, List.length_cons, List.length_nil, List.length_take, List.length_drop, List.length_replicate]); omega) ?_)
                | (refine CapS.mk fun c hc hcm => ?_; try simp only [List.length_map, List.length_append, List.length_cons, List.length_nil] at hc)
                | (refine CutS.zn (by (try simp only [cutL, List.length_map, List.length_append, List.length_cons, List.length_nil, List.length_take, List.length_drop, List.length_replicate]); omega) ?_)
                | (refine CutS.nn (by omega) (by (try simp only [cutL, List.length_map, List.length_append, List.length_cons, List.length_nil, List.length_take, List.length_drop, List.length_replicate]); omega) ?_)
                | (refine CutS.at (by (try simp only [cutL, List.length_map, List.length_append, List.length_cons, List.length_nil, List.length_take, List.length_drop, List.length_replicate]); omega) fun i1 i2 hi1 hi2 hj1 hj2 => ?_; try simp only [cutL, List.length_map, List.length_append, List.length_cons, List.length_nil, List.length_take, List.length_drop, List.length_replicate] at hi1 hi2 hj2)
                | (refine SameL.mk ?_)
                | (refine LenS.nil ?_)
                | (refine LenS.one ?_)
                | (refine LenS.map fun hlen => ?_)
                | (refine LenS.int fun hlen => ?_)
                | (refine ArithS.in64 (by omega) ?_)
                | (refine MakeS.nat rfl (by omega) ?_)
                | (refine InS.fill (by omega) ?_)
                | (refine ElemS.fill (by omega) ?_)
                | (refine InS.nat (by omega) ?_)
                | (refine InS.nat (by (try simp only [List.length_map]); omega) ?_)
                | (refine ElemS.the (by assumption) ?_)
                | (refine ElemS.nat (by omega) fun x hx => ?_)
                | (refine ByteS.the (by assumption) ?_)
                | (refine ByteS.nat (by omega) fun x hx => ?_)
                | (refine ElemS.at (by omega) fun i y hi hy => ?_)
                | (refine ByteS.at (by omega) fun i y hi hy => ?_)
                | (refine InS.at (by omega) fun i hi => ?_)
                | (refine AskS.app rfl (by (try simp only [cutL, List.length_take, List.length_drop, List.length_replicate, List.length_map, List.length_append, List.length_cons, List.length_nil]); omega) ?_)
                | (refine draw_k (by decide +kernel) (by decide +kernel) ?_)
                | (refine draw_kb (by decide +kernel) (by decide +kernel) ?_)
                | (refine ret_pick [] rfl rfl rfl ⟨?_, rfl⟩; conv => lhs; whnf)
                | (refine ret_pick [0] rfl rfl rfl ⟨rfl, ?_⟩)
                | (refine he _ _ ?_; clear hn he hr Q') | (refine hn _ ?_; clear hn he hr Q') | (refine hr _ ?_; clear hn he hr Q')))
    refine loop_env (fun k : Nat => [(0,.sl 2 (a.map encMedia)),(32,.sl 1 (uses.map encS)),(33,.int .i64 uses.length),(34,.int .i64 k)]) (fun _ => []) (fun k => k ≤ j) (fun k => j - k) 0 (by omega) (by refine weak_to rfl rfl rfl ?_; ((repeat' (first | exact trivial | refine And.intro ?_ ?_)) <;> (first | rfl | (conv => rhs; whnf) <;> (first | rfl | (refine congrArg (D.int _) ?_; omega))))) (fun k hk Q' hn he hr => ?_)
    repeat' (first
             | (with_reducible refine awp_seq_k (fun Q' hn he hr => ?_))
             | (with_reducible refine awp_block_k (fun Q' hn he hr => ?_))
             | (with_reducible refine awp_cond_k ?_)
             | (with_reducible refine awp_region_k ?_)
             | (with_reducible refine awp_draw_k ?_)
             | (with_reducible refine awp_ret_k ?_)
             | (with_reducible refine awp_exit_k ?_)
             | (with_reducible refine awp_skip_k ?_)
             | (with_reducible refine awp_label_k ?_)
             | (with_reducible refine awp_scope_k ?_)
             | (with_reducible refine awp_loop_k ?_)
             | (with_reducible refine hn _ ?_; clear hn he hr Q')
             | (with_reducible refine hr _ ?_; clear hn he hr Q')
             | (with_reducible refine he _ _ ?_; clear hn he hr Q')
             | (conv => whnf
                first
                | ((first | (with_reducible refine br_t ?_) | (with_reducible refine br_f ?_) | (with_reducible refine br_c ?_)); repeat' (first | (with_reducible refine Br.tt ?_) | (with_reducible refine Br.ff ?_) | (with_reducible refine Br.nt ?_) | (with_reducible refine Br.nf ?_) | (with_reducible refine Br.condt ?_) | (with_reducible refine Br.condf ?_) | (with_reducible refine Br.ncondt ?_) | (with_reducible refine Br.ncondf ?_) | ((first | (with_reducible refine Br.lt (fun hb => ?_) (fun hb => ?_)) | (with_reducible refine Br.le (fun hb => ?_) (fun hb => ?_)) | (with_reducible refine Br.eqn (fun hb => ?_) (fun hb => ?_)) | (with_reducible refine Br.nlt (fun hb => ?_) (fun hb => ?_)) | (with_reducible refine Br.nle (fun hb => ?_) (fun hb => ?_)) | (with_reducible refine Br.neqn (fun hb => ?_) (fun hb => ?_)) | (with_reducible refine Br.dec (fun hb => ?_) (fun hb => ?_)) | (with_reducible refine Br.beq (fun hb => ?_) (fun hb => ?_)) | (with_reducible refine Br.ndec (fun hb => ?_) (fun hb => ?_)) | (with_reducible refine Br.nbeq (fun hb => ?_) (fun hb => ?_)) | (with_reducible refine Br.nsym (fun hb => ?_) (fun hb => ?_)) | (with_reducible refine Br.sym (fun hb => ?_) (fun hb => ?_))) <;> (try (first | exact absurd rfl hb | exact absurd (hb.symm.trans hv) (by decide) | exact absurd (hb.symm.trans hv2) (by decide) | exact absurd (hb.symm.trans hv3) (by decide) | exact absurd hb (List.cons_ne_nil _ _) | exact absurd hb (by decide) | (exfalso; omega))))))
                | ((with_reducible refine isCall ?_); first | (refine call_look (c_impl_sizeOf _ _) rfl ?_))
                | ((with_reducible refine isCallQ ?_); first | (refine callQ_look (c_impl_sizeOf _ _) rfl ?_))
                | ((with_reducible refine isRet ?_); first | (refine ret_nil 1 ?_; refine ret_pick [] rfl rfl rfl ⟨?_, rfl⟩))
                | (refine SameV.mk ?_)
                | (refine NeedS.mk (by (try simp only [cutL, List.length_map, List.length_append, List.length_cons, List.length_nil, List.length_take, List.length_drop, List.length_replicate]); omega) ?_)
                | (refine CapS.mk fun c hc hcm => ?_; try simp only [List.length_map, List.length_append, List.length_cons, List.length_nil] at hc)
                | (refine CutS.zn (by (try simp only [cutL, List.length_map, List.length_append, List.length_cons, List.length_nil, List.length_take, List.length_drop, List.length_replicate]); omega) ?_)
                | (refine CutS.nn (by omega) (by (try simp only [cutL, List.length_map, List.length_append, List.length_cons, List.length_nil, List.length_take, List.length_drop, List.length_replicate]); omega) ?_)
                | (refine CutS.at (by (try simp only [cutL, List.length_map, List.length_append, List.length_cons, List.length_nil, List.length_take, List.length_drop, List.length_replicate]); omega) fun i1 i2 hi1 hi2 hj1 hj2 => ?_; try simp only [cutL, List.length_map, List.length_append, List.length_cons, List.length_nil, List.length_take, List.length_drop, List.length_replicate] at hi1 hi2 hj2)
                | (refine SameL.mk ?_)
                | (refine LenS.nil ?_)
                | (refine LenS.one ?_)
                | (refine LenS.map fun hlen => ?_)
                | (refine LenS.int fun hlen => ?_)
                | (refine ArithS.in64 (by omega) ?_)
                | (refine MakeS.nat rfl (by omega) ?_)
                | (refine InS.fill (by omega) ?_)
                | (refine ElemS.fill (by omega) ?_)
                | (refine InS.nat (by omega) ?_)
                | (refine InS.nat (by (try simp only [List.length_map]); omega) ?_)
                | (refine ElemS.the (by assumption) ?_)
                | (refine ElemS.nat (by omega) fun x hx => ?_)
                | (refine ByteS.the (by assumption) ?_)
                | (refine ByteS.nat (by omega) fun x hx => ?_)
                | (refine ElemS.at (by omega) fun i y hi hy => ?_)
                | (refine ByteS.at (by omega) fun i y hi hy => ?_)
                | (refine InS.at (by omega) fun i hi => ?_)
                | (refine AskS.app rfl (by (try simp only [cutL, List.length_take, List.length_drop, List.length_replicate, List.length_map, List.length_append, List.length_cons, List.length_nil]); omega) ?_)
                | (refine draw_k (by decide +kernel) (by decide +kernel) ?_)
                | (refine draw_kb (by decide +kernel) (by decide +kernel) ?_)
                | (refine ret_pick [] rfl rfl rfl ⟨?_, rfl⟩; conv => lhs; whnf)
                | (refine ret_pick [0] rfl rfl rfl ⟨rfl, ?_⟩)
                | (refine he _ _ ?_; clear hn he hr Q') | (refine hn _ ?_; clear hn he hr Q') | (refine hr _ ?_; clear hn he hr Q')))
    · rw [he]; rfl
    · have hkj : k ≠ j := by
        rintro rfl
        rw [hj] at hx; cases hx
        exact absurd hy0 (by assumption)
      exact ⟨k + 1, by omega, by omega, (by refine weak_to rfl rfl rfl ?_; ((repeat' (first | exact trivial | refine And.intro ?_ ?_)) <;> (first | rfl | (conv => rhs; whnf) <;> (first | rfl | (refine congrArg (D.int _) ?_; omega)))))⟩
  | true =>
    have hlen : ¬ uses.length ≤ 40 := fun h => by
      unfold usesErr at hu
      rw [if_pos hs, if_pos h] at hu
      exact hu rfl
    have he : usesErr a uses = 5 := by unfold usesErr; rw [if_pos hs, if_neg hlen]
    have hz := sized_ok hv hs
    refine fn_rule Try.func56 rfl (by decide +kernel) rfl (fun w0 F0 lent β0 => ?_)
    repeat' (first
             | (with_reducible refine awp_seq_k (fun Q' hn he hr => ?_))
             | (with_reducible refine awp_block_k (fun Q' hn he hr => ?_))
             | (with_reducible refine awp_cond_k ?_)
             | (with_reducible refine awp_region_k ?_)
             | (with_reducible refine awp_draw_k ?_)
             | (with_reducible refine awp_ret_k ?_)
             | (with_reducible refine awp_exit_k ?_)
             | (with_reducible refine awp_skip_k ?_)
             | (with_reducible refine awp_label_k ?_)
             | (with_reducible refine awp_scope_k ?_)
             | (with_reducible refine awp_loop_k ?_)
             | (with_reducible refine hn _ ?_; clear hn he hr Q')
             | (with_reducible refine hr _ ?_; clear hn he hr Q')
             | (with_reducible refine he _ _ ?_; clear hn he hr Q')
             | (conv => whnf
                first
                | ((first | (with_reducible refine br_t ?_) | (with_reducible refine br_f ?_) | (with_reducible refine br_c ?_)); repeat' (first | (with_reducible refine Br.tt ?_) | (with_reducible refine Br.ff ?_) | (with_reducible refine Br.nt ?_) | (with_reducible refine Br.nf ?_) | (with_reducible refine Br.condt ?_) | (with_reducible refine Br.condf ?_) | (with_reducible refine Br.ncondt ?_) | (with_reducible refine Br.ncondf ?_) | ((first | (with_reducible refine Br.lt (fun hb => ?_) (fun hb => ?_)) | (with_reducible refine Br.le (fun hb => ?_) (fun hb => ?_)) | (with_reducible refine Br.eqn (fun hb => ?_) (fun hb => ?_)) | (with_reducible refine Br.nlt (fun hb => ?_) (fun hb => ?_)) | (with_reducible refine Br.nle (fun hb => ?_) (fun hb => ?_)) | (with_reducible refine Br.neqn (fun hb => ?_) (fun hb => ?_)) | (with_reducible refine Br.dec (fun hb => ?_) (fun hb => ?_)) | (with_reducible refine Br.beq (fun hb => ?_) (fun hb => ?_)) | (with_reducible refine Br.ndec (fun hb => ?_) (fun hb => ?_)) | (with_reducible refine Br.nbeq (fun hb => ?_) (fun hb => ?_)) | (with_reducible refine Br.nsym (fun hb => ?_) (fun hb => ?_)) | (with_reducible refine Br.sym (fun hb => ?_) (fun hb => ?_))) <;> (try (first | exact absurd rfl hb | exact absurd (hb.symm.trans hv) (by decide) | exact absurd (hb.symm.trans hv2) (by decide) | exact absurd (hb.symm.trans hv3) (by decide) | exact absurd hb (List.cons_ne_nil _ _) | exact absurd hb (by decide) | (exfalso; omega))))))
                | ((with_reducible refine isCall ?_); first | (refine call_pure (c_impl_ValidMedia _) rfl rfl ?_) | (refine call_pure (c_within _ _ _) rfl rfl ?_))
                | ((with_reducible refine isCallQ ?_); first | (refine callQ_pure (c_impl_ValidMedia _) rfl rfl ?_) | (refine callQ_pure (c_within _ _ _) rfl rfl ?_))
                | (refine SameV.mk ?_)
                | (refine NeedS.mk (by (try simp only [cutL, List.length_map, List.length_append, List.length_cons, List.length_nil, List.length_take, List.length_drop, List.length_replicate]); omega) ?_)
                | (refine CapS.mk fun c hc hcm => ?_; try simp only [List.length_map, List.length_append, List.length_cons, List.length_nil] at hc)
                | (refine CutS.zn (by (try simp only [cutL, List.length_map, List.length_append, List.length_cons, List.length_nil, List.length_take, List.length_drop, List.length_replicate]); omega) ?_)
                | (refine CutS.nn (by omega) (by (try simp only [cutL, List.length_map, List.length_append, List.length_cons, List.length_nil, List.length_take, List.length_drop, List.length_replicate]); omega) ?_)
                | (refine CutS.at (by (try simp only [cutL, List.length_map, List.length_append, List.length_cons, List.length_nil, List.length_take, List.length_drop, List.length_replicate]); omega) fun i1 i2 hi1 hi2 hj1 hj2 => ?_; try simp only [cutL, List.length_map, List.length_append, List.length_cons, List.length_nil, List.length_take, List.length_drop, List.length_replicate] at hi1 hi2 hj2)
                | (refine SameL.mk ?_)
                | (refine LenS.nil ?_)
                | (refine LenS.one ?_)
                | (refine LenS.map fun hlen => ?_)
                | (refine LenS.int fun hlen => ?_)
                | (refine ArithS.in64 (by omega) ?_)
                | (refine MakeS.nat rfl (by omega) ?_)
                | (refine InS.fill (by omega) ?_)
                | (refine ElemS.fill (by omega) ?_)
                | (refine InS.nat (by omega) ?_)
                | (refine InS.nat (by (try simp only [List.length_map]); omega) ?_)
                | (refine ElemS.the (by assumption) ?_)
                | (refine ElemS.nat (by omega) fun x hx => ?_)
                | (refine ByteS.the (by assumption) ?_)
                | (refine ByteS.nat (by omega) fun x hx => ?_)
                | (refine ElemS.at (by omega) fun i y hi hy => ?_)
                | (refine ByteS.at (by omega) fun i y hi hy => ?_)
                | (refine InS.at (by omega) fun i hi => ?_)
                | (refine AskS.app rfl (by (try simp only [cutL, List.length_take, List.length_drop, List.length_replicate, List.length_map, List.length_append, List.length_cons, List.length_nil]); omega) ?_)
                | (refine draw_k (by decide +kernel) (by decide +kernel) ?_)
                | (refine draw_kb (by decide +kernel) (by decide +kernel) ?_)
                | (refine ret_pick [] rfl rfl rfl ⟨?_, rfl⟩; conv => lhs; whnf)
                | (refine ret_pick [0] rfl rfl rfl ⟨rfl, ?_⟩)
                | (refine he _ _ ?_; clear hn he hr Q') | (refine hn _ ?_; clear hn he hr Q') | (refine hr _ ?_; clear hn he hr Q')))
    refine loop_env (fun k : Nat => [(0,.sl 2 (a.map encMedia)),(1,.sl 1 (uses.map encS)),(32,.sl 1 (uses.map encS)),(33,.int .i64 uses.length),(34,.int .i64 k)]) (fun _ => []) (fun k => k ≤ uses.length) (fun k => uses.length - k) 0 (by omega) (by refine weak_to rfl rfl rfl ?_; ((repeat' (first | exact trivial | refine And.intro ?_ ?_)) <;> (first | rfl | (conv => rhs; whnf) <;> (first | rfl | (refine congrArg (D.int _) ?_; omega))))) (fun k hk Q' hn he hr => ?_)
    repeat' (first
             | (with_reducible refine awp_seq_k (fun Q' hn he hr => ?_))
             | (with_reducible refine awp_block_k (fun Q' hn he hr => ?_))
             | (with_reducible refine awp_cond_k ?_)
             | (with_reducible refine awp_region_k ?_)
             | (with_reducible refine awp_draw_k ?_)
             | (with_reducible refine awp_ret_k ?_)
             | (with_reducible refine awp_exit_k ?_)
             | (with_reducible refine awp_skip_k ?_)
             | (with_reducible refine awp_label_k ?_)
             | (with_reducible refine awp_scope_k ?_)
             | (with_reducible refine awp_loop_k ?_)
             | (with_reducible refine hn _ ?_; clear hn he hr Q')
             | (with_reducible refine hr _ ?_; clear hn he hr Q')
             | (with_reducible refine he _ _ ?_; clear hn he hr Q')
             | (conv => whnf
                first
                | ((first | (with_reducible refine br_t ?_) | (with_reducible refine br_f ?_) | (with_reducible refine br_c ?_)); repeat' (first | (with_reducible refine Br.tt ?_) | (with_reducible refine Br.ff ?_) | (with_reducible refine Br.nt ?_) | (with_reducible refine Br.nf ?_) | (with_reducible refine Br.condt ?_) | (with_reducible refine Br.condf ?_) | (with_reducible refine Br.ncondt ?_) | (with_reducible refine Br.ncondf ?_) | ((first | (with_reducible refine Br.lt (fun hb => ?_) (fun hb => ?_)) | (with_reducible refine Br.le (fun hb => ?_) (fun hb => ?_)) | (with_reducible refine Br.eqn (fun hb => ?_) (fun hb => ?_)) | (with_reducible refine Br.nlt (fun hb => ?_) (fun hb => ?_)) | (with_reducible refine Br.nle (fun hb => ?_) (fun hb => ?_)) | (with_reducible refine Br.neqn (fun hb => ?_) (fun hb => ?_)) | (with_reducible refine Br.dec (fun hb => ?_) (fun hb => ?_)) | (with_reducible refine Br.beq (fun hb => ?_) (fun hb => ?_)) | (with_reducible refine Br.ndec (fun hb => ?_) (fun hb => ?_)) | (with_reducible refine Br.nbeq (fun hb => ?_) (fun hb => ?_)) | (with_reducible refine Br.nsym (fun hb => ?_) (fun hb => ?_)) | (with_reducible refine Br.sym (fun hb => ?_) (fun hb => ?_))) <;> (try (first | exact absurd rfl hb | exact absurd (hb.symm.trans hv) (by decide) | exact absurd (hb.symm.trans hv2) (by decide) | exact absurd (hb.symm.trans hv3) (by decide) | exact absurd hb (List.cons_ne_nil _ _) | exact absurd hb (by decide) | (exfalso; omega))))))
                | ((with_reducible refine isCall ?_); first | (refine call_look (c_impl_sizeOf _ _) rfl ?_))
                | ((with_reducible refine isCallQ ?_); first | (refine callQ_look (c_impl_sizeOf _ _) rfl ?_))
                | ((with_reducible refine isRet ?_); first | (refine ret_nil 1 ?_; refine ret_pick [] rfl rfl rfl ⟨?_, rfl⟩))
                | (refine SameV.mk ?_)
                | (refine NeedS.mk (by (try simp only [cutL, List.length_map, List.length_append, List.length_cons, List.length_nil, List.length_take, List.length_drop, List.length_replicate]); omega) ?_)
                | (refine CapS.mk fun c hc hcm => ?_; try simp only [List.length_map, List.length_append, List.length_cons, List.length_nil] at hc)
                | (refine CutS.zn (by (try simp only [cutL, List.length_map, List.length_append, List.length_cons, List.length_nil, List.length_take, List.length_drop, List.length_replicate]); omega) ?_)
                | (refine CutS.nn (by omega) (by (try simp only [cutL, List.length_map, List.length_append, List.length_cons, List.length_nil, List.length_take, List.length_drop, List.length_replicate]); omega) ?_)
                | (refine CutS.at (by (try simp only [cutL, List.length_map, List.length_append, List.length_cons, List.length_nil, List.length_take, List.length_drop, List.length_replicate]); omega) fun i1 i2 hi1 hi2 hj1 hj2 => ?_; try simp only [cutL, List.length_map, List.length_append, List.length_cons, List.length_nil, List.length_take, List.length_drop, List.length_replicate] at hi1 hi2 hj2)
                | (refine SameL.mk ?_)
                | (refine LenS.nil ?_)
                | (refine LenS.one ?_)
                | (refine LenS.map fun hlen => ?_)
                | (refine LenS.int fun hlen => ?_)
                | (refine ArithS.in64 (by omega) ?_)
                | (refine MakeS.nat rfl (by omega) ?_)
                | (refine InS.fill (by omega) ?_)
                | (refine ElemS.fill (by omega) ?_)
                | (refine InS.nat (by omega) ?_)
                | (refine InS.nat (by (try simp only [List.length_map]); omega) ?_)
                | (refine ElemS.the (by assumption) ?_)
                | (refine ElemS.nat (by omega) fun x hx => ?_)
                | (refine ByteS.the (by assumption) ?_)
                | (refine ByteS.nat (by omega) fun x hx => ?_)
                | (refine ElemS.at (by omega) fun i y hi hy => ?_)
                | (refine ByteS.at (by omega) fun i y hi hy => ?_)
                | (refine InS.at (by omega) fun i hi => ?_)
                | (refine AskS.app rfl (by (try simp only [cutL, List.length_take, List.length_drop, List.length_replicate, List.length_map, List.length_append, List.length_cons, List.length_nil]); omega) ?_)
                | (refine draw_k (by decide +kernel) (by decide +kernel) ?_)
                | (refine draw_kb (by decide +kernel) (by decide +kernel) ?_)
                | (refine ret_pick [] rfl rfl rfl ⟨?_, rfl⟩; conv => lhs; whnf)
                | (refine ret_pick [0] rfl rfl rfl ⟨rfl, ?_⟩)
                | (refine he _ _ ?_; clear hn he hr Q') | (refine hn _ ?_; clear hn he hr Q') | (refine hr _ ?_; clear hn he hr Q')))
    · exfalso
      have := hz _ (List.mem_of_getElem? hx)
      omega
    · exact ⟨k + 1, by omega, by omega, (by refine weak_to rfl rfl rfl ?_; ((repeat' (first | exact trivial | refine And.intro ?_ ?_)) <;> (first | rfl | (conv => rhs; whnf) <;> (first | rfl | (refine congrArg (D.int _) ?_; omega)))))⟩
    · rw [he]; rfl
set_option maxHeartbeats 4000000 in
theorem c_impl_useCache_ok (a : List TMedia) (uses : List SB) (cap pol : Int) (hv : validMs a = true) (hv2 : inB cap 1 1600000 = true) (hv3 : inB pol 1 3 = true) (hu : usesErr a uses = 0) : FnC Try.prog 56 G0 0 [] [.sl 2 (a.map encMedia), .sl 1 (uses.map encS), .int .i64 cap, .int .i64 pol] (fun d os => d = .tup [.h 0, .int .i64 (useTo (sizeM a) cap pol uses uses.length).2, .int .i64 0] ∧ os = [.row 9 1 ((useTo (sizeM a) cap pol uses uses.length).1.map encS)]) := by
  obtain ⟨hz, hl⟩ := usesErr_ok hv hu
  have hto := fun k => useTo_ok (cap := cap) (pol := pol) hz k
  have hcb : 1 ≤ cap ∧ cap ≤ 1600000 := by simpa [inB] using hv2
  refine fn_rule Try.func56 rfl (by decide +kernel) rfl (fun w0 F0 lent β0 => ?_)
  repeat' (first
           | (with_reducible refine awp_seq_k (fun Q' hn he hr => ?_))
           | (with_reducible refine awp_block_k (fun Q' hn he hr => ?_))
           | (with_reducible refine awp_cond_k ?_)
           | (with_reducible refine awp_region_k ?_)
           | (with_reducible refine awp_draw_k ?_)
           | (with_reducible refine awp_ret_k ?_)
           | (with_reducible refine awp_exit_k ?_)
           | (with_reducible refine awp_skip_k ?_)
           | (with_reducible refine awp_label_k ?_)
           | (with_reducible refine awp_scope_k ?_)
           | (with_reducible refine awp_loop_k ?_)
           | (with_reducible refine hn _ ?_; clear hn he hr Q')
           | (with_reducible refine hr _ ?_; clear hn he hr Q')
           | (with_reducible refine he _ _ ?_; clear hn he hr Q')
           | (conv => whnf
              first
              | ((first | (with_reducible refine br_t ?_) | (with_reducible refine br_f ?_) | (with_reducible refine br_c ?_)); repeat' (first | (with_reducible refine Br.tt ?_) | (with_reducible refine Br.ff ?_) | (with_reducible refine Br.nt ?_) | (with_reducible refine Br.nf ?_) | (with_reducible refine Br.condt ?_) | (with_reducible refine Br.condf ?_) | (with_reducible refine Br.ncondt ?_) | (with_reducible refine Br.ncondf ?_) | ((first | (with_reducible refine Br.lt (fun hb => ?_) (fun hb => ?_)) | (with_reducible refine Br.le (fun hb => ?_) (fun hb => ?_)) | (with_reducible refine Br.eqn (fun hb => ?_) (fun hb => ?_)) | (with_reducible refine Br.nlt (fun hb => ?_) (fun hb => ?_)) | (with_reducible refine Br.nle (fun hb => ?_) (fun hb => ?_)) | (with_reducible refine Br.neqn (fun hb => ?_) (fun hb => ?_)) | (with_reducible refine Br.dec (fun hb => ?_) (fun hb => ?_)) | (with_reducible refine Br.beq (fun hb => ?_) (fun hb => ?_)) | (with_reducible refine Br.ndec (fun hb => ?_) (fun hb => ?_)) | (with_reducible refine Br.nbeq (fun hb => ?_) (fun hb => ?_)) | (with_reducible refine Br.nsym (fun hb => ?_) (fun hb => ?_)) | (with_reducible refine Br.sym (fun hb => ?_) (fun hb => ?_))) <;> (try (first | exact absurd rfl hb | exact absurd (hb.symm.trans hv) (by decide) | exact absurd (hb.symm.trans hv2) (by decide) | exact absurd (hb.symm.trans hv3) (by decide) | exact absurd hb (List.cons_ne_nil _ _) | exact absurd hb (by decide) | (exfalso; omega))))))
              | ((with_reducible refine isCall ?_); first | (refine call_pure (c_impl_ValidMedia _) rfl rfl ?_) | (refine call_pure (c_within _ _ _) rfl rfl ?_))
              | ((with_reducible refine isCallQ ?_); first | (refine callQ_pure (c_impl_ValidMedia _) rfl rfl ?_) | (refine callQ_pure (c_within _ _ _) rfl rfl ?_))
              | (refine SameV.mk ?_)
              | (refine NeedS.mk (by (try simp only [cutL, List.length_map, List.length_append, List.length_cons, List.length_nil, List.length_take, List.length_drop, List.length_replicate]); omega) ?_)
              | (refine CapS.mk fun c hc hcm => ?_; try simp only [List.length_map, List.length_append, List.length_cons, List.length_nil] at hc)
              | (refine CutS.zn (by (try simp only [cutL, List.length_map, List.length_append, List.length_cons, List.length_nil, List.length_take, List.length_drop, List.length_replicate]); omega) ?_)
              | (refine CutS.nn (by omega) (by (try simp only [cutL, List.length_map, List.length_append, List.length_cons, List.length_nil, List.length_take, List.length_drop, List.length_replicate]); omega) ?_)
              | (refine CutS.at (by (try simp only [cutL, List.length_map, List.length_append, List.length_cons, List.length_nil, List.length_take, List.length_drop, List.length_replicate]); omega) fun i1 i2 hi1 hi2 hj1 hj2 => ?_; try simp only [cutL, List.length_map, List.length_append, List.length_cons, List.length_nil, List.length_take, List.length_drop, List.length_replicate] at hi1 hi2 hj2)
              | (refine SameL.mk ?_)
              | (refine LenS.nil ?_)
              | (refine LenS.one ?_)
              | (refine LenS.map fun hlen => ?_)
              | (refine LenS.int fun hlen => ?_)
              | (refine ArithS.in64 (by omega) ?_)
              | (refine MakeS.nat rfl (by omega) ?_)
              | (refine InS.fill (by omega) ?_)
              | (refine ElemS.fill (by omega) ?_)
              | (refine InS.nat (by omega) ?_)
              | (refine InS.nat (by (try simp only [List.length_map]); omega) ?_)
              | (refine ElemS.the (by assumption) ?_)
              | (refine ElemS.nat (by omega) fun x hx => ?_)
              | (refine ByteS.the (by assumption) ?_)
              | (refine ByteS.nat (by omega) fun x hx => ?_)
              | (refine ElemS.at (by omega) fun i y hi hy => ?_)
              | (refine ByteS.at (by omega) fun i y hi hy => ?_)
              | (refine InS.at (by omega) fun i hi => ?_)
              | (refine AskS.app rfl (by (try simp only [cutL, List.length_take, List.length_drop, List.length_replicate, List.length_map, List.length_append, List.length_cons, List.length_nil]); omega) ?_)
              | (refine draw_k (by decide +kernel) (by decide +kernel) ?_)
              | (refine draw_kb (by decide +kernel) (by decide +kernel) ?_)
              | (refine ret_pick [] rfl rfl rfl ⟨?_, rfl⟩; conv => lhs; whnf)
              | (refine ret_pick [0] rfl rfl rfl ⟨rfl, ?_⟩)
              | (refine he _ _ ?_; clear hn he hr Q') | (refine hn _ ?_; clear hn he hr Q') | (refine hr _ ?_; clear hn he hr Q')))
  refine loop_env (fun k : Nat => [(0,.sl 2 (a.map encMedia)),(1,.sl 1 (uses.map encS)),(2,.int .i64 cap),(3,.int .i64 pol),(32,.sl 1 (uses.map encS)),(33,.int .i64 uses.length),(34,.int .i64 k)]) (fun _ => []) (fun k => k ≤ uses.length) (fun k => uses.length - k) 0 (by omega) (by refine weak_to rfl rfl rfl ?_; ((repeat' (first | exact trivial | refine And.intro ?_ ?_)) <;> (first | rfl | (conv => rhs; whnf) <;> (first | rfl | (refine congrArg (D.int _) ?_; omega))))) (fun k hk Q' hn he hr => ?_)
  repeat' (first
           | (with_reducible refine awp_seq_k (fun Q' hn he hr => ?_))
           | (with_reducible refine awp_block_k (fun Q' hn he hr => ?_))
           | (with_reducible refine awp_cond_k ?_)
           | (with_reducible refine awp_region_k ?_)
           | (with_reducible refine awp_draw_k ?_)
           | (with_reducible refine awp_ret_k ?_)
           | (with_reducible refine awp_exit_k ?_)
           | (with_reducible refine awp_skip_k ?_)
           | (with_reducible refine awp_label_k ?_)
           | (with_reducible refine awp_scope_k ?_)
           | (with_reducible refine awp_loop_k ?_)
           | (with_reducible refine hn _ ?_; clear hn he hr Q')
           | (with_reducible refine hr _ ?_; clear hn he hr Q')
           | (with_reducible refine he _ _ ?_; clear hn he hr Q')
           | (conv => whnf
              first
              | ((first | (with_reducible refine br_t ?_) | (with_reducible refine br_f ?_) | (with_reducible refine br_c ?_)); repeat' (first | (with_reducible refine Br.tt ?_) | (with_reducible refine Br.ff ?_) | (with_reducible refine Br.nt ?_) | (with_reducible refine Br.nf ?_) | (with_reducible refine Br.condt ?_) | (with_reducible refine Br.condf ?_) | (with_reducible refine Br.ncondt ?_) | (with_reducible refine Br.ncondf ?_) | ((first | (with_reducible refine Br.lt (fun hb => ?_) (fun hb => ?_)) | (with_reducible refine Br.le (fun hb => ?_) (fun hb => ?_)) | (with_reducible refine Br.eqn (fun hb => ?_) (fun hb => ?_)) | (with_reducible refine Br.nlt (fun hb => ?_) (fun hb => ?_)) | (with_reducible refine Br.nle (fun hb => ?_) (fun hb => ?_)) | (with_reducible refine Br.neqn (fun hb => ?_) (fun hb => ?_)) | (with_reducible refine Br.dec (fun hb => ?_) (fun hb => ?_)) | (with_reducible refine Br.beq (fun hb => ?_) (fun hb => ?_)) | (with_reducible refine Br.ndec (fun hb => ?_) (fun hb => ?_)) | (with_reducible refine Br.nbeq (fun hb => ?_) (fun hb => ?_)) | (with_reducible refine Br.nsym (fun hb => ?_) (fun hb => ?_)) | (with_reducible refine Br.sym (fun hb => ?_) (fun hb => ?_))) <;> (try (first | exact absurd rfl hb | exact absurd (hb.symm.trans hv) (by decide) | exact absurd (hb.symm.trans hv2) (by decide) | exact absurd (hb.symm.trans hv3) (by decide) | exact absurd hb (List.cons_ne_nil _ _) | exact absurd hb (by decide) | (exfalso; omega))))))
              | ((with_reducible refine isCall ?_); first | (refine call_look (c_impl_sizeOf _ _) rfl ?_))
              | ((with_reducible refine isCallQ ?_); first | (refine callQ_look (c_impl_sizeOf _ _) rfl ?_))
              | ((with_reducible refine isRet ?_); first | (refine ret_nil 1 ?_; refine ret_pick [] rfl rfl rfl ⟨?_, rfl⟩))
              | (refine SameV.mk ?_)
              | (refine NeedS.mk (by (try simp only [cutL, List.length_map, List.length_append, List.length_cons, List.length_nil, List.length_take, List.length_drop, List.length_replicate]); omega) ?_)
              | (refine CapS.mk fun c hc hcm => ?_; try simp only [List.length_map, List.length_append, List.length_cons, List.length_nil] at hc)
              | (refine CutS.zn (by (try simp only [cutL, List.length_map, List.length_append, List.length_cons, List.length_nil, List.length_take, List.length_drop, List.length_replicate]); omega) ?_)
              | (refine CutS.nn (by omega) (by (try simp only [cutL, List.length_map, List.length_append, List.length_cons, List.length_nil, List.length_take, List.length_drop, List.length_replicate]); omega) ?_)
              | (refine CutS.at (by (try simp only [cutL, List.length_map, List.length_append, List.length_cons, List.length_nil, List.length_take, List.length_drop, List.length_replicate]); omega) fun i1 i2 hi1 hi2 hj1 hj2 => ?_; try simp only [cutL, List.length_map, List.length_append, List.length_cons, List.length_nil, List.length_take, List.length_drop, List.length_replicate] at hi1 hi2 hj2)
              | (refine SameL.mk ?_)
              | (refine LenS.nil ?_)
              | (refine LenS.one ?_)
              | (refine LenS.map fun hlen => ?_)
              | (refine LenS.int fun hlen => ?_)
              | (refine ArithS.in64 (by omega) ?_)
              | (refine MakeS.nat rfl (by omega) ?_)
              | (refine InS.fill (by omega) ?_)
              | (refine ElemS.fill (by omega) ?_)
              | (refine InS.nat (by omega) ?_)
              | (refine InS.nat (by (try simp only [List.length_map]); omega) ?_)
              | (refine ElemS.the (by assumption) ?_)
              | (refine ElemS.nat (by omega) fun x hx => ?_)
              | (refine ByteS.the (by assumption) ?_)
              | (refine ByteS.nat (by omega) fun x hx => ?_)
              | (refine ElemS.at (by omega) fun i y hi hy => ?_)
              | (refine ByteS.at (by omega) fun i y hi hy => ?_)
              | (refine InS.at (by omega) fun i hi => ?_)
              | (refine AskS.app rfl (by (try simp only [cutL, List.length_take, List.length_drop, List.length_replicate, List.length_map, List.length_append, List.length_cons, List.length_nil]); omega) ?_)
              | (refine draw_k (by decide +kernel) (by decide +kernel) ?_)
              | (refine draw_kb (by decide +kernel) (by decide +kernel) ?_)
              | (refine ret_pick [] rfl rfl rfl ⟨?_, rfl⟩; conv => lhs; whnf)
              | (refine ret_pick [0] rfl rfl rfl ⟨rfl, ?_⟩)
              | (refine he _ _ ?_; clear hn he hr Q') | (refine hn _ ?_; clear hn he hr Q') | (refine hr _ ?_; clear hn he hr Q')))
  · exfalso
    have := hz _ (List.mem_of_getElem? hx)
    omega
  · exact ⟨k + 1, by omega, by omega, (by refine weak_to rfl rfl rfl ?_; ((repeat' (first | exact trivial | refine And.intro ?_ ?_)) <;> (first | rfl | (conv => rhs; whnf) <;> (first | rfl | (refine congrArg (D.int _) ?_; omega)))))⟩
  clear hk
  refine loop_env (fun k : Nat => [(0,.sl 2 (a.map encMedia)),(1,.sl 1 (uses.map encS)),(2,.int .i64 cap),(3,.int .i64 pol),(13,.h 0),(14,.int .i64 (sumZ (sizeM a) (useTo (sizeM a) cap pol uses k).1)),(15,.int .i64 (useTo (sizeM a) cap pol uses k).2),(46,.sl 1 (uses.map encS)),(47,.int .i64 uses.length),(48,.int .i64 k)]) (fun k => [.row 9 1 ((useTo (sizeM a) cap pol uses k).1.map encS)]) (fun k => k ≤ uses.length) (fun k => uses.length - k) 0 (by omega) (Weak.trans (weak_adopt 13 9 1 rfl rfl) (by refine weak_to rfl rfl rfl ?_; exact ⟨rfl, rfl, rfl, rfl, rfl, rfl, rfl, rfl, rfl, rfl, trivial⟩)) (fun k hk Q' hn he hr => ?_)
  obtain ⟨hok, hlk, hmk⟩ := hto k
  generalize hs : useTo (sizeM a) cap pol uses k = s at hok hlk hmk ⊢
  repeat' (first
           | (with_reducible refine awp_seq_k (fun Q' hn he hr => ?_))
           | (with_reducible refine awp_block_k (fun Q' hn he hr => ?_))
           | (with_reducible refine awp_cond_k ?_)
           | (with_reducible refine awp_region_k ?_)
           | (with_reducible refine awp_draw_k ?_)
           | (with_reducible refine awp_ret_k ?_)
           | (with_reducible refine awp_exit_k ?_)
           | (with_reducible refine awp_skip_k ?_)
           | (with_reducible refine awp_label_k ?_)
           | (with_reducible refine awp_scope_k ?_)
           | (with_reducible refine awp_loop_k ?_)
           | (with_reducible refine hn _ ?_; clear hn he hr Q')
           | (with_reducible refine hr _ ?_; clear hn he hr Q')
           | (with_reducible refine he _ _ ?_; clear hn he hr Q')
           | (conv => whnf
              first
              | ((first | (with_reducible refine br_t ?_) | (with_reducible refine br_f ?_) | (with_reducible refine br_c ?_)); repeat' (first | (with_reducible refine Br.tt ?_) | (with_reducible refine Br.ff ?_) | (with_reducible refine Br.nt ?_) | (with_reducible refine Br.nf ?_) | (with_reducible refine Br.condt ?_) | (with_reducible refine Br.condf ?_) | (with_reducible refine Br.ncondt ?_) | (with_reducible refine Br.ncondf ?_) | ((first | (with_reducible refine Br.lt (fun hb => ?_) (fun hb => ?_)) | (with_reducible refine Br.le (fun hb => ?_) (fun hb => ?_)) | (with_reducible refine Br.eqn (fun hb => ?_) (fun hb => ?_)) | (with_reducible refine Br.nlt (fun hb => ?_) (fun hb => ?_)) | (with_reducible refine Br.nle (fun hb => ?_) (fun hb => ?_)) | (with_reducible refine Br.neqn (fun hb => ?_) (fun hb => ?_)) | (with_reducible refine Br.dec (fun hb => ?_) (fun hb => ?_)) | (with_reducible refine Br.beq (fun hb => ?_) (fun hb => ?_)) | (with_reducible refine Br.ndec (fun hb => ?_) (fun hb => ?_)) | (with_reducible refine Br.nbeq (fun hb => ?_) (fun hb => ?_)) | (with_reducible refine Br.nsym (fun hb => ?_) (fun hb => ?_)) | (with_reducible refine Br.sym (fun hb => ?_) (fun hb => ?_))) <;> (try (first | exact absurd rfl hb | exact absurd (hb.symm.trans hv) (by decide) | exact absurd (hb.symm.trans hv2) (by decide) | exact absurd (hb.symm.trans hv3) (by decide) | exact absurd hb (List.cons_ne_nil _ _) | exact absurd hb (by decide) | (exfalso; omega))))))
              | (refine AskS.app rfl (by simp only [era, List.length_map, List.length_append, List.length_take, List.length_drop, List.length_cons, List.length_nil]; omega) ?_)
              | (refine ArithS.in64 (by have h9 := idxS_ge (l := s.1) (by assumption); omega) ?_)
              | ((with_reducible refine isCall ?_); first | (refine call_look (c_slices_IndexStr s.1 _) rfl ?_) | (refine call_look (c_impl_sizeOf a _) rfl ?_) | (refine call_mv 0 rfl (c_slicesDelete_At s.1 _ ⟨by omega, (idxS_ge (by omega)).1⟩ (by omega)) rfl (flat_one (FlatO.map fun _ => rfl)) (by first | exact (rfl : _ = 0) | exact (rfl : _ = 1) | exact (rfl : _ = 2) | exact (rfl : _ = 3) | exact (rfl : _ = 4) | exact (rfl : _ = 5) | exact (rfl : _ = 6) | exact (rfl : _ = 7) | exact (rfl : _ = 8) | exact (rfl : _ = 9) | exact (rfl : _ = 10) | exact (rfl : _ = 11) | exact (rfl : _ = 12) | exact (rfl : _ = 13) | exact (rfl : _ = 14) | exact (rfl : _ = 15) | exact (rfl : _ = 16) | exact (rfl : _ = 17) | exact (rfl : _ = 18) | exact (rfl : _ = 19) | exact (rfl : _ = 20) | exact (rfl : _ = 21) | exact (rfl : _ = 22) | exact (rfl : _ = 23) | exact (rfl : _ = 24) | exact (rfl : _ = 25) | exact (rfl : _ = 26) | exact (rfl : _ = 27) | exact (rfl : _ = 28) | exact (rfl : _ = 29) | exact (rfl : _ = 30) | exact (rfl : _ = 31) | exact (rfl : _ = 32) | exact (rfl : _ = 33) | exact (rfl : _ = 34) | exact (rfl : _ = 35) | exact (rfl : _ = 36) | exact (rfl : _ = 37) | exact (rfl : _ = 38) | exact (rfl : _ = 39)) ?_))
              | ((with_reducible refine isCallQ ?_); first | (refine callQ_look (c_slices_IndexStr s.1 _) rfl ?_) | (refine callQ_look (c_impl_sizeOf a _) rfl ?_))
              | ((with_reducible refine isRet ?_); first | (refine ret_pick [0] rfl rfl rfl ⟨?_, ?_⟩))
              | (refine SameV.mk ?_)
              | (refine NeedS.mk (by (try simp only [cutL, List.length_map, List.length_append, List.length_cons, List.length_nil, List.length_take, List.length_drop, List.length_replicate]); omega) ?_)
              | (refine CapS.mk fun c hc hcm => ?_; try simp only [List.length_map, List.length_append, List.length_cons, List.length_nil] at hc)
              | (refine CutS.zn (by (try simp only [cutL, List.length_map, List.length_append, List.length_cons, List.length_nil, List.length_take, List.length_drop, List.length_replicate]); omega) ?_)
              | (refine CutS.nn (by omega) (by (try simp only [cutL, List.length_map, List.length_append, List.length_cons, List.length_nil, List.length_take, List.length_drop, List.length_replicate]); omega) ?_)
              | (refine CutS.at (by (try simp only [cutL, List.length_map, List.length_append, List.length_cons, List.length_nil, List.length_take, List.length_drop, List.length_replicate]); omega) fun i1 i2 hi1 hi2 hj1 hj2 => ?_; try simp only [cutL, List.length_map, List.length_append, List.length_cons, List.length_nil, List.length_take, List.length_drop, List.length_replicate] at hi1 hi2 hj2)
              | (refine SameL.mk ?_)
              | (refine LenS.nil ?_)
              | (refine LenS.one ?_)
              | (refine LenS.map fun hlen => ?_)
              | (refine LenS.int fun hlen => ?_)
              | (refine ArithS.in64 (by omega) ?_)
              | (refine MakeS.nat rfl (by omega) ?_)
              | (refine InS.fill (by omega) ?_)
              | (refine ElemS.fill (by omega) ?_)
              | (refine InS.nat (by omega) ?_)
              | (refine InS.nat (by (try simp only [List.length_map]); omega) ?_)
              | (refine ElemS.the (by assumption) ?_)
              | (refine ElemS.nat (by omega) fun x hx => ?_)
              | (refine ByteS.the (by assumption) ?_)
              | (refine ByteS.nat (by omega) fun x hx => ?_)
              | (refine ElemS.at (by omega) fun i y hi hy => ?_)
              | (refine ByteS.at (by omega) fun i y hi hy => ?_)
              | (refine InS.at (by omega) fun i hi => ?_)
              | (refine AskS.app rfl (by (try simp only [cutL, List.length_take, List.length_drop, List.length_replicate, List.length_map, List.length_append, List.length_cons, List.length_nil]); omega) ?_)
              | (refine draw_k (by decide +kernel) (by decide +kernel) ?_)
              | (refine draw_kb (by decide +kernel) (by decide +kernel) ?_)
              | (refine ret_pick [] rfl rfl rfl ⟨?_, rfl⟩; conv => lhs; whnf)
              | (refine ret_pick [0] rfl rfl rfl ⟨rfl, ?_⟩)
              | (refine he _ _ ?_; clear hn he hr Q') | (refine hn _ ?_; clear hn he hr Q') | (refine hr _ ?_; clear hn he hr Q')))
  · have hi := idxS_ge (l := s.1) (n := x) (by assumption)
    have h1 : useTo (sizeM a) cap pol uses (k + 1) = (era s.1 (nx s.1 x) ++ [x], s.2) := by
      rw [useTo_step hx, hs, useOne, if_pos hi.2.2, if_pos (by assumption)]
    have hz1 : sumZ (sizeM a) (era s.1 (nx s.1 x) ++ [x]) = sumZ (sizeM a) s.1 := by
      obtain ⟨y, hy⟩ : ∃ y, s.1[nx s.1 x]? = some y := ⟨_, List.getElem?_eq_getElem hi.2.2⟩
      have hyx : y = x := by simpa using (firstAt_spec (fun y => y == x) s.1).2 y hy
      rw [sumZ_snoc, sumZ_era hy, hyx]; omega
    refine ⟨k + 1, by omega, by omega, ?_⟩
    refine weak_sel [1] rfl ?_ ?_
    · rw [h1, show nx s.1 x = (idxS s.1 x).toNat by omega]
      simp only [List.map_append]
      exact ⟨⟨rfl, rfl, rfl⟩, trivial⟩
    · rw [h1, hz1]
      exact ⟨rfl, rfl, rfl, rfl, rfl, rfl, rfl, rfl, rfl, rfl, trivial⟩
  · have hi := idxS_ge (l := s.1) (n := x) (by assumption)
    have h1 : useTo (sizeM a) cap pol uses (k + 1) = s := by
      rw [useTo_step hx, hs, useOne, if_pos hi.2.2, if_neg (by assumption)]
    refine ⟨k + 1, by omega, by omega, ?_⟩
    rw [h1]
    exact (by refine weak_to rfl rfl rfl ?_; ((repeat' (first | exact trivial | refine And.intro ?_ ?_)) <;> (first | rfl | (conv => rhs; whnf) <;> (first | rfl | (refine congrArg (D.int _) ?_; omega)))))
  · have hni : ¬ nx s.1 x < s.1.length := fun h => by
      have h2 : idxS s.1 x < 0 := by omega
      rw [idxS_eq, if_pos h] at h2; omega
    have h1 : useTo (sizeM a) cap pol uses (k + 1) = (s.1, s.2 + 1) := by
      rw [useTo_step hx, hs, useOne, if_neg hni, if_pos (by assumption)]
    refine ⟨k + 1, by omega, by omega, ?_⟩
    rw [h1]
    exact (by refine weak_to rfl rfl rfl ?_; ((repeat' (first | exact trivial | refine And.intro ?_ ?_)) <;> (first | rfl | (conv => rhs; whnf) <;> (first | rfl | (refine congrArg (D.int _) ?_; omega)))))
  · obtain ⟨u, hxu, rfl⟩ : ∃ u, uses[k]? = some u ∧ u = x := ⟨x, hx, rfl⟩
    clear hx
    have hni : ¬ nx s.1 u < s.1.length := fun h => by
      have h2 : idxS s.1 u < 0 := by omega
      rw [idxS_eq, if_pos h] at h2; omega
    have hxb := hz u (List.mem_of_getElem? hxu)
    have hsc : sizeM a u ≤ cap := by omega
    have h1 : useTo (sizeM a) cap pol uses (k + 1) = (evF (sizeM a) cap (sizeM a u) pol (uses.drop (k + 1)) s.1 ++ [u], s.2 + 1) := by
      rw [useTo_step hxu, hs, useOne, if_neg hni, if_neg (by omega)]
    refine loop_env (fun l : List SB => [(0,.sl 2 (a.map encMedia)),(1,.sl 1 (uses.map encS)),(2,.int .i64 cap),(3,.int .i64 pol),(13,.h 0),(14,.int .i64 (sumZ (sizeM a) l)),(15,.int .i64 ((s.2 : Int) + 1)),(16,.int .i64 k),(17,.str u),(19,.int .i64 (sizeM a u)),(46,.sl 1 (uses.map encS)),(47,.int .i64 uses.length),(48,.int .i64 k)]) (fun l => [.row 9 1 (l.map encS)]) (fun l => evF (sizeM a) cap (sizeM a u) pol (uses.drop (k + 1)) l = evF (sizeM a) cap (sizeM a u) pol (uses.drop (k + 1)) s.1 ∧ okZ (sizeM a) l ∧ l.length ≤ s.1.length) (fun l => l.length) s.1 ⟨rfl, hok, Nat.le_refl _⟩ (by refine weak_to rfl rfl rfl ?_; exact ⟨rfl, rfl, rfl, rfl, rfl, rfl, rfl, rfl, rfl, rfl, rfl, rfl, rfl, trivial⟩) (fun l hl2 Q' hn he hr => ?_)
    obtain ⟨he1, hok2, hle2⟩ := hl2
    have hsb := sumZ_bound hok2
    by_cases hover : cap < sumZ (sizeM a) l + sizeM a u
    · have hpos := over_pos hsc hover
      have hfl := far_lt (uses.drop (k + 1)) l l.length hpos
      by_cases hp3 : pol = 3
      · skip
        repeat' (first
                 | (with_reducible refine awp_seq_k (fun Q' hn he hr => ?_))
                 | (with_reducible refine awp_block_k (fun Q' hn he hr => ?_))
                 | (with_reducible refine awp_cond_k ?_)
                 | (with_reducible refine awp_region_k ?_)
                 | (with_reducible refine awp_draw_k ?_)
                 | (with_reducible refine awp_ret_k ?_)
                 | (with_reducible refine awp_exit_k ?_)
                 | (with_reducible refine awp_skip_k ?_)
                 | (with_reducible refine awp_label_k ?_)
                 | (with_reducible refine awp_scope_k ?_)
                 | (with_reducible refine awp_loop_k ?_)
                 | (with_reducible refine hn _ ?_; clear hn he hr Q')
                 | (with_reducible refine hr _ ?_; clear hn he hr Q')
                 | (with_reducible refine he _ _ ?_; clear hn he hr Q')
                 | (conv => whnf
                    first
                    | ((first | (with_reducible refine br_t ?_) | (with_reducible refine br_f ?_) | (with_reducible refine br_c ?_)); repeat' (first | (with_reducible refine Br.tt ?_) | (with_reducible refine Br.ff ?_) | (with_reducible refine Br.nt ?_) | (with_reducible refine Br.nf ?_) | (with_reducible refine Br.condt ?_) | (with_reducible refine Br.condf ?_) | (with_reducible refine Br.ncondt ?_) | (with_reducible refine Br.ncondf ?_) | ((first | (with_reducible refine Br.lt (fun hb => ?_) (fun hb => ?_)) | (with_reducible refine Br.le (fun hb => ?_) (fun hb => ?_)) | (with_reducible refine Br.eqn (fun hb => ?_) (fun hb => ?_)) | (with_reducible refine Br.nlt (fun hb => ?_) (fun hb => ?_)) | (with_reducible refine Br.nle (fun hb => ?_) (fun hb => ?_)) | (with_reducible refine Br.neqn (fun hb => ?_) (fun hb => ?_)) | (with_reducible refine Br.dec (fun hb => ?_) (fun hb => ?_)) | (with_reducible refine Br.beq (fun hb => ?_) (fun hb => ?_)) | (with_reducible refine Br.ndec (fun hb => ?_) (fun hb => ?_)) | (with_reducible refine Br.nbeq (fun hb => ?_) (fun hb => ?_)) | (with_reducible refine Br.nsym (fun hb => ?_) (fun hb => ?_)) | (with_reducible refine Br.sym (fun hb => ?_) (fun hb => ?_))) <;> (try (first | exact absurd rfl hb | exact absurd (hb.symm.trans hv) (by decide) | exact absurd (hb.symm.trans hv2) (by decide) | exact absurd (hb.symm.trans hv3) (by decide) | exact absurd hb (List.cons_ne_nil _ _) | exact absurd hb (by decide) | (exfalso; omega))))))
                    | (refine ArithS.in64 (by have h9 := hok2 _ (List.mem_of_getElem? hx); omega) ?_)
                    | (refine ArithS.in64 (by have h9 := hok2 _ (List.mem_of_getElem? hy); omega) ?_)
                    | ((with_reducible refine isCall ?_); first | (refine call_look (c_impl_farthest_at l (uses.drop (k + 1)) _ (by rw [List.map_drop]; exact congrArg (fun n => List.drop n (uses.map encS)) (by omega))) rfl ?_) | (refine call_look (c_impl_sizeOf a _) rfl ?_) | (refine call_mv 0 rfl (c_slicesDelete_At l _ ⟨by omega, by omega⟩ (by omega)) rfl (flat_one (FlatO.map fun _ => rfl)) (by first | exact (rfl : _ = 0) | exact (rfl : _ = 1) | exact (rfl : _ = 2) | exact (rfl : _ = 3) | exact (rfl : _ = 4) | exact (rfl : _ = 5) | exact (rfl : _ = 6) | exact (rfl : _ = 7) | exact (rfl : _ = 8) | exact (rfl : _ = 9) | exact (rfl : _ = 10) | exact (rfl : _ = 11) | exact (rfl : _ = 12) | exact (rfl : _ = 13) | exact (rfl : _ = 14) | exact (rfl : _ = 15) | exact (rfl : _ = 16) | exact (rfl : _ = 17) | exact (rfl : _ = 18) | exact (rfl : _ = 19) | exact (rfl : _ = 20) | exact (rfl : _ = 21) | exact (rfl : _ = 22) | exact (rfl : _ = 23) | exact (rfl : _ = 24) | exact (rfl : _ = 25) | exact (rfl : _ = 26) | exact (rfl : _ = 27) | exact (rfl : _ = 28) | exact (rfl : _ = 29) | exact (rfl : _ = 30) | exact (rfl : _ = 31) | exact (rfl : _ = 32) | exact (rfl : _ = 33) | exact (rfl : _ = 34) | exact (rfl : _ = 35) | exact (rfl : _ = 36) | exact (rfl : _ = 37) | exact (rfl : _ = 38) | exact (rfl : _ = 39)) ?_))
                    | ((with_reducible refine isCallQ ?_); first | (refine callQ_look (c_impl_farthest_at l (uses.drop (k + 1)) _ (by rw [List.map_drop]; exact congrArg (fun n => List.drop n (uses.map encS)) (by omega))) rfl ?_) | (refine callQ_look (c_impl_sizeOf a _) rfl ?_))
                    | (refine SameV.mk ?_)
                    | (refine NeedS.mk (by (try simp only [cutL, List.length_map, List.length_append, List.length_cons, List.length_nil, List.length_take, List.length_drop, List.length_replicate]); omega) ?_)
                    | (refine CapS.mk fun c hc hcm => ?_; try simp only [List.length_map, List.length_append, List.length_cons, List.length_nil] at hc)
                    | (refine CutS.zn (by (try simp only [cutL, List.length_map, List.length_append, List.length_cons, List.length_nil, List.length_take, List.length_drop, List.length_replicate]); omega) ?_)
                    | (refine CutS.nn (by omega) (by (try simp only [cutL, List.length_map, List.length_append, List.length_cons, List.length_nil, List.length_take, List.length_drop, List.length_replicate]); omega) ?_)
                    | (refine CutS.at (by (try simp only [cutL, List.length_map, List.length_append, List.length_cons, List.length_nil, List.length_take, List.length_drop, List.length_replicate]); omega) fun i1 i2 hi1 hi2 hj1 hj2 => ?_; try simp only [cutL, List.length_map, List.length_append, List.length_cons, List.length_nil, List.length_take, List.length_drop, List.length_replicate] at hi1 hi2 hj2)
                    | (refine SameL.mk ?_)
                    | (refine LenS.nil ?_)
                    | (refine LenS.one ?_)
                    | (refine LenS.map fun hlen => ?_)
                    | (refine LenS.int fun hlen => ?_)
                    | (refine ArithS.in64 (by omega) ?_)
                    | (refine MakeS.nat rfl (by omega) ?_)
                    | (refine InS.fill (by omega) ?_)
                    | (refine ElemS.fill (by omega) ?_)
                    | (refine InS.nat (by omega) ?_)
                    | (refine InS.nat (by (try simp only [List.length_map]); omega) ?_)
                    | (refine ElemS.the (by assumption) ?_)
                    | (refine ElemS.nat (by omega) fun x hx => ?_)
                    | (refine ByteS.the (by assumption) ?_)
                    | (refine ByteS.nat (by omega) fun x hx => ?_)
                    | (refine ElemS.at (by omega) fun i y hi hy => ?_)
                    | (refine ByteS.at (by omega) fun i y hi hy => ?_)
                    | (refine InS.at (by omega) fun i hi => ?_)
                    | (refine AskS.app rfl (by (try simp only [cutL, List.length_take, List.length_drop, List.length_replicate, List.length_map, List.length_append, List.length_cons, List.length_nil]); omega) ?_)
                    | (refine draw_k (by decide +kernel) (by decide +kernel) ?_)
                    | (refine draw_kb (by decide +kernel) (by decide +kernel) ?_)
                    | (refine ret_pick [] rfl rfl rfl ⟨?_, rfl⟩; conv => lhs; whnf)
                    | (refine ret_pick [0] rfl rfl rfl ⟨rfl, ?_⟩)
                    | (refine he _ _ ?_; clear hn he hr Q') | (refine hn _ ?_; clear hn he hr Q') | (refine hr _ ?_; clear hn he hr Q')))
        have hvv : vic pol (uses.drop (k + 1)) l = far (uses.drop (k + 1)) l l.length := by unfold vic; rw [if_pos hp3]
        have h2 := evF_over (sz := sizeM a) (pol := pol) (rest := uses.drop (k + 1)) hsc hover
        rw [hvv] at h2
        have h3 := era_length (hfl)
        refine ⟨era l (far (uses.drop (k + 1)) l l.length), ⟨by rw [← h2]; exact he1, okZ_era hok2 _, by omega⟩, by omega, ?_⟩
        refine weak_sel [1] rfl ?_ ?_
        · exact ⟨⟨rfl, rfl, rfl⟩, trivial⟩
        · rw [sumZ_era hx]
          exact ⟨rfl, rfl, rfl, rfl, rfl, rfl, rfl, rfl, rfl, rfl, rfl, rfl, rfl, trivial⟩
      · skip
        repeat' (first
                 | (with_reducible refine awp_seq_k (fun Q' hn he hr => ?_))
                 | (with_reducible refine awp_block_k (fun Q' hn he hr => ?_))
                 | (with_reducible refine awp_cond_k ?_)
                 | (with_reducible refine awp_region_k ?_)
                 | (with_reducible refine awp_draw_k ?_)
                 | (with_reducible refine awp_ret_k ?_)
                 | (with_reducible refine awp_exit_k ?_)
                 | (with_reducible refine awp_skip_k ?_)
                 | (with_reducible refine awp_label_k ?_)
                 | (with_reducible refine awp_scope_k ?_)
                 | (with_reducible refine awp_loop_k ?_)
                 | (with_reducible refine hn _ ?_; clear hn he hr Q')
                 | (with_reducible refine hr _ ?_; clear hn he hr Q')
                 | (with_reducible refine he _ _ ?_; clear hn he hr Q')
                 | (conv => whnf
                    first
                    | ((first | (with_reducible refine br_t ?_) | (with_reducible refine br_f ?_) | (with_reducible refine br_c ?_)); repeat' (first | (with_reducible refine Br.tt ?_) | (with_reducible refine Br.ff ?_) | (with_reducible refine Br.nt ?_) | (with_reducible refine Br.nf ?_) | (with_reducible refine Br.condt ?_) | (with_reducible refine Br.condf ?_) | (with_reducible refine Br.ncondt ?_) | (with_reducible refine Br.ncondf ?_) | ((first | (with_reducible refine Br.lt (fun hb => ?_) (fun hb => ?_)) | (with_reducible refine Br.le (fun hb => ?_) (fun hb => ?_)) | (with_reducible refine Br.eqn (fun hb => ?_) (fun hb => ?_)) | (with_reducible refine Br.nlt (fun hb => ?_) (fun hb => ?_)) | (with_reducible refine Br.nle (fun hb => ?_) (fun hb => ?_)) | (with_reducible refine Br.neqn (fun hb => ?_) (fun hb => ?_)) | (with_reducible refine Br.dec (fun hb => ?_) (fun hb => ?_)) | (with_reducible refine Br.beq (fun hb => ?_) (fun hb => ?_)) | (with_reducible refine Br.ndec (fun hb => ?_) (fun hb => ?_)) | (with_reducible refine Br.nbeq (fun hb => ?_) (fun hb => ?_)) | (with_reducible refine Br.nsym (fun hb => ?_) (fun hb => ?_)) | (with_reducible refine Br.sym (fun hb => ?_) (fun hb => ?_))) <;> (try (first | exact absurd rfl hb | exact absurd (hb.symm.trans hv) (by decide) | exact absurd (hb.symm.trans hv2) (by decide) | exact absurd (hb.symm.trans hv3) (by decide) | exact absurd hb (List.cons_ne_nil _ _) | exact absurd hb (by decide) | (exfalso; omega))))))
                    | (refine ArithS.in64 (by have h9 := hok2 _ (List.mem_of_getElem? hx); omega) ?_)
                    | (refine ArithS.in64 (by have h9 := hok2 _ (List.mem_of_getElem? hy); omega) ?_)
                    | ((with_reducible refine isCall ?_); first | (refine call_look (c_impl_farthest_at l (uses.drop (k + 1)) _ (by rw [List.map_drop]; exact congrArg (fun n => List.drop n (uses.map encS)) (by omega))) rfl ?_) | (refine call_look (c_impl_sizeOf a _) rfl ?_) | (refine call_mv 0 rfl (c_slicesDelete_At l _ ⟨by omega, by omega⟩ (by omega)) rfl (flat_one (FlatO.map fun _ => rfl)) (by first | exact (rfl : _ = 0) | exact (rfl : _ = 1) | exact (rfl : _ = 2) | exact (rfl : _ = 3) | exact (rfl : _ = 4) | exact (rfl : _ = 5) | exact (rfl : _ = 6) | exact (rfl : _ = 7) | exact (rfl : _ = 8) | exact (rfl : _ = 9) | exact (rfl : _ = 10) | exact (rfl : _ = 11) | exact (rfl : _ = 12) | exact (rfl : _ = 13) | exact (rfl : _ = 14) | exact (rfl : _ = 15) | exact (rfl : _ = 16) | exact (rfl : _ = 17) | exact (rfl : _ = 18) | exact (rfl : _ = 19) | exact (rfl : _ = 20) | exact (rfl : _ = 21) | exact (rfl : _ = 22) | exact (rfl : _ = 23) | exact (rfl : _ = 24) | exact (rfl : _ = 25) | exact (rfl : _ = 26) | exact (rfl : _ = 27) | exact (rfl : _ = 28) | exact (rfl : _ = 29) | exact (rfl : _ = 30) | exact (rfl : _ = 31) | exact (rfl : _ = 32) | exact (rfl : _ = 33) | exact (rfl : _ = 34) | exact (rfl : _ = 35) | exact (rfl : _ = 36) | exact (rfl : _ = 37) | exact (rfl : _ = 38) | exact (rfl : _ = 39)) ?_))
                    | ((with_reducible refine isCallQ ?_); first | (refine callQ_look (c_impl_farthest_at l (uses.drop (k + 1)) _ (by rw [List.map_drop]; exact congrArg (fun n => List.drop n (uses.map encS)) (by omega))) rfl ?_) | (refine callQ_look (c_impl_sizeOf a _) rfl ?_))
                    | (refine SameV.mk ?_)
                    | (refine NeedS.mk (by (try simp only [cutL, List.length_map, List.length_append, List.length_cons, List.length_nil, List.length_take, List.length_drop, List.length_replicate]); omega) ?_)
                    | (refine CapS.mk fun c hc hcm => ?_; try simp only [List.length_map, List.length_append, List.length_cons, List.length_nil] at hc)
                    | (refine CutS.zn (by (try simp only [cutL, List.length_map, List.length_append, List.length_cons, List.length_nil, List.length_take, List.length_drop, List.length_replicate]); omega) ?_)
                    | (refine CutS.nn (by omega) (by (try simp only [cutL, List.length_map, List.length_append, List.length_cons, List.length_nil, List.length_take, List.length_drop, List.length_replicate]); omega) ?_)
                    | (refine CutS.at (by (try simp only [cutL, List.length_map, List.length_append, List.length_cons, List.length_nil, List.length_take, List.length_drop, List.length_replicate]); omega) fun i1 i2 hi1 hi2 hj1 hj2 => ?_; try simp only [cutL, List.length_map, List.length_append, List.length_cons, List.length_nil, List.length_take, List.length_drop, List.length_replicate] at hi1 hi2 hj2)
                    | (refine SameL.mk ?_)
                    | (refine LenS.nil ?_)
                    | (refine LenS.one ?_)
                    | (refine LenS.map fun hlen => ?_)
                    | (refine LenS.int fun hlen => ?_)
                    | (refine ArithS.in64 (by omega) ?_)
                    | (refine MakeS.nat rfl (by omega) ?_)
                    | (refine InS.fill (by omega) ?_)
                    | (refine ElemS.fill (by omega) ?_)
                    | (refine InS.nat (by omega) ?_)
                    | (refine InS.nat (by (try simp only [List.length_map]); omega) ?_)
                    | (refine ElemS.the (by assumption) ?_)
                    | (refine ElemS.nat (by omega) fun x hx => ?_)
                    | (refine ByteS.the (by assumption) ?_)
                    | (refine ByteS.nat (by omega) fun x hx => ?_)
                    | (refine ElemS.at (by omega) fun i y hi hy => ?_)
                    | (refine ByteS.at (by omega) fun i y hi hy => ?_)
                    | (refine InS.at (by omega) fun i hi => ?_)
                    | (refine AskS.app rfl (by (try simp only [cutL, List.length_take, List.length_drop, List.length_replicate, List.length_map, List.length_append, List.length_cons, List.length_nil]); omega) ?_)
                    | (refine draw_k (by decide +kernel) (by decide +kernel) ?_)
                    | (refine draw_kb (by decide +kernel) (by decide +kernel) ?_)
                    | (refine ret_pick [] rfl rfl rfl ⟨?_, rfl⟩; conv => lhs; whnf)
                    | (refine ret_pick [0] rfl rfl rfl ⟨rfl, ?_⟩)
                    | (refine he _ _ ?_; clear hn he hr Q') | (refine hn _ ?_; clear hn he hr Q') | (refine hr _ ?_; clear hn he hr Q')))
        have hvv : vic pol (uses.drop (k + 1)) l = 0 := by unfold vic; rw [if_neg hp3]
        have h2 := evF_over (sz := sizeM a) (pol := pol) (rest := uses.drop (k + 1)) hsc hover
        rw [hvv] at h2
        have h3 := era_length (hpos)
        refine ⟨era l (0), ⟨by rw [← h2]; exact he1, okZ_era hok2 _, by omega⟩, by omega, ?_⟩
        refine weak_sel [1] rfl ?_ ?_
        · exact ⟨⟨rfl, rfl, rfl⟩, trivial⟩
        · rw [sumZ_era hx]
          exact ⟨rfl, rfl, rfl, rfl, rfl, rfl, rfl, rfl, rfl, rfl, rfl, rfl, rfl, trivial⟩
    · skip
      repeat' (first
               | (with_reducible refine awp_seq_k (fun Q' hn he hr => ?_))
               | (with_reducible refine awp_block_k (fun Q' hn he hr => ?_))
               | (with_reducible refine awp_cond_k ?_)
               | (with_reducible refine awp_region_k ?_)
               | (with_reducible refine awp_draw_k ?_)
               | (with_reducible refine awp_ret_k ?_)
               | (with_reducible refine awp_exit_k ?_)
               | (with_reducible refine awp_skip_k ?_)
               | (with_reducible refine awp_label_k ?_)
               | (with_reducible refine awp_scope_k ?_)
               | (with_reducible refine awp_loop_k ?_)
               | (with_reducible refine hn _ ?_; clear hn he hr Q')
               | (with_reducible refine hr _ ?_; clear hn he hr Q')
               | (with_reducible refine he _ _ ?_; clear hn he hr Q')
               | (conv => whnf
                  first
                  | ((first | (with_reducible refine br_t ?_) | (with_reducible refine br_f ?_) | (with_reducible refine br_c ?_)); repeat' (first | (with_reducible refine Br.tt ?_) | (with_reducible refine Br.ff ?_) | (with_reducible refine Br.nt ?_) | (with_reducible refine Br.nf ?_) | (with_reducible refine Br.condt ?_) | (with_reducible refine Br.condf ?_) | (with_reducible refine Br.ncondt ?_) | (with_reducible refine Br.ncondf ?_) | ((first | (with_reducible refine Br.lt (fun hb => ?_) (fun hb => ?_)) | (with_reducible refine Br.le (fun hb => ?_) (fun hb => ?_)) | (with_reducible refine Br.eqn (fun hb => ?_) (fun hb => ?_)) | (with_reducible refine Br.nlt (fun hb => ?_) (fun hb => ?_)) | (with_reducible refine Br.nle (fun hb => ?_) (fun hb => ?_)) | (with_reducible refine Br.neqn (fun hb => ?_) (fun hb => ?_)) | (with_reducible refine Br.dec (fun hb => ?_) (fun hb => ?_)) | (with_reducible refine Br.beq (fun hb => ?_) (fun hb => ?_)) | (with_reducible refine Br.ndec (fun hb => ?_) (fun hb => ?_)) | (with_reducible refine Br.nbeq (fun hb => ?_) (fun hb => ?_)) | (with_reducible refine Br.nsym (fun hb => ?_) (fun hb => ?_)) | (with_reducible refine Br.sym (fun hb => ?_) (fun hb => ?_))) <;> (try (first | exact absurd rfl hb | exact absurd (hb.symm.trans hv) (by decide) | exact absurd (hb.symm.trans hv2) (by decide) | exact absurd (hb.symm.trans hv3) (by decide) | exact absurd hb (List.cons_ne_nil _ _) | exact absurd hb (by decide) | (exfalso; omega))))))
                  | (refine AskS.app rfl (by simp only [era, List.length_map, List.length_append, List.length_take, List.length_drop, List.length_cons, List.length_nil]; omega) ?_)
                  | (refine ArithS.in64 (by have h9 := hok2 _ (List.mem_of_getElem? hx); omega) ?_)
                  | (refine ArithS.in64 (by have h9 := hok2 _ (List.mem_of_getElem? hy); omega) ?_)
                  | ((with_reducible refine isCall ?_); first | (refine call_look (c_impl_farthest_at l (uses.drop (k + 1)) _ (by rw [List.map_drop]; exact congrArg (fun n => List.drop n (uses.map encS)) (by omega))) rfl ?_) | (refine call_look (c_impl_sizeOf a _) rfl ?_) | (refine call_mv 0 rfl (c_slicesDelete_At l _ ⟨by omega, by omega⟩ (by omega)) rfl (flat_one (FlatO.map fun _ => rfl)) (by first | exact (rfl : _ = 0) | exact (rfl : _ = 1) | exact (rfl : _ = 2) | exact (rfl : _ = 3) | exact (rfl : _ = 4) | exact (rfl : _ = 5) | exact (rfl : _ = 6) | exact (rfl : _ = 7) | exact (rfl : _ = 8) | exact (rfl : _ = 9) | exact (rfl : _ = 10) | exact (rfl : _ = 11) | exact (rfl : _ = 12) | exact (rfl : _ = 13) | exact (rfl : _ = 14) | exact (rfl : _ = 15) | exact (rfl : _ = 16) | exact (rfl : _ = 17) | exact (rfl : _ = 18) | exact (rfl : _ = 19) | exact (rfl : _ = 20) | exact (rfl : _ = 21) | exact (rfl : _ = 22) | exact (rfl : _ = 23) | exact (rfl : _ = 24) | exact (rfl : _ = 25) | exact (rfl : _ = 26) | exact (rfl : _ = 27) | exact (rfl : _ = 28) | exact (rfl : _ = 29) | exact (rfl : _ = 30) | exact (rfl : _ = 31) | exact (rfl : _ = 32) | exact (rfl : _ = 33) | exact (rfl : _ = 34) | exact (rfl : _ = 35) | exact (rfl : _ = 36) | exact (rfl : _ = 37) | exact (rfl : _ = 38) | exact (rfl : _ = 39)) ?_))
                  | ((with_reducible refine isCallQ ?_); first | (refine callQ_look (c_impl_farthest_at l (uses.drop (k + 1)) _ (by rw [List.map_drop]; exact congrArg (fun n => List.drop n (uses.map encS)) (by omega))) rfl ?_) | (refine callQ_look (c_impl_sizeOf a _) rfl ?_))
                  | (refine SameV.mk ?_)
                  | (refine NeedS.mk (by (try simp only [cutL, List.length_map, List.length_append, List.length_cons, List.length_nil, List.length_take, List.length_drop, List.length_replicate]); omega) ?_)
                  | (refine CapS.mk fun c hc hcm => ?_; try simp only [List.length_map, List.length_append, List.length_cons, List.length_nil] at hc)
                  | (refine CutS.zn (by (try simp only [cutL, List.length_map, List.length_append, List.length_cons, List.length_nil, List.length_take, List.length_drop, List.length_replicate]); omega) ?_)
                  | (refine CutS.nn (by omega) (by (try simp only [cutL, List.length_map, List.length_append, List.length_cons, List.length_nil, List.length_take, List.length_drop, List.length_replicate]); omega) ?_)
                  | (refine CutS.at (by (try simp only [cutL, List.length_map, List.length_append, List.length_cons, List.length_nil, List.length_take, List.length_drop, List.length_replicate]); omega) fun i1 i2 hi1 hi2 hj1 hj2 => ?_; try simp only [cutL, List.length_map, List.length_append, List.length_cons, List.length_nil, List.length_take, List.length_drop, List.length_replicate] at hi1 hi2 hj2)
                  | (refine SameL.mk ?_)
                  | (refine LenS.nil ?_)
                  | (refine LenS.one ?_)
                  | (refine LenS.map fun hlen => ?_)
                  | (refine LenS.int fun hlen => ?_)
                  | (refine ArithS.in64 (by omega) ?_)
                  | (refine MakeS.nat rfl (by omega) ?_)
                  | (refine InS.fill (by omega) ?_)
                  | (refine ElemS.fill (by omega) ?_)
                  | (refine InS.nat (by omega) ?_)
                  | (refine InS.nat (by (try simp only [List.length_map]); omega) ?_)
                  | (refine ElemS.the (by assumption) ?_)
                  | (refine ElemS.nat (by omega) fun x hx => ?_)
                  | (refine ByteS.the (by assumption) ?_)
                  | (refine ByteS.nat (by omega) fun x hx => ?_)
                  | (refine ElemS.at (by omega) fun i y hi hy => ?_)
                  | (refine ByteS.at (by omega) fun i y hi hy => ?_)
                  | (refine InS.at (by omega) fun i hi => ?_)
                  | (refine AskS.app rfl (by (try simp only [cutL, List.length_take, List.length_drop, List.length_replicate, List.length_map, List.length_append, List.length_cons, List.length_nil]); omega) ?_)
                  | (refine draw_k (by decide +kernel) (by decide +kernel) ?_)
                  | (refine draw_kb (by decide +kernel) (by decide +kernel) ?_)
                  | (refine ret_pick [] rfl rfl rfl ⟨?_, rfl⟩; conv => lhs; whnf)
                  | (refine ret_pick [0] rfl rfl rfl ⟨rfl, ?_⟩)
                  | (refine he _ _ ?_; clear hn he hr Q') | (refine hn _ ?_; clear hn he hr Q') | (refine hr _ ?_; clear hn he hr Q')))
      have h4 : useTo (sizeM a) cap pol uses (k + 1) = (l ++ [u], s.2 + 1) := by rw [h1, ← he1, evF_done hover]
      refine ⟨k + 1, by omega, by omega, ?_⟩
      rw [h4, sumZ_snoc]
      exact (by refine weak_to rfl rfl (by simp only [List.map_append]; rfl) ?_; ((repeat' (first | exact trivial | refine And.intro ?_ ?_)) <;> (first | rfl | (conv => rhs; whnf) <;> (first | rfl | (refine congrArg (D.int _) ?_; omega)))))
  · have he : k = uses.length := by omega
    rw [← he, hs]; rfl
  · have he : k = uses.length := by omega
    rw [← he, hs]; rfl
end Go.Eng
