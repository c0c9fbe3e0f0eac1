/-
  The program's CacheAfter returns what the reference's returns, for all arguments.
  No conditions.
-/
import Derived.Test.YthhmhmbdfahkjaaMS
import Derived.Test.YthhmhmbdfahkjaaM6
import Derived.Test.YthhmhmbdfahkjaaRows
import Derived.Test.YthhmhmbdfahkjaaChecked
import Derived.ProofKit
import Derived.OpenShut
import Derived.ShutString
import Derived.ChangeOld
namespace Go.Eng
open Go Go.RowKit Go.Proofs
set_option maxRecDepth 100000
set_option maxHeartbeats 40000000 in
theorem c_FnExactCacheAfter (a : List TMedia) (uses : List SB) (cap pol : Int) (_ : ∀ x ∈ a, okMedia x) (_ : ∀ x ∈ uses, x.length ≤ maxLen) (_ : (Lit.int .i64 cap).wf = true) (_ : (Lit.int .i64 pol).wf = true) : FnC Try.prog 9 G0 0 [] [.sl 2 (a.map encMedia), .sl 1 (uses.map encS), .int .i64 cap, .int .i64 pol] (fun d os => d = .bool true ∧ os = []) := by
  have ha := szL_len TMedia.sz a
  have hu0 := szL_len List.length uses
  cases hv : validMs a with
  | false =>
    refine fn_rule Try.func9 rfl (by decide +kernel) rfl (fun w0 F0 lent β0 => ?_)
    repeat' (first
             | (with_reducible refine awp_seq_k (fun Q' hn he hr => ?_))
             | (with_reducible refine awp_block_k (fun Q' hn he hr => ?_))
             | (with_reducible refine awp_cond_k ?_)
             | (with_reducible refine awp_region_k ?_)
             | (with_reducible refine awp_draw_k ?_)
             | (with_reducible refine awp_ret_k ?_)
             | (with_reducible refine awp_exit_k ?_)
             | (with_reducible refine awp_skip_k ?_)
             | (with_reducible refine awp_label_k ?_)
             | (with_reducible refine awp_scope_k ?_)
             | (with_reducible refine awp_loop_k ?_)
             | (with_reducible refine hn _ ?_; clear hn he hr Q')
             | (with_reducible refine hr _ ?_; clear hn he hr Q')
             | (with_reducible refine he _ _ ?_; clear hn he hr Q')
             | (with_reducible refine opsK_go ?_)
             | (with_reducible refine quietK_go ?_)
             | (with_reducible refine opsD_one ?_)
             | (with_reducible refine opsD_end ?_)
             | (with_reducible refine quietD_one ?_)
             | (with_reducible refine quietD_end ?_)
             | ((with_reducible refine isOps ?_); refine opsD_one ?_)
             | ((with_reducible refine isOps ?_); refine opsD_end ?_)
             | ((with_reducible refine isQuiet ?_); refine quietD_one ?_)
             | ((with_reducible refine isQuiet ?_); refine quietD_end ?_)
             | (conv => whnf
                first
                | (with_reducible refine opsK_go ?_)
                | (with_reducible refine quietK_go ?_)
                | ((first | (with_reducible refine br_t ?_) | (with_reducible refine br_f ?_) | (with_reducible refine br_c ?_)); repeat' (first | (with_reducible refine Br.tt ?_) | (with_reducible refine Br.ff ?_) | (with_reducible refine Br.nt ?_) | (with_reducible refine Br.nf ?_) | (with_reducible refine Br.condt ?_) | (with_reducible refine Br.condf ?_) | (with_reducible refine Br.ncondt ?_) | (with_reducible refine Br.ncondf ?_) | ((first | (with_reducible refine Br.lt (fun hb => ?_) (fun hb => ?_)) | (with_reducible refine Br.le (fun hb => ?_) (fun hb => ?_)) | (with_reducible refine Br.eqn (fun hb => ?_) (fun hb => ?_)) | (with_reducible refine Br.nlt (fun hb => ?_) (fun hb => ?_)) | (with_reducible refine Br.nle (fun hb => ?_) (fun hb => ?_)) | (with_reducible refine Br.neqn (fun hb => ?_) (fun hb => ?_)) | (with_reducible refine Br.dec (fun hb => ?_) (fun hb => ?_)) | (with_reducible refine Br.beq (fun hb => ?_) (fun hb => ?_)) | (with_reducible refine Br.ndec (fun hb => ?_) (fun hb => ?_)) | (with_reducible refine Br.nbeq (fun hb => ?_) (fun hb => ?_)) | (with_reducible refine Br.nsym (fun hb => ?_) (fun hb => ?_)) | (with_reducible refine Br.sym (fun hb => ?_) (fun hb => ?_))) <;> (try (first | exact absurd rfl hb | exact absurd (hb.symm.trans hv) (by decide) | exact absurd (hb.symm.trans hv2) (by decide) | exact absurd (hb.symm.trans hv3) (by decide) | exact absurd hb (List.cons_ne_nil _ _) | exact absurd hb (by decide) | (exfalso; omega))))))
                | ((with_reducible refine isCall ?_); first | (refine call_pure (c_szMediaS _ _ (by omega) (by omega)) rfl rfl ?_) | (refine call_pure (c_szStringS _ _ (by omega) (by omega)) rfl rfl ?_) | (refine call_new (c_toMediaS a (by omega)) rfl (by first | exact (rfl : _ = 0) | exact (rfl : _ = 1) | exact (rfl : _ = 2) | exact (rfl : _ = 3) | exact (rfl : _ = 4) | exact (rfl : _ = 5) | exact (rfl : _ = 6) | exact (rfl : _ = 7) | exact (rfl : _ = 8) | exact (rfl : _ = 9) | exact (rfl : _ = 10) | exact (rfl : _ = 11) | exact (rfl : _ = 12) | exact (rfl : _ = 13) | exact (rfl : _ = 14) | exact (rfl : _ = 15) | exact (rfl : _ = 16) | exact (rfl : _ = 17) | exact (rfl : _ = 18) | exact (rfl : _ = 19) | exact (rfl : _ = 20) | exact (rfl : _ = 21) | exact (rfl : _ = 22) | exact (rfl : _ = 23) | exact (rfl : _ = 24) | exact (rfl : _ = 25) | exact (rfl : _ = 26) | exact (rfl : _ = 27) | exact (rfl : _ = 28) | exact (rfl : _ = 29) | exact (rfl : _ = 30) | exact (rfl : _ = 31) | exact (rfl : _ = 32) | exact (rfl : _ = 33) | exact (rfl : _ = 34) | exact (rfl : _ = 35) | exact (rfl : _ = 36) | exact (rfl : _ = 37) | exact (rfl : _ = 38) | exact (rfl : _ = 39)) ?_) | (refine call_new (c_toStringS uses (by omega)) rfl (by first | exact (rfl : _ = 0) | exact (rfl : _ = 1) | exact (rfl : _ = 2) | exact (rfl : _ = 3) | exact (rfl : _ = 4) | exact (rfl : _ = 5) | exact (rfl : _ = 6) | exact (rfl : _ = 7) | exact (rfl : _ = 8) | exact (rfl : _ = 9) | exact (rfl : _ = 10) | exact (rfl : _ = 11) | exact (rfl : _ = 12) | exact (rfl : _ = 13) | exact (rfl : _ = 14) | exact (rfl : _ = 15) | exact (rfl : _ = 16) | exact (rfl : _ = 17) | exact (rfl : _ = 18) | exact (rfl : _ = 19) | exact (rfl : _ = 20) | exact (rfl : _ = 21) | exact (rfl : _ = 22) | exact (rfl : _ = 23) | exact (rfl : _ = 24) | exact (rfl : _ = 25) | exact (rfl : _ = 26) | exact (rfl : _ = 27) | exact (rfl : _ = 28) | exact (rfl : _ = 29) | exact (rfl : _ = 30) | exact (rfl : _ = 31) | exact (rfl : _ = 32) | exact (rfl : _ = 33) | exact (rfl : _ = 34) | exact (rfl : _ = 35) | exact (rfl : _ = 36) | exact (rfl : _ = 37) | exact (rfl : _ = 38) | exact (rfl : _ = 39)) ?_) | (refine call_mk_look (c_spec_CacheAfter_bad1 a uses cap pol hv) rfl flat_none (by first | exact (rfl : _ = 0) | exact (rfl : _ = 1) | exact (rfl : _ = 2) | exact (rfl : _ = 3) | exact (rfl : _ = 4) | exact (rfl : _ = 5) | exact (rfl : _ = 6) | exact (rfl : _ = 7) | exact (rfl : _ = 8) | exact (rfl : _ = 9) | exact (rfl : _ = 10) | exact (rfl : _ = 11) | exact (rfl : _ = 12) | exact (rfl : _ = 13) | exact (rfl : _ = 14) | exact (rfl : _ = 15) | exact (rfl : _ = 16) | exact (rfl : _ = 17) | exact (rfl : _ = 18) | exact (rfl : _ = 19) | exact (rfl : _ = 20) | exact (rfl : _ = 21) | exact (rfl : _ = 22) | exact (rfl : _ = 23) | exact (rfl : _ = 24) | exact (rfl : _ = 25) | exact (rfl : _ = 26) | exact (rfl : _ = 27) | exact (rfl : _ = 28) | exact (rfl : _ = 29) | exact (rfl : _ = 30) | exact (rfl : _ = 31) | exact (rfl : _ = 32) | exact (rfl : _ = 33) | exact (rfl : _ = 34) | exact (rfl : _ = 35) | exact (rfl : _ = 36) | exact (rfl : _ = 37) | exact (rfl : _ = 38) | exact (rfl : _ = 39)) ?_) | (refine call_mk_look (c_impl_CacheAfter_bad1 a uses cap pol hv) rfl flat_none (by first | exact (rfl : _ = 0) | exact (rfl : _ = 1) | exact (rfl : _ = 2) | exact (rfl : _ = 3) | exact (rfl : _ = 4) | exact (rfl : _ = 5) | exact (rfl : _ = 6) | exact (rfl : _ = 7) | exact (rfl : _ = 8) | exact (rfl : _ = 9) | exact (rfl : _ = 10) | exact (rfl : _ = 11) | exact (rfl : _ = 12) | exact (rfl : _ = 13) | exact (rfl : _ = 14) | exact (rfl : _ = 15) | exact (rfl : _ = 16) | exact (rfl : _ = 17) | exact (rfl : _ = 18) | exact (rfl : _ = 19) | exact (rfl : _ = 20) | exact (rfl : _ = 21) | exact (rfl : _ = 22) | exact (rfl : _ = 23) | exact (rfl : _ = 24) | exact (rfl : _ = 25) | exact (rfl : _ = 26) | exact (rfl : _ = 27) | exact (rfl : _ = 28) | exact (rfl : _ = 29) | exact (rfl : _ = 30) | exact (rfl : _ = 31) | exact (rfl : _ = 32) | exact (rfl : _ = 33) | exact (rfl : _ = 34) | exact (rfl : _ = 35) | exact (rfl : _ = 36) | exact (rfl : _ = 37) | exact (rfl : _ = 38) | exact (rfl : _ = 39)) ?_) | (refine call_look (c_eqMediaS _ _) rfl ?_) | (refine call_look (c_eqStringS _ _) rfl ?_) | (refine call_look (c_eqStringS [] []) rfl ?_) | (refine call_mark 2 rfl (c_markMediaS _ _ (by omega)) rfl ?_) | (refine call_mark 3 rfl (c_markStringS _ _ (by omega)) rfl ?_) | (refine call_pure (c_markStringS_nil _) rfl rfl ?_) | (refine call_pure (c_heldStringS_nil _) rfl rfl ?_))
                | ((with_reducible refine isCallQ ?_); first | (refine callQ_pure (c_szMediaS _ _ (by omega) (by omega)) rfl rfl ?_) | (refine callQ_pure (c_szStringS _ _ (by omega) (by omega)) rfl rfl ?_) | (refine callQ_look (c_eqMediaS _ _) rfl ?_) | (refine callQ_look (c_eqStringS _ _) rfl ?_) | (refine callQ_look (c_eqStringS [] []) rfl ?_) | (refine callQ_pure (c_markStringS_nil _) rfl rfl ?_) | (refine callQ_pure (c_heldStringS_nil _) rfl rfl ?_))
                | (refine SameV.mk ?_)
                | (refine NeedS.mk (by (try simp only [cutL, List.length_map, List.length_append, List.length_cons, List.length_nil, List.length_take, List.length_drop, List.length_replicate]); omega) ?_)
                | (refine CapS.mk fun c hc hcm => ?_; try simp only [List.length_map, List.length_append, List.length_cons, List.length_nil] at hc)
                | (refine CutS.zn (by (try simp only [cutL, List.length_map, List.length_append, List.length_cons, List.length_nil, List.length_take, List.length_drop, List.length_replicate]); omega) ?_)
                | (refine CutS.nn (by omega) (by (try simp only [cutL, List.length_map, List.length_append, List.length_cons, List.length_nil, List.length_take, List.length_drop, List.length_replicate]); omega) ?_)
                | (refine CutS.at (by (try simp only [cutL, List.length_map, List.length_append, List.length_cons, List.length_nil, List.length_take, List.length_drop, List.length_replicate]); omega) fun i1 i2 hi1 hi2 hj1 hj2 => ?_; try simp only [cutL, List.length_map, List.length_append, List.length_cons, List.length_nil, List.length_take, List.length_drop, List.length_replicate] at hi1 hi2 hj2)
                | (refine SameL.mk ?_)
                | (refine LenS.nil ?_)
                | (refine LenS.one ?_)
                | (refine LenS.map fun hlen => ?_)
                | (refine LenS.int fun hlen => ?_)
                | (refine ArithS.in64 (by omega) ?_)
                | (refine MakeS.nat rfl (by omega) ?_)
                | (refine InS.fill (by omega) ?_)
                | (refine ElemS.fill (by omega) ?_)
                | (refine InS.nat (by omega) ?_)
                | (refine InS.nat (by (try simp only [List.length_map]); omega) ?_)
                | (refine ElemS.the (by assumption) ?_)
                | (refine ElemS.nat (by omega) fun x hx => ?_)
                | (refine ByteS.the (by assumption) ?_)
                | (refine ByteS.nat (by omega) fun x hx => ?_)
                | (refine ElemS.at (by omega) fun i y hi hy => ?_)
                | (refine ByteS.at (by omega) fun i y hi hy => ?_)
                | (refine InS.at (by omega) fun i hi => ?_)
                | (refine AskS.app rfl (by (try simp only [cutL, List.length_take, List.length_drop, List.length_replicate, List.length_map, List.length_append, List.length_cons, List.length_nil]); omega) ?_)
                | (refine draw_k (by decide +kernel) (by decide +kernel) ?_)
                | (refine draw_kb (by decide +kernel) (by decide +kernel) ?_)
                | (refine ret_pick [] rfl rfl rfl ⟨?_, rfl⟩; conv => lhs; whnf)
                | (refine ret_pick [0] rfl rfl rfl ⟨rfl, ?_⟩)
                | (refine he _ _ ?_; clear hn he hr Q') | (refine hn _ ?_; clear hn he hr Q') | (refine hr _ ?_; clear hn he hr Q')))
    all_goals (exfalso; simp [eqL_refl eqTMedia_refl, eqL_refl eqStr_refl] at hb)
  | true =>
    cases hrg : (inB cap 1 1600000 && inB pol 1 3) with
    | false =>
      refine fn_rule Try.func9 rfl (by decide +kernel) rfl (fun w0 F0 lent β0 => ?_)
      repeat' (first
               | (with_reducible refine awp_seq_k (fun Q' hn he hr => ?_))
               | (with_reducible refine awp_block_k (fun Q' hn he hr => ?_))
               | (with_reducible refine awp_cond_k ?_)
               | (with_reducible refine awp_region_k ?_)
               | (with_reducible refine awp_draw_k ?_)
               | (with_reducible refine awp_ret_k ?_)
               | (with_reducible refine awp_exit_k ?_)
               | (with_reducible refine awp_skip_k ?_)
               | (with_reducible refine awp_label_k ?_)
               | (with_reducible refine awp_scope_k ?_)
               | (with_reducible refine awp_loop_k ?_)
               | (with_reducible refine hn _ ?_; clear hn he hr Q')
               | (with_reducible refine hr _ ?_; clear hn he hr Q')
               | (with_reducible refine he _ _ ?_; clear hn he hr Q')
               | (with_reducible refine opsK_go ?_)
               | (with_reducible refine quietK_go ?_)
               | (with_reducible refine opsD_one ?_)
               | (with_reducible refine opsD_end ?_)
               | (with_reducible refine quietD_one ?_)
               | (with_reducible refine quietD_end ?_)
               | ((with_reducible refine isOps ?_); refine opsD_one ?_)
               | ((with_reducible refine isOps ?_); refine opsD_end ?_)
               | ((with_reducible refine isQuiet ?_); refine quietD_one ?_)
               | ((with_reducible refine isQuiet ?_); refine quietD_end ?_)
               | (conv => whnf
                  first
                  | (with_reducible refine opsK_go ?_)
                  | (with_reducible refine quietK_go ?_)
                  | ((first | (with_reducible refine br_t ?_) | (with_reducible refine br_f ?_) | (with_reducible refine br_c ?_)); repeat' (first | (with_reducible refine Br.tt ?_) | (with_reducible refine Br.ff ?_) | (with_reducible refine Br.nt ?_) | (with_reducible refine Br.nf ?_) | (with_reducible refine Br.condt ?_) | (with_reducible refine Br.condf ?_) | (with_reducible refine Br.ncondt ?_) | (with_reducible refine Br.ncondf ?_) | ((first | (with_reducible refine Br.lt (fun hb => ?_) (fun hb => ?_)) | (with_reducible refine Br.le (fun hb => ?_) (fun hb => ?_)) | (with_reducible refine Br.eqn (fun hb => ?_) (fun hb => ?_)) | (with_reducible refine Br.nlt (fun hb => ?_) (fun hb => ?_)) | (with_reducible refine Br.nle (fun hb => ?_) (fun hb => ?_)) | (with_reducible refine Br.neqn (fun hb => ?_) (fun hb => ?_)) | (with_reducible refine Br.dec (fun hb => ?_) (fun hb => ?_)) | (with_reducible refine Br.beq (fun hb => ?_) (fun hb => ?_)) | (with_reducible refine Br.ndec (fun hb => ?_) (fun hb => ?_)) | (with_reducible refine Br.nbeq (fun hb => ?_) (fun hb => ?_)) | (with_reducible refine Br.nsym (fun hb => ?_) (fun hb => ?_)) | (with_reducible refine Br.sym (fun hb => ?_) (fun hb => ?_))) <;> (try (first | exact absurd rfl hb | exact absurd (hb.symm.trans hv) (by decide) | exact absurd (hb.symm.trans hv2) (by decide) | exact absurd (hb.symm.trans hv3) (by decide) | exact absurd hb (List.cons_ne_nil _ _) | exact absurd hb (by decide) | (exfalso; omega))))))
                  | ((with_reducible refine isCall ?_); first | (refine call_pure (c_szMediaS _ _ (by omega) (by omega)) rfl rfl ?_) | (refine call_pure (c_szStringS _ _ (by omega) (by omega)) rfl rfl ?_) | (refine call_new (c_toMediaS a (by omega)) rfl (by first | exact (rfl : _ = 0) | exact (rfl : _ = 1) | exact (rfl : _ = 2) | exact (rfl : _ = 3) | exact (rfl : _ = 4) | exact (rfl : _ = 5) | exact (rfl : _ = 6) | exact (rfl : _ = 7) | exact (rfl : _ = 8) | exact (rfl : _ = 9) | exact (rfl : _ = 10) | exact (rfl : _ = 11) | exact (rfl : _ = 12) | exact (rfl : _ = 13) | exact (rfl : _ = 14) | exact (rfl : _ = 15) | exact (rfl : _ = 16) | exact (rfl : _ = 17) | exact (rfl : _ = 18) | exact (rfl : _ = 19) | exact (rfl : _ = 20) | exact (rfl : _ = 21) | exact (rfl : _ = 22) | exact (rfl : _ = 23) | exact (rfl : _ = 24) | exact (rfl : _ = 25) | exact (rfl : _ = 26) | exact (rfl : _ = 27) | exact (rfl : _ = 28) | exact (rfl : _ = 29) | exact (rfl : _ = 30) | exact (rfl : _ = 31) | exact (rfl : _ = 32) | exact (rfl : _ = 33) | exact (rfl : _ = 34) | exact (rfl : _ = 35) | exact (rfl : _ = 36) | exact (rfl : _ = 37) | exact (rfl : _ = 38) | exact (rfl : _ = 39)) ?_) | (refine call_new (c_toStringS uses (by omega)) rfl (by first | exact (rfl : _ = 0) | exact (rfl : _ = 1) | exact (rfl : _ = 2) | exact (rfl : _ = 3) | exact (rfl : _ = 4) | exact (rfl : _ = 5) | exact (rfl : _ = 6) | exact (rfl : _ = 7) | exact (rfl : _ = 8) | exact (rfl : _ = 9) | exact (rfl : _ = 10) | exact (rfl : _ = 11) | exact (rfl : _ = 12) | exact (rfl : _ = 13) | exact (rfl : _ = 14) | exact (rfl : _ = 15) | exact (rfl : _ = 16) | exact (rfl : _ = 17) | exact (rfl : _ = 18) | exact (rfl : _ = 19) | exact (rfl : _ = 20) | exact (rfl : _ = 21) | exact (rfl : _ = 22) | exact (rfl : _ = 23) | exact (rfl : _ = 24) | exact (rfl : _ = 25) | exact (rfl : _ = 26) | exact (rfl : _ = 27) | exact (rfl : _ = 28) | exact (rfl : _ = 29) | exact (rfl : _ = 30) | exact (rfl : _ = 31) | exact (rfl : _ = 32) | exact (rfl : _ = 33) | exact (rfl : _ = 34) | exact (rfl : _ = 35) | exact (rfl : _ = 36) | exact (rfl : _ = 37) | exact (rfl : _ = 38) | exact (rfl : _ = 39)) ?_) | (refine call_mk_look (c_spec_CacheAfter_bad2 a uses cap pol hv hrg) rfl flat_none (by first | exact (rfl : _ = 0) | exact (rfl : _ = 1) | exact (rfl : _ = 2) | exact (rfl : _ = 3) | exact (rfl : _ = 4) | exact (rfl : _ = 5) | exact (rfl : _ = 6) | exact (rfl : _ = 7) | exact (rfl : _ = 8) | exact (rfl : _ = 9) | exact (rfl : _ = 10) | exact (rfl : _ = 11) | exact (rfl : _ = 12) | exact (rfl : _ = 13) | exact (rfl : _ = 14) | exact (rfl : _ = 15) | exact (rfl : _ = 16) | exact (rfl : _ = 17) | exact (rfl : _ = 18) | exact (rfl : _ = 19) | exact (rfl : _ = 20) | exact (rfl : _ = 21) | exact (rfl : _ = 22) | exact (rfl : _ = 23) | exact (rfl : _ = 24) | exact (rfl : _ = 25) | exact (rfl : _ = 26) | exact (rfl : _ = 27) | exact (rfl : _ = 28) | exact (rfl : _ = 29) | exact (rfl : _ = 30) | exact (rfl : _ = 31) | exact (rfl : _ = 32) | exact (rfl : _ = 33) | exact (rfl : _ = 34) | exact (rfl : _ = 35) | exact (rfl : _ = 36) | exact (rfl : _ = 37) | exact (rfl : _ = 38) | exact (rfl : _ = 39)) ?_) | (refine call_mk_look (c_impl_CacheAfter_bad2 a uses cap pol hv hrg) rfl flat_none (by first | exact (rfl : _ = 0) | exact (rfl : _ = 1) | exact (rfl : _ = 2) | exact (rfl : _ = 3) | exact (rfl : _ = 4) | exact (rfl : _ = 5) | exact (rfl : _ = 6) | exact (rfl : _ = 7) | exact (rfl : _ = 8) | exact (rfl : _ = 9) | exact (rfl : _ = 10) | exact (rfl : _ = 11) | exact (rfl : _ = 12) | exact (rfl : _ = 13) | exact (rfl : _ = 14) | exact (rfl : _ = 15) | exact (rfl : _ = 16) | exact (rfl : _ = 17) | exact (rfl : _ = 18) | exact (rfl : _ = 19) | exact (rfl : _ = 20) | exact (rfl : _ = 21) | exact (rfl : _ = 22) | exact (rfl : _ = 23) | exact (rfl : _ = 24) | exact (rfl : _ = 25) | exact (rfl : _ = 26) | exact (rfl : _ = 27) | exact (rfl : _ = 28) | exact (rfl : _ = 29) | exact (rfl : _ = 30) | exact (rfl : _ = 31) | exact (rfl : _ = 32) | exact (rfl : _ = 33) | exact (rfl : _ = 34) | exact (rfl : _ = 35) | exact (rfl : _ = 36) | exact (rfl : _ = 37) | exact (rfl : _ = 38) | exact (rfl : _ = 39)) ?_) | (refine call_look (c_eqMediaS _ _) rfl ?_) | (refine call_look (c_eqStringS _ _) rfl ?_) | (refine call_look (c_eqStringS [] []) rfl ?_) | (refine call_mark 2 rfl (c_markMediaS _ _ (by omega)) rfl ?_) | (refine call_mark 3 rfl (c_markStringS _ _ (by omega)) rfl ?_) | (refine call_pure (c_markStringS_nil _) rfl rfl ?_) | (refine call_pure (c_heldStringS_nil _) rfl rfl ?_))
                  | ((with_reducible refine isCallQ ?_); first | (refine callQ_pure (c_szMediaS _ _ (by omega) (by omega)) rfl rfl ?_) | (refine callQ_pure (c_szStringS _ _ (by omega) (by omega)) rfl rfl ?_) | (refine callQ_look (c_eqMediaS _ _) rfl ?_) | (refine callQ_look (c_eqStringS _ _) rfl ?_) | (refine callQ_look (c_eqStringS [] []) rfl ?_) | (refine callQ_pure (c_markStringS_nil _) rfl rfl ?_) | (refine callQ_pure (c_heldStringS_nil _) rfl rfl ?_))
                  | (refine SameV.mk ?_)
                  | (refine NeedS.mk (by (try simp only [cutL, List.length_map, List.length_append, List.length_cons, List.length_nil, List.length_take, List.length_drop, List.length_replicate]); omega) ?_)
                  | (refine CapS.mk fun c hc hcm => ?_; try simp only [List.length_map, List.length_append, List.length_cons, List.length_nil] at hc)
                  | (refine CutS.zn (by (try simp only [cutL, List.length_map, List.length_append, List.length_cons, List.length_nil, List.length_take, List.length_drop, List.length_replicate]); omega) ?_)
                  | (refine CutS.nn (by omega) (by (try simp only [cutL, List.length_map, List.length_append, List.length_cons, List.length_nil, List.length_take, List.length_drop, List.length_replicate]); omega) ?_)
                  | (refine CutS.at (by (try simp only [cutL, List.length_map, List.length_append, List.length_cons, List.length_nil, List.length_take, List.length_drop, List.length_replicate]); omega) fun i1 i2 hi1 hi2 hj1 hj2 => ?_; try simp only [cutL, List.length_map, List.length_append, List.length_cons, List.length_nil, List.length_take, List.length_drop, List.length_replicate] at hi1 hi2 hj2)
                  | (refine SameL.mk ?_)
                  | (refine LenS.nil ?_)
                  | (refine LenS.one ?_)
                  | (refine LenS.map fun hlen => ?_)
                  | (refine LenS.int fun hlen => ?_)
                  | (refine ArithS.in64 (by omega) ?_)
                  | (refine MakeS.nat rfl (by omega) ?_)
                  | (refine InS.fill (by omega) ?_)
                  | (refine ElemS.fill (by omega) ?_)
                  | (refine InS.nat (by omega) ?_)
                  | (refine InS.nat (by (try simp only [List.length_map]); omega) ?_)
                  | (refine ElemS.the (by assumption) ?_)
                  | (refine ElemS.nat (by omega) fun x hx => ?_)
                  | (refine ByteS.the (by assumption) ?_)
                  | (refine ByteS.nat (by omega) fun x hx => ?_)
                  | (refine ElemS.at (by omega) fun i y hi hy => ?_)
                  | (refine ByteS.at (by omega) fun i y hi hy => ?_)
                  | (refine InS.at (by omega) fun i hi => ?_)
                  | (refine AskS.app rfl (by (try simp only [cutL, List.length_take, List.length_drop, List.length_replicate, List.length_map, List.length_append, List.length_cons, List.length_nil]); omega) ?_)
                  | (refine draw_k (by decide +kernel) (by decide +kernel) ?_)
                  | (refine draw_kb (by decide +kernel) (by decide +kernel) ?_)
                  | (refine ret_pick [] rfl rfl rfl ⟨?_, rfl⟩; conv => lhs; whnf)
                  | (refine ret_pick [0] rfl rfl rfl ⟨rfl, ?_⟩)
                  | (refine he _ _ ?_; clear hn he hr Q') | (refine hn _ ?_; clear hn he hr Q') | (refine hr _ ?_; clear hn he hr Q')))
      all_goals (exfalso; simp [eqL_refl eqTMedia_refl, eqL_refl eqStr_refl] at hb)
    | true =>
      have hv2 : inB cap 1 1600000 = true := by rw [Bool.and_eq_true] at hrg; exact hrg.1
      have hv3 : inB pol 1 3 = true := by rw [Bool.and_eq_true] at hrg; exact hrg.2
      by_cases hu : usesErr a uses = 0
      · have hlu := (usesErr_ok hv hu).2
        have hto := useTo_ok (cap := cap) (pol := pol) (usesErr_ok hv hu).1 uses.length
        refine fn_rule Try.func9 rfl (by decide +kernel) rfl (fun w0 F0 lent β0 => ?_)
        repeat' (first
                 | (with_reducible refine awp_seq_k (fun Q' hn he hr => ?_))
                 | (with_reducible refine awp_block_k (fun Q' hn he hr => ?_))
                 | (with_reducible refine awp_cond_k ?_)
                 | (with_reducible refine awp_region_k ?_)
                 | (with_reducible refine awp_draw_k ?_)
                 | (with_reducible refine awp_ret_k ?_)
                 | (with_reducible refine awp_exit_k ?_)
                 | (with_reducible refine awp_skip_k ?_)
                 | (with_reducible refine awp_label_k ?_)
                 | (with_reducible refine awp_scope_k ?_)
                 | (with_reducible refine awp_loop_k ?_)
                 | (with_reducible refine hn _ ?_; clear hn he hr Q')
                 | (with_reducible refine hr _ ?_; clear hn he hr Q')
                 | (with_reducible refine he _ _ ?_; clear hn he hr Q')
                 | (with_reducible refine opsK_go ?_)
                 | (with_reducible refine quietK_go ?_)
                 | (with_reducible refine opsD_one ?_)
                 | (with_reducible refine opsD_end ?_)
                 | (with_reducible refine quietD_one ?_)
                 | (with_reducible refine quietD_end ?_)
                 | ((with_reducible refine isOps ?_); refine opsD_one ?_)
                 | ((with_reducible refine isOps ?_); refine opsD_end ?_)
                 | ((with_reducible refine isQuiet ?_); refine quietD_one ?_)
                 | ((with_reducible refine isQuiet ?_); refine quietD_end ?_)
                 | (conv => whnf
                    first
                    | (with_reducible refine opsK_go ?_)
                    | (with_reducible refine quietK_go ?_)
                    | ((first | (with_reducible refine br_t ?_) | (with_reducible refine br_f ?_) | (with_reducible refine br_c ?_)); repeat' (first | (with_reducible refine Br.tt ?_) | (with_reducible refine Br.ff ?_) | (with_reducible refine Br.nt ?_) | (with_reducible refine Br.nf ?_) | (with_reducible refine Br.condt ?_) | (with_reducible refine Br.condf ?_) | (with_reducible refine Br.ncondt ?_) | (with_reducible refine Br.ncondf ?_) | ((first | (with_reducible refine Br.lt (fun hb => ?_) (fun hb => ?_)) | (with_reducible refine Br.le (fun hb => ?_) (fun hb => ?_)) | (with_reducible refine Br.eqn (fun hb => ?_) (fun hb => ?_)) | (with_reducible refine Br.nlt (fun hb => ?_) (fun hb => ?_)) | (with_reducible refine Br.nle (fun hb => ?_) (fun hb => ?_)) | (with_reducible refine Br.neqn (fun hb => ?_) (fun hb => ?_)) | (with_reducible refine Br.dec (fun hb => ?_) (fun hb => ?_)) | (with_reducible refine Br.beq (fun hb => ?_) (fun hb => ?_)) | (with_reducible refine Br.ndec (fun hb => ?_) (fun hb => ?_)) | (with_reducible refine Br.nbeq (fun hb => ?_) (fun hb => ?_)) | (with_reducible refine Br.nsym (fun hb => ?_) (fun hb => ?_)) | (with_reducible refine Br.sym (fun hb => ?_) (fun hb => ?_))) <;> (try (first | exact absurd rfl hb | exact absurd (hb.symm.trans hv) (by decide) | exact absurd (hb.symm.trans hv2) (by decide) | exact absurd (hb.symm.trans hv3) (by decide) | exact absurd hb (List.cons_ne_nil _ _) | exact absurd hb (by decide) | (exfalso; omega))))))
                    | ((with_reducible refine isCall ?_); first | (refine call_pure (c_szMediaS _ _ (by omega) (by omega)) rfl rfl ?_) | (refine call_pure (c_szStringS _ _ (by omega) (by omega)) rfl rfl ?_) | (refine call_new (c_toMediaS a (by omega)) rfl (by first | exact (rfl : _ = 0) | exact (rfl : _ = 1) | exact (rfl : _ = 2) | exact (rfl : _ = 3) | exact (rfl : _ = 4) | exact (rfl : _ = 5) | exact (rfl : _ = 6) | exact (rfl : _ = 7) | exact (rfl : _ = 8) | exact (rfl : _ = 9) | exact (rfl : _ = 10) | exact (rfl : _ = 11) | exact (rfl : _ = 12) | exact (rfl : _ = 13) | exact (rfl : _ = 14) | exact (rfl : _ = 15) | exact (rfl : _ = 16) | exact (rfl : _ = 17) | exact (rfl : _ = 18) | exact (rfl : _ = 19) | exact (rfl : _ = 20) | exact (rfl : _ = 21) | exact (rfl : _ = 22) | exact (rfl : _ = 23) | exact (rfl : _ = 24) | exact (rfl : _ = 25) | exact (rfl : _ = 26) | exact (rfl : _ = 27) | exact (rfl : _ = 28) | exact (rfl : _ = 29) | exact (rfl : _ = 30) | exact (rfl : _ = 31) | exact (rfl : _ = 32) | exact (rfl : _ = 33) | exact (rfl : _ = 34) | exact (rfl : _ = 35) | exact (rfl : _ = 36) | exact (rfl : _ = 37) | exact (rfl : _ = 38) | exact (rfl : _ = 39)) ?_) | (refine call_new (c_toStringS uses (by omega)) rfl (by first | exact (rfl : _ = 0) | exact (rfl : _ = 1) | exact (rfl : _ = 2) | exact (rfl : _ = 3) | exact (rfl : _ = 4) | exact (rfl : _ = 5) | exact (rfl : _ = 6) | exact (rfl : _ = 7) | exact (rfl : _ = 8) | exact (rfl : _ = 9) | exact (rfl : _ = 10) | exact (rfl : _ = 11) | exact (rfl : _ = 12) | exact (rfl : _ = 13) | exact (rfl : _ = 14) | exact (rfl : _ = 15) | exact (rfl : _ = 16) | exact (rfl : _ = 17) | exact (rfl : _ = 18) | exact (rfl : _ = 19) | exact (rfl : _ = 20) | exact (rfl : _ = 21) | exact (rfl : _ = 22) | exact (rfl : _ = 23) | exact (rfl : _ = 24) | exact (rfl : _ = 25) | exact (rfl : _ = 26) | exact (rfl : _ = 27) | exact (rfl : _ = 28) | exact (rfl : _ = 29) | exact (rfl : _ = 30) | exact (rfl : _ = 31) | exact (rfl : _ = 32) | exact (rfl : _ = 33) | exact (rfl : _ = 34) | exact (rfl : _ = 35) | exact (rfl : _ = 36) | exact (rfl : _ = 37) | exact (rfl : _ = 38) | exact (rfl : _ = 39)) ?_) | (refine call_mk_look (c_spec_CacheAfter_ok a uses cap pol hv hv2 hv3 hu) rfl (flat_one (FlatO.map fun _ => rfl)) (by first | exact (rfl : _ = 0) | exact (rfl : _ = 1) | exact (rfl : _ = 2) | exact (rfl : _ = 3) | exact (rfl : _ = 4) | exact (rfl : _ = 5) | exact (rfl : _ = 6) | exact (rfl : _ = 7) | exact (rfl : _ = 8) | exact (rfl : _ = 9) | exact (rfl : _ = 10) | exact (rfl : _ = 11) | exact (rfl : _ = 12) | exact (rfl : _ = 13) | exact (rfl : _ = 14) | exact (rfl : _ = 15) | exact (rfl : _ = 16) | exact (rfl : _ = 17) | exact (rfl : _ = 18) | exact (rfl : _ = 19) | exact (rfl : _ = 20) | exact (rfl : _ = 21) | exact (rfl : _ = 22) | exact (rfl : _ = 23) | exact (rfl : _ = 24) | exact (rfl : _ = 25) | exact (rfl : _ = 26) | exact (rfl : _ = 27) | exact (rfl : _ = 28) | exact (rfl : _ = 29) | exact (rfl : _ = 30) | exact (rfl : _ = 31) | exact (rfl : _ = 32) | exact (rfl : _ = 33) | exact (rfl : _ = 34) | exact (rfl : _ = 35) | exact (rfl : _ = 36) | exact (rfl : _ = 37) | exact (rfl : _ = 38) | exact (rfl : _ = 39)) ?_) | (refine call_mk_look (c_impl_CacheAfter_ok a uses cap pol hv hv2 hv3 hu) rfl (flat_one (FlatO.map fun _ => rfl)) (by first | exact (rfl : _ = 0) | exact (rfl : _ = 1) | exact (rfl : _ = 2) | exact (rfl : _ = 3) | exact (rfl : _ = 4) | exact (rfl : _ = 5) | exact (rfl : _ = 6) | exact (rfl : _ = 7) | exact (rfl : _ = 8) | exact (rfl : _ = 9) | exact (rfl : _ = 10) | exact (rfl : _ = 11) | exact (rfl : _ = 12) | exact (rfl : _ = 13) | exact (rfl : _ = 14) | exact (rfl : _ = 15) | exact (rfl : _ = 16) | exact (rfl : _ = 17) | exact (rfl : _ = 18) | exact (rfl : _ = 19) | exact (rfl : _ = 20) | exact (rfl : _ = 21) | exact (rfl : _ = 22) | exact (rfl : _ = 23) | exact (rfl : _ = 24) | exact (rfl : _ = 25) | exact (rfl : _ = 26) | exact (rfl : _ = 27) | exact (rfl : _ = 28) | exact (rfl : _ = 29) | exact (rfl : _ = 30) | exact (rfl : _ = 31) | exact (rfl : _ = 32) | exact (rfl : _ = 33) | exact (rfl : _ = 34) | exact (rfl : _ = 35) | exact (rfl : _ = 36) | exact (rfl : _ = 37) | exact (rfl : _ = 38) | exact (rfl : _ = 39)) ?_) | (refine call_look (c_eqMediaS _ _) rfl ?_) | (refine call_look (c_eqStringS _ _) rfl ?_) | (refine call_look (c_eqStringS [] []) rfl ?_) | (refine call_mark 3 rfl (c_markMediaS _ _ (by omega)) rfl ?_) | (refine call_mark 4 rfl (c_markStringS _ _ (by omega)) rfl ?_) | (refine call_mark 5 rfl (c_markStringS _ _ (by omega)) rfl ?_) | (refine call_look (c_heldStringS _ _ (by omega)) rfl ?_))
                    | ((with_reducible refine isCallQ ?_); first | (refine callQ_pure (c_szMediaS _ _ (by omega) (by omega)) rfl rfl ?_) | (refine callQ_pure (c_szStringS _ _ (by omega) (by omega)) rfl rfl ?_) | (refine callQ_look (c_eqMediaS _ _) rfl ?_) | (refine callQ_look (c_eqStringS _ _) rfl ?_) | (refine callQ_look (c_eqStringS [] []) rfl ?_) | (refine callQ_look (c_heldStringS _ _ (by omega)) rfl ?_))
                    | (refine SameV.mk ?_)
                    | (refine NeedS.mk (by (try simp only [cutL, List.length_map, List.length_append, List.length_cons, List.length_nil, List.length_take, List.length_drop, List.length_replicate]); omega) ?_)
                    | (refine CapS.mk fun c hc hcm => ?_; try simp only [List.length_map, List.length_append, List.length_cons, List.length_nil] at hc)
                    | (refine CutS.zn (by (try simp only [cutL, List.length_map, List.length_append, List.length_cons, List.length_nil, List.length_take, List.length_drop, List.length_replicate]); omega) ?_)
                    | (refine CutS.nn (by omega) (by (try simp only [cutL, List.length_map, List.length_append, List.length_cons, List.length_nil, List.length_take, List.length_drop, List.length_replicate]); omega) ?_)
                    | (refine CutS.at (by (try simp only [cutL, List.length_map, List.length_append, List.length_cons, List.length_nil, List.length_take, List.length_drop, List.length_replicate]); omega) fun i1 i2 hi1 hi2 hj1 hj2 => ?_; try simp only [cutL, List.length_map, List.length_append, List.length_cons, List.length_nil, List.length_take, List.length_drop, List.length_replicate] at hi1 hi2 hj2)
                    | (refine SameL.mk ?_)
                    | (refine LenS.nil ?_)
                    | (refine LenS.one ?_)
                    | (refine LenS.map fun hlen => ?_)
                    | (refine LenS.int fun hlen => ?_)
                    | (refine ArithS.in64 (by omega) ?_)
                    | (refine MakeS.nat rfl (by omega) ?_)
                    | (refine InS.fill (by omega) ?_)
                    | (refine ElemS.fill (by omega) ?_)
                    | (refine InS.nat (by omega) ?_)
                    | (refine InS.nat (by (try simp only [List.length_map]); omega) ?_)
                    | (refine ElemS.the (by assumption) ?_)
                    | (refine ElemS.nat (by omega) fun x hx => ?_)
                    | (refine ByteS.the (by assumption) ?_)
                    | (refine ByteS.nat (by omega) fun x hx => ?_)
                    | (refine ElemS.at (by omega) fun i y hi hy => ?_)
                    | (refine ByteS.at (by omega) fun i y hi hy => ?_)
                    | (refine InS.at (by omega) fun i hi => ?_)
                    | (refine AskS.app rfl (by (try simp only [cutL, List.length_take, List.length_drop, List.length_replicate, List.length_map, List.length_append, List.length_cons, List.length_nil]); omega) ?_)
                    | (refine draw_k (by decide +kernel) (by decide +kernel) ?_)
                    | (refine draw_kb (by decide +kernel) (by decide +kernel) ?_)
                    | (refine ret_pick [] rfl rfl rfl ⟨?_, rfl⟩; conv => lhs; whnf)
                    | (refine ret_pick [0] rfl rfl rfl ⟨rfl, ?_⟩)
                    | (refine he _ _ ?_; clear hn he hr Q') | (refine hn _ ?_; clear hn he hr Q') | (refine hr _ ?_; clear hn he hr Q')))
        all_goals (exfalso; simp [eqL_refl eqTMedia_refl, eqL_refl eqStr_refl] at hb)
      · skip
        refine fn_rule Try.func9 rfl (by decide +kernel) rfl (fun w0 F0 lent β0 => ?_)
        repeat' (first
                 | (with_reducible refine awp_seq_k (fun Q' hn he hr => ?_))
                 | (with_reducible refine awp_block_k (fun Q' hn he hr => ?_))
                 | (with_reducible refine awp_cond_k ?_)
                 | (with_reducible refine awp_region_k ?_)
                 | (with_reducible refine awp_draw_k ?_)
                 | (with_reducible refine awp_ret_k ?_)
                 | (with_reducible refine awp_exit_k ?_)
                 | (with_reducible refine awp_skip_k ?_)
                 | (with_reducible refine awp_label_k ?_)
                 | (with_reducible refine awp_scope_k ?_)
                 | (with_reducible refine awp_loop_k ?_)
                 | (with_reducible refine hn _ ?_; clear hn he hr Q')
                 | (with_reducible refine hr _ ?_; clear hn he hr Q')
                 | (with_reducible refine he _ _ ?_; clear hn he hr Q')
                 | (with_reducible refine opsK_go ?_)
                 | (with_reducible refine quietK_go ?_)
                 | (with_reducible refine opsD_one ?_)
                 | (with_reducible refine opsD_end ?_)
                 | (with_reducible refine quietD_one ?_)
                 | (with_reducible refine quietD_end ?_)
                 | ((with_reducible refine isOps ?_); refine opsD_one ?_)
                 | ((with_reducible refine isOps ?_); refine opsD_end ?_)
                 | ((with_reducible refine isQuiet ?_); refine quietD_one ?_)
                 | ((with_reducible refine isQuiet ?_); refine quietD_end ?_)
                 | (conv => whnf
                    first
                    | (with_reducible refine opsK_go ?_)
                    | (with_reducible refine quietK_go ?_)
                    | ((first | (with_reducible refine br_t ?_) | (with_reducible refine br_f ?_) | (with_reducible refine br_c ?_)); repeat' (first | (with_reducible refine Br.tt ?_) | (with_reducible refine Br.ff ?_) | (with_reducible refine Br.nt ?_) | (with_reducible refine Br.nf ?_) | (with_reducible refine Br.condt ?_) | (with_reducible refine Br.condf ?_) | (with_reducible refine Br.ncondt ?_) | (with_reducible refine Br.ncondf ?_) | ((first | (with_reducible refine Br.lt (fun hb => ?_) (fun hb => ?_)) | (with_reducible refine Br.le (fun hb => ?_) (fun hb => ?_)) | (with_reducible refine Br.eqn (fun hb => ?_) (fun hb => ?_)) | (with_reducible refine Br.nlt (fun hb => ?_) (fun hb => ?_)) | (with_reducible refine Br.nle (fun hb => ?_) (fun hb => ?_)) | (with_reducible refine Br.neqn (fun hb => ?_) (fun hb => ?_)) | (with_reducible refine Br.dec (fun hb => ?_) (fun hb => ?_)) | (with_reducible refine Br.beq (fun hb => ?_) (fun hb => ?_)) | (with_reducible refine Br.ndec (fun hb => ?_) (fun hb => ?_)) | (with_reducible refine Br.nbeq (fun hb => ?_) (fun hb => ?_)) | (with_reducible refine Br.nsym (fun hb => ?_) (fun hb => ?_)) | (with_reducible refine Br.sym (fun hb => ?_) (fun hb => ?_))) <;> (try (first | exact absurd rfl hb | exact absurd (hb.symm.trans hv) (by decide) | exact absurd (hb.symm.trans hv2) (by decide) | exact absurd (hb.symm.trans hv3) (by decide) | exact absurd hb (List.cons_ne_nil _ _) | exact absurd hb (by decide) | (exfalso; omega))))))
                    | ((with_reducible refine isCall ?_); first | (refine call_pure (c_szMediaS _ _ (by omega) (by omega)) rfl rfl ?_) | (refine call_pure (c_szStringS _ _ (by omega) (by omega)) rfl rfl ?_) | (refine call_new (c_toMediaS a (by omega)) rfl (by first | exact (rfl : _ = 0) | exact (rfl : _ = 1) | exact (rfl : _ = 2) | exact (rfl : _ = 3) | exact (rfl : _ = 4) | exact (rfl : _ = 5) | exact (rfl : _ = 6) | exact (rfl : _ = 7) | exact (rfl : _ = 8) | exact (rfl : _ = 9) | exact (rfl : _ = 10) | exact (rfl : _ = 11) | exact (rfl : _ = 12) | exact (rfl : _ = 13) | exact (rfl : _ = 14) | exact (rfl : _ = 15) | exact (rfl : _ = 16) | exact (rfl : _ = 17) | exact (rfl : _ = 18) | exact (rfl : _ = 19) | exact (rfl : _ = 20) | exact (rfl : _ = 21) | exact (rfl : _ = 22) | exact (rfl : _ = 23) | exact (rfl : _ = 24) | exact (rfl : _ = 25) | exact (rfl : _ = 26) | exact (rfl : _ = 27) | exact (rfl : _ = 28) | exact (rfl : _ = 29) | exact (rfl : _ = 30) | exact (rfl : _ = 31) | exact (rfl : _ = 32) | exact (rfl : _ = 33) | exact (rfl : _ = 34) | exact (rfl : _ = 35) | exact (rfl : _ = 36) | exact (rfl : _ = 37) | exact (rfl : _ = 38) | exact (rfl : _ = 39)) ?_) | (refine call_new (c_toStringS uses (by omega)) rfl (by first | exact (rfl : _ = 0) | exact (rfl : _ = 1) | exact (rfl : _ = 2) | exact (rfl : _ = 3) | exact (rfl : _ = 4) | exact (rfl : _ = 5) | exact (rfl : _ = 6) | exact (rfl : _ = 7) | exact (rfl : _ = 8) | exact (rfl : _ = 9) | exact (rfl : _ = 10) | exact (rfl : _ = 11) | exact (rfl : _ = 12) | exact (rfl : _ = 13) | exact (rfl : _ = 14) | exact (rfl : _ = 15) | exact (rfl : _ = 16) | exact (rfl : _ = 17) | exact (rfl : _ = 18) | exact (rfl : _ = 19) | exact (rfl : _ = 20) | exact (rfl : _ = 21) | exact (rfl : _ = 22) | exact (rfl : _ = 23) | exact (rfl : _ = 24) | exact (rfl : _ = 25) | exact (rfl : _ = 26) | exact (rfl : _ = 27) | exact (rfl : _ = 28) | exact (rfl : _ = 29) | exact (rfl : _ = 30) | exact (rfl : _ = 31) | exact (rfl : _ = 32) | exact (rfl : _ = 33) | exact (rfl : _ = 34) | exact (rfl : _ = 35) | exact (rfl : _ = 36) | exact (rfl : _ = 37) | exact (rfl : _ = 38) | exact (rfl : _ = 39)) ?_) | (refine call_mk_look (c_spec_CacheAfter_bad3 a uses cap pol hv hv2 hv3 hu) rfl flat_none (by first | exact (rfl : _ = 0) | exact (rfl : _ = 1) | exact (rfl : _ = 2) | exact (rfl : _ = 3) | exact (rfl : _ = 4) | exact (rfl : _ = 5) | exact (rfl : _ = 6) | exact (rfl : _ = 7) | exact (rfl : _ = 8) | exact (rfl : _ = 9) | exact (rfl : _ = 10) | exact (rfl : _ = 11) | exact (rfl : _ = 12) | exact (rfl : _ = 13) | exact (rfl : _ = 14) | exact (rfl : _ = 15) | exact (rfl : _ = 16) | exact (rfl : _ = 17) | exact (rfl : _ = 18) | exact (rfl : _ = 19) | exact (rfl : _ = 20) | exact (rfl : _ = 21) | exact (rfl : _ = 22) | exact (rfl : _ = 23) | exact (rfl : _ = 24) | exact (rfl : _ = 25) | exact (rfl : _ = 26) | exact (rfl : _ = 27) | exact (rfl : _ = 28) | exact (rfl : _ = 29) | exact (rfl : _ = 30) | exact (rfl : _ = 31) | exact (rfl : _ = 32) | exact (rfl : _ = 33) | exact (rfl : _ = 34) | exact (rfl : _ = 35) | exact (rfl : _ = 36) | exact (rfl : _ = 37) | exact (rfl : _ = 38) | exact (rfl : _ = 39)) ?_) | (refine call_mk_look (c_impl_CacheAfter_bad3 a uses cap pol hv hv2 hv3 hu) rfl flat_none (by first | exact (rfl : _ = 0) | exact (rfl : _ = 1) | exact (rfl : _ = 2) | exact (rfl : _ = 3) | exact (rfl : _ = 4) | exact (rfl : _ = 5) | exact (rfl : _ = 6) | exact (rfl : _ = 7) | exact (rfl : _ = 8) | exact (rfl : _ = 9) | exact (rfl : _ = 10) | exact (rfl : _ = 11) | exact (rfl : _ = 12) | exact (rfl : _ = 13) | exact (rfl : _ = 14) | exact (rfl : _ = 15) | exact (rfl : _ = 16) | exact (rfl : _ = 17) | exact (rfl : _ = 18) | exact (rfl : _ = 19) | exact (rfl : _ = 20) | exact (rfl : _ = 21) | exact (rfl : _ = 22) | exact (rfl : _ = 23) | exact (rfl : _ = 24) | exact (rfl : _ = 25) | exact (rfl : _ = 26) | exact (rfl : _ = 27) | exact (rfl : _ = 28) | exact (rfl : _ = 29) | exact (rfl : _ = 30) | exact (rfl : _ = 31) | exact (rfl : _ = 32) | exact (rfl : _ = 33) | exact (rfl : _ = 34) | exact (rfl : _ = 35) | exact (rfl : _ = 36) | exact (rfl : _ = 37) | exact (rfl : _ = 38) | exact (rfl : _ = 39)) ?_) | (refine call_look (c_eqMediaS _ _) rfl ?_) | (refine call_look (c_eqStringS _ _) rfl ?_) | (refine call_look (c_eqStringS [] []) rfl ?_) | (refine call_mark 2 rfl (c_markMediaS _ _ (by omega)) rfl ?_) | (refine call_mark 3 rfl (c_markStringS _ _ (by omega)) rfl ?_) | (refine call_pure (c_markStringS_nil _) rfl rfl ?_) | (refine call_pure (c_heldStringS_nil _) rfl rfl ?_))
                    | ((with_reducible refine isCallQ ?_); first | (refine callQ_pure (c_szMediaS _ _ (by omega) (by omega)) rfl rfl ?_) | (refine callQ_pure (c_szStringS _ _ (by omega) (by omega)) rfl rfl ?_) | (refine callQ_look (c_eqMediaS _ _) rfl ?_) | (refine callQ_look (c_eqStringS _ _) rfl ?_) | (refine callQ_look (c_eqStringS [] []) rfl ?_) | (refine callQ_pure (c_markStringS_nil _) rfl rfl ?_) | (refine callQ_pure (c_heldStringS_nil _) rfl rfl ?_))
                    | (refine SameV.mk ?_)
                    | (refine NeedS.mk (by (try simp only [cutL, List.length_map, List.length_append, List.length_cons, List.length_nil, List.length_take, List.length_drop, List.length_replicate]); omega) ?_)
                    | (refine CapS.mk fun c hc hcm => ?_; try simp only [List.length_map, List.length_append, List.length_cons, List.length_nil] at hc)
                    | (refine CutS.zn (by (try simp only [cutL, List.length_map, List.length_append, List.length_cons, List.length_nil, List.length_take, List.length_drop, List.length_replicate]); omega) ?_)
                    | (refine CutS.nn (by omega) (by (try simp only [cutL, List.length_map, List.length_append, List.length_cons, List.length_nil, List.length_take, List.length_drop, List.length_replicate]); omega) ?_)
                    | (refine CutS.at (by (try simp only [cutL, List.length_map, List.length_append, List.length_cons, List.length_nil, List.length_take, List.length_drop, List.length_replicate]); omega) fun i1 i2 hi1 hi2 hj1 hj2 => ?_; try simp only [cutL, List.length_map, List.length_append, List.length_cons, List.length_nil, List.length_take, List.length_drop, List.length_replicate] at hi1 hi2 hj2)
                    | (refine SameL.mk ?_)
                    | (refine LenS.nil ?_)
                    | (refine LenS.one ?_)
                    | (refine LenS.map fun hlen => ?_)
                    | (refine LenS.int fun hlen => ?_)
                    | (refine ArithS.in64 (by omega) ?_)
                    | (refine MakeS.nat rfl (by omega) ?_)
                    | (refine InS.fill (by omega) ?_)
                    | (refine ElemS.fill (by omega) ?_)
                    | (refine InS.nat (by omega) ?_)
                    | (refine InS.nat (by (try simp only [List.length_map]); omega) ?_)
                    | (refine ElemS.the (by assumption) ?_)
                    | (refine ElemS.nat (by omega) fun x hx => ?_)
                    | (refine ByteS.the (by assumption) ?_)
                    | (refine ByteS.nat (by omega) fun x hx => ?_)
                    | (refine ElemS.at (by omega) fun i y hi hy => ?_)
                    | (refine ByteS.at (by omega) fun i y hi hy => ?_)
                    | (refine InS.at (by omega) fun i hi => ?_)
                    | (refine AskS.app rfl (by (try simp only [cutL, List.length_take, List.length_drop, List.length_replicate, List.length_map, List.length_append, List.length_cons, List.length_nil]); omega) ?_)
                    | (refine draw_k (by decide +kernel) (by decide +kernel) ?_)
                    | (refine draw_kb (by decide +kernel) (by decide +kernel) ?_)
                    | (refine ret_pick [] rfl rfl rfl ⟨?_, rfl⟩; conv => lhs; whnf)
                    | (refine ret_pick [0] rfl rfl rfl ⟨rfl, ?_⟩)
                    | (refine he _ _ ?_; clear hn he hr Q') | (refine hn _ ?_; clear hn he hr Q') | (refine hr _ ?_; clear hn he hr Q')))
        all_goals (exfalso; simp [eqL_refl eqTMedia_refl, eqL_refl eqStr_refl] at hb)
end Go.Eng

namespace Go.Proofs.Ythhmhmbdfahkjaa
open Go Go.ChangeShapes Go.WideShapes Go.ChangeAt Go.RowKit Go.Eng

theorem own : ownKnob Try.prog.godebug = none := by kernel_rfl
theorem laidOut : laidOutB Try.prog = true := by kernel_rfl

theorem opens_String : Opens Try.prog 9 (fun l : List UInt8 => [.str l]) (fun l : List UInt8 => l.length ≤ maxLen) := Opens.string Try.underlying9
theorem opens_Int64 : Opens Try.prog 2 (fun n : Int => [.int .i64 n]) (fun n : Int => (Lit.int .i64 n).wf = true) := Opens.int Try.underlying2
theorem opens_Media : Opens Try.prog 73 encMedia okMedia :=
  Opens.turn (fun x : List UInt8 × Int × Unit => TMedia.mk x.1 x.2.1) (fun _ => rfl) (fun x h => ⟨h.1, h.2.1⟩)
    (Opens.struct 2 Try.underlying73 (by kernel_rfl) (fun _ => rfl) (OpensF.cons (k := 1) rfl (fun _ => rfl) opens_String (OpensF.cons (k := 1) rfl (fun _ => rfl) opens_Int64 OpensF.nil)))
theorem opens_MediaS : Opens Try.prog 39 (fun l : List (TMedia) => [.sl 2 (l.map encMedia)]) (fun l : List (TMedia) => ∀ x ∈ l, okMedia x) := Opens.slice 2 Try.underlying39 (by kernel_rfl) (by decide) opens_Media
theorem opens_StringS : Opens Try.prog 32 (fun l : List (List UInt8) => [.sl 1 (l.map encS)]) (fun l : List (List UInt8) => ∀ x ∈ l, (fun l : List UInt8 => l.length ≤ maxLen) x) := Opens.slice 1 Try.underlying32 (by kernel_rfl) (by decide) opens_String

set_option maxRecDepth 100000 in
theorem lifted (os : Os) (started : os.Started) (H : Type) (enc : TypeId × Value → H) :
    ReturnsInHanded {} Try.checked os 9 .any (Rows.fnExactCacheAfterSpec.pre6 enc Try.prog Try.f9 Rows.fnExactCacheAfterRow.domain false) (Rows.fnExactCacheAfterSpec.post enc Try.prog Try.f9 false true false false) := by
  refine returnsInHanded_of_change (C := Try.checked) own started (by kernel_rfl) Try.func9
    (ChangeSpec.witness6 (enc := enc) (C := Try.checked) false ⟨#[], #[.slice none 0 0, .slice none 0 0, .int .i64 0, .int .i64 0], []⟩ 8 (by kernel_rfl) (by kernel_rfl) (by kernel_rfl) (by kernel_rfl)) ?_
  intro W base args ds gs before hval0 hW hcnd _
  have hval : ∀ (j : Nat) t v, Try.f9.params[j]? = some t → args[j]? = some v → Value.okWide Try.prog W .any base t v := hval0
  have hW' := hW
  obtain ⟨p, q, hA0, hV, rfl, hfz, hnd⟩ := hW
  have hA : DataW.TrodAll enc Try.prog W 0 (fun _ => true) true Try.f9.params.toList args.toList ds p := hA0
  rw [Try.params9] at hA hval
  obtain ⟨v0, vs0, d0, ds0, p0, q0, hargs, rfl, rfl, h0, r0⟩ := trodAll_cons hA
  obtain ⟨v1, vs1, d1, ds1, p1, q1, rfl, rfl, rfl, h1, r1⟩ := trodAll_cons r0
  obtain ⟨v2, vs2, d2, ds2, p2, q2, rfl, rfl, rfl, h2, r2⟩ := trodAll_cons r1
  obtain ⟨v3, vs3, d3, ds3, p3, q3, rfl, rfl, rfl, h3, r3⟩ := trodAll_cons r2
  obtain ⟨rfl, rfl, rfl⟩ := trodAll_nil r3
  obtain rfl : args = #[v0, v1, v2, v3] := by cases args; simp_all
  obtain ⟨rfl, rfl⟩ := trodVars_none hV
  have lt0 : ∀ x ∈ p0, x.block < W.heap.size := by obtain ⟨m, hm⟩ := h0; exact DataW.trod_lt m _ _ _ hm
  have lt1 : ∀ x ∈ p1, x.block < W.heap.size := by obtain ⟨m, hm⟩ := h1; exact DataW.trod_lt m _ _ _ hm
  have lt2 : ∀ x ∈ p2, x.block < W.heap.size := by obtain ⟨m, hm⟩ := h2; exact DataW.trod_lt m _ _ _ hm
  have lt3 : ∀ x ∈ p3, x.block < W.heap.size := by obtain ⟨m, hm⟩ := h3; exact DataW.trod_lt m _ _ _ hm
  obtain ⟨a0, len0, cap0, rfl⟩ := okWide_slice Try.underlying39 (hval 0 39 v0 rfl rfl)
  obtain ⟨x0, k0, w0⟩ := opens_MediaS.one (by simp [Value.cells]) h0
  obtain ⟨a1, len1, cap1, rfl⟩ := okWide_slice Try.underlying32 (hval 1 32 v1 rfl rfl)
  obtain ⟨x1, k1, w1⟩ := opens_StringS.one (by simp [Value.cells]) h1
  obtain ⟨s2, rfl, _, _⟩ := open_int Try.underlying2 (hval 2 2 v2 rfl rfl) h2
  obtain ⟨x2, k2, w2⟩ := opens_Int64.one (by simp [Value.cells]) h2
  obtain ⟨s3, rfl, _, _⟩ := open_int Try.underlying2 (hval 3 2 v3 rfl rfl) h3
  obtain ⟨x3, k3, w3⟩ := opens_Int64.one (by simp [Value.cells]) h3
  clear hA0 hval0
  refine ((c_FnExactCacheAfter x0 x1 x2 x3 k0 k1 k2 k3).truth (w := W) (vs := [_, _, _, _]) rfl (fun i hi => ?_)).mono fun e W' ⟨he, bel⟩ => ?_
  · match i, hi with
    | 0, _ => exact w0
    | 1, _ => exact w1
    | 2, _ => exact w2
    | 3, _ => exact w3
  subst he
  exact ⟨_, rfl, _, _, _, [], _, [], hW', trodAll_mk1 (shut_bool Try.underlying4 _), (trodAll_cons_mk (Below.trod laidOut (by kernel_rfl) (of_decide_eq_true (by kernel_rfl)) h0 bel lt0) (trodAll_cons_mk (Below.trod laidOut (by kernel_rfl) (of_decide_eq_true (by kernel_rfl)) h1 bel lt1) (trodAll_cons_mk (Below.trod laidOut (by kernel_rfl) (of_decide_eq_true (by kernel_rfl)) h2 bel lt2) (trodAll_cons_mk (Below.trod laidOut (by kernel_rfl) (of_decide_eq_true (by kernel_rfl)) h3 bel lt3) trodAll_mk0)))), rfl, bel.frame _, fun h => by cases h⟩

theorem over : Rows.fnExactCacheAfterRow.holds Try.pinned (OpenSpec.ofChange Rows.fnExactCacheAfterSpec) :=
  OpenClaim.holds_of_wide 9 Try.f9 rfl rfl rfl rfl rfl rfl rfl ⟨rfl, rfl, rfl, rfl, rfl⟩ rfl rfl rfl rfl rfl (by kernel_rfl) Try.func9 (by kernel_rfl)
    (of_decide_eq_true (by kernel_rfl)) (by unfold Func.isWrapper; first | (rw [if_pos (by decide +kernel)]; kernel_rfl) | (rw [if_neg (by decide +kernel)]; exact ⟨rfl, rfl⟩))
    (fun os started H enc _ => lifted os started H enc)

theorem cacheAfter : Rows.FnExactCacheAfterSaid := over
#print axioms cacheAfter
end Go.Proofs.Ythhmhmbdfahkjaa
