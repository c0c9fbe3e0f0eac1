import Derived.Test.YtikdfigokjhdgaaT5
namespace Go.Eng
open Go Go.RowKit Go.Proofs
set_option maxRecDepth 100000
theorem szAll_len (a : List Blk) : a.length ≤ szAll a := by unfold szAll szTo; omega

theorem eqB_refl (x : Blk) : eqB x x = true := by simp [eqB]
theorem c4 (a b : List Blk) : FnC Try.prog 4 G0 0 [] [.sl 3 (a.map encBlk), .sl 3 (b.map encBlk)] (fun d os => d = .bool true ∧ os = []) := by
  have ha := szAll_len a
  have hbb := szAll_len b
  refine fn_rule Try.func4 rfl (by decide +kernel) rfl (fun w0 F0 lent β0 => ?_)
  repeat' (first
           | (with_reducible refine awp_seq_k (fun Q' hn he hr => ?_))
           | (with_reducible refine awp_block_k (fun Q' hn he hr => ?_))
           | (with_reducible refine awp_cond_k ?_)
           | (with_reducible refine awp_region_k ?_)
           | (with_reducible refine awp_draw_k ?_)
           | (with_reducible refine awp_ret_k ?_)
           | (with_reducible refine awp_exit_k ?_)
           | (with_reducible refine awp_skip_k ?_)
           | (with_reducible refine awp_label_k ?_)
           | (with_reducible refine awp_scope_k ?_)
           | (with_reducible refine awp_loop_k ?_)
           | (with_reducible refine hn _ ?_; clear hn he hr Q')
           | (with_reducible refine hr _ ?_; clear hn he hr Q')
           | (with_reducible refine he _ _ ?_; clear hn he hr Q')
           | (conv => whnf
              first
              | (with_reducible refine gtt ?_) | (with_reducible refine gft ?_) | (with_reducible refine gtf ?_) | (with_reducible refine gff ?_) | (with_reducible refine ct ?_) | (with_reducible refine cf ?_)
              | ((first | (with_reducible refine gsym (fun hb => ?_) (fun hb => ?_)) | (with_reducible refine gsymf (fun hb => ?_) (fun hb => ?_)) | (with_reducible refine csym (fun hb => ?_) (fun hb => ?_))) <;> (try simp only [decide_eq_true_eq, decide_eq_false_iff_not, Int.natCast_inj, Int.not_le, Int.not_lt, Bool.not_eq_true', Bool.not_eq_false'] at hb) <;> (try (exfalso; omega)))
              | (refine LenS.map fun hlen => ?_)
              | (refine call_pure (c12 _ _ (by omega) (by omega)) rfl rfl ?_)
              | (refine call_new (c14 a (by omega)) rfl (by first | exact (rfl : _ = 0) | exact (rfl : _ = 1) | exact (rfl : _ = 2) | exact (rfl : _ = 3) | exact (rfl : _ = 4) | exact (rfl : _ = 5) | exact (rfl : _ = 6) | exact (rfl : _ = 7)) ?_)
              | (refine call_new (c14 b (by omega)) rfl (by first | exact (rfl : _ = 0) | exact (rfl : _ = 1) | exact (rfl : _ = 2) | exact (rfl : _ = 3) | exact (rfl : _ = 4) | exact (rfl : _ = 5) | exact (rfl : _ = 6) | exact (rfl : _ = 7)) ?_)
              | (refine call_look (c13 _ _) rfl ?_)
              | (refine call_look (c15 _ _) rfl ?_)
              | (refine call_look (c16 _ _) rfl ?_)
              | (refine LenS.int fun hlen => ?_)
              | (refine ArithS.in64 (by omega) ?_)
              | (refine MakeS.nat rfl (by omega) ?_)
              | (refine InS.fill (by omega) ?_)
              | (refine ElemS.fill (by omega) ?_)
              | (refine InS.nat (by omega) ?_)
              | (refine ElemS.nat (by omega) fun x hx => ?_)
              | (refine ByteS.nat (by omega) fun x hx => ?_)
              | (refine draw_k (by decide +kernel) (by decide +kernel) ?_)
              | (refine ret_pick [] rfl rfl rfl ⟨?_, rfl⟩; conv => lhs; whnf)
              | (refine he _ _ ?_; clear hn he hr Q') | (refine hn _ ?_; clear hn he hr Q') | (refine hr _ ?_; clear hn he hr Q')))
  · simp at hb
  · rw [eqL_refl eqB_refl] at hb; cases hb
  · rw [eqL_refl eqB_refl] at hb; cases hb
end Go.Eng
