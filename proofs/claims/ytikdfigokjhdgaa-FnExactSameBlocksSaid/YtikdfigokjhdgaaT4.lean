import Derived.Test.YtikdfigokjhdgaaT3
namespace Go.Eng
open Go Go.RowKit Go.Proofs
set_option maxRecDepth 100000

theorem c28 (b : Blk) : FnC Try.prog 28 G0 0 [] [.agg (encBlk b)] (fun d os => d = .agg (encBlk b) ∧ os = []) := by
  refine fn_rule Try.func28 rfl (by decide +kernel) rfl (fun w0 F0 lent β0 => ?_)
  repeat' (first
           | (with_reducible refine awp_seq_k (fun Q' hn he hr => ?_))
           | (with_reducible refine awp_block_k (fun Q' hn he hr => ?_))
           | (with_reducible refine awp_cond_k ?_)
           | (with_reducible refine awp_region_k ?_)
           | (with_reducible refine awp_draw_k ?_)
           | (with_reducible refine awp_ret_k ?_)
           | (with_reducible refine awp_exit_k ?_)
           | (with_reducible refine awp_skip_k ?_)
           | (with_reducible refine awp_label_k ?_)
           | (with_reducible refine awp_scope_k ?_)
           | (with_reducible refine awp_loop_k ?_)
           | (with_reducible refine hn _ ?_; clear hn he hr Q')
           | (with_reducible refine hr _ ?_; clear hn he hr Q')
           | (with_reducible refine he _ _ ?_; clear hn he hr Q')
           | (conv => whnf
              first
              | (with_reducible refine gtt ?_) | (with_reducible refine gft ?_) | (with_reducible refine gtf ?_) | (with_reducible refine gff ?_) | (with_reducible refine ct ?_) | (with_reducible refine cf ?_)
              | ((first | (with_reducible refine gsym (fun hb => ?_) (fun hb => ?_)) | (with_reducible refine gsymf (fun hb => ?_) (fun hb => ?_)) | (with_reducible refine csym (fun hb => ?_) (fun hb => ?_))) <;> (try simp only [decide_eq_true_eq, decide_eq_false_iff_not, Int.natCast_inj, Int.not_le, Int.not_lt, Bool.not_eq_true', Bool.not_eq_false'] at hb) <;> (try (exfalso; omega)))
              | (refine LenS.map fun hlen => ?_)
              | (refine LenS.int fun hlen => ?_)
              | (refine ArithS.in64 (by omega) ?_)
              | (refine MakeS.nat rfl (by omega) ?_)
              | (refine InS.fill (by omega) ?_)
              | (refine ElemS.fill (by omega) ?_)
              | (refine InS.nat (by omega) ?_)
              | (refine ElemS.nat (by omega) fun x hx => ?_)
              | (refine ByteS.nat (by omega) fun x hx => ?_)
              | (refine draw_k (by decide +kernel) (by decide +kernel) ?_)
              | (refine ret_pick [] rfl rfl rfl ⟨?_, rfl⟩; conv => lhs; whnf)
              | (refine he _ _ ?_; clear hn he hr Q') | (refine hn _ ?_; clear hn he hr Q') | (refine hr _ ?_; clear hn he hr Q')))
  all_goals rfl

theorem c36 (a b : Blk) : FnC Try.prog 36 G0 0 [] [.agg (encBlk a), .agg (encBlk b)] (fun d os => d = .bool (a.K == b.K && (a.N == b.N && a.T == b.T)) ∧ os = []) := by
  refine fn_rule Try.func36 rfl (by decide +kernel) rfl (fun w0 F0 lent β0 => ?_)
  repeat' (first
           | (with_reducible refine awp_seq_k (fun Q' hn he hr => ?_))
           | (with_reducible refine awp_block_k (fun Q' hn he hr => ?_))
           | (with_reducible refine awp_cond_k ?_)
           | (with_reducible refine awp_region_k ?_)
           | (with_reducible refine awp_draw_k ?_)
           | (with_reducible refine awp_ret_k ?_)
           | (with_reducible refine awp_exit_k ?_)
           | (with_reducible refine awp_skip_k ?_)
           | (with_reducible refine awp_label_k ?_)
           | (with_reducible refine awp_scope_k ?_)
           | (with_reducible refine awp_loop_k ?_)
           | (with_reducible refine hn _ ?_; clear hn he hr Q')
           | (with_reducible refine hr _ ?_; clear hn he hr Q')
           | (with_reducible refine he _ _ ?_; clear hn he hr Q')
           | (conv => whnf
              first
              | (with_reducible refine gtt ?_) | (with_reducible refine gft ?_) | (with_reducible refine gtf ?_) | (with_reducible refine gff ?_) | (with_reducible refine ct ?_) | (with_reducible refine cf ?_)
              | ((first | (with_reducible refine gsym (fun hb => ?_) (fun hb => ?_)) | (with_reducible refine gsymf (fun hb => ?_) (fun hb => ?_)) | (with_reducible refine csym (fun hb => ?_) (fun hb => ?_))) <;> (try simp only [decide_eq_true_eq, decide_eq_false_iff_not, Int.natCast_inj, Int.not_le, Int.not_lt, Bool.not_eq_true', Bool.not_eq_false'] at hb) <;> (try (exfalso; omega)))
              | (refine LenS.map fun hlen => ?_)
              | (refine LenS.int fun hlen => ?_)
              | (refine ArithS.in64 (by omega) ?_)
              | (refine MakeS.nat rfl (by omega) ?_)
              | (refine InS.fill (by omega) ?_)
              | (refine ElemS.fill (by omega) ?_)
              | (refine InS.nat (by omega) ?_)
              | (refine ElemS.nat (by omega) fun x hx => ?_)
              | (refine ByteS.nat (by omega) fun x hx => ?_)
              | (refine draw_k (by decide +kernel) (by decide +kernel) ?_)
              | (refine ret_pick [] rfl rfl rfl ⟨?_, rfl⟩; conv => lhs; whnf)
              | (refine he _ _ ?_; clear hn he hr Q') | (refine hn _ ?_; clear hn he hr Q') | (refine hr _ ?_; clear hn he hr Q')))
  all_goals simp_all

def zBlk : List D := [.str [], .str [], .str []]
theorem c14 (a : List Blk) (hs : a.length ≤ 1048576) : FnC Try.prog 14 G0 0 [] [.sl 3 (a.map encBlk)] (fun d os => d = .h 0 ∧ os = [.row 49 3 (a.map encBlk)]) := by
  refine fn_rule Try.func14 rfl (by decide +kernel) rfl (fun w0 F0 lent β0 => ?_)
  repeat' (first
           | (with_reducible refine awp_seq_k (fun Q' hn he hr => ?_))
           | (with_reducible refine awp_block_k (fun Q' hn he hr => ?_))
           | (with_reducible refine awp_cond_k ?_)
           | (with_reducible refine awp_region_k ?_)
           | (with_reducible refine awp_draw_k ?_)
           | (with_reducible refine awp_ret_k ?_)
           | (with_reducible refine awp_exit_k ?_)
           | (with_reducible refine awp_skip_k ?_)
           | (with_reducible refine awp_label_k ?_)
           | (with_reducible refine awp_scope_k ?_)
           | (with_reducible refine awp_loop_k ?_)
           | (with_reducible refine hn _ ?_; clear hn he hr Q')
           | (with_reducible refine hr _ ?_; clear hn he hr Q')
           | (with_reducible refine he _ _ ?_; clear hn he hr Q')
           | (conv => whnf
              first
              | (with_reducible refine gtt ?_) | (with_reducible refine gft ?_) | (with_reducible refine gtf ?_) | (with_reducible refine gff ?_) | (with_reducible refine ct ?_) | (with_reducible refine cf ?_)
              | ((first | (with_reducible refine gsym (fun hb => ?_) (fun hb => ?_)) | (with_reducible refine gsymf (fun hb => ?_) (fun hb => ?_)) | (with_reducible refine csym (fun hb => ?_) (fun hb => ?_))) <;> (try simp only [decide_eq_true_eq, decide_eq_false_iff_not, Int.natCast_inj, Int.not_le, Int.not_lt, Bool.not_eq_true', Bool.not_eq_false'] at hb) <;> (try (exfalso; omega)))
              | (refine LenS.map fun hlen => ?_)
              | (refine LenS.int fun hlen => ?_)
              | (refine ArithS.in64 (by omega) ?_)
              | (refine MakeS.nat rfl (by omega) ?_)
              | (refine InS.fill (by omega) ?_)
              | (refine ElemS.fill (by omega) ?_)
              | (refine InS.nat (by omega) ?_)
              | (refine ElemS.nat (by omega) fun x hx => ?_)
              | (refine ByteS.nat (by omega) fun x hx => ?_)
              | (refine draw_k (by decide +kernel) (by decide +kernel) ?_)
              | (refine ret_pick [] rfl rfl rfl ⟨?_, rfl⟩; conv => lhs; whnf)
              | (refine he _ _ ?_; clear hn he hr Q') | (refine hn _ ?_; clear hn he hr Q') | (refine hr _ ?_; clear hn he hr Q')))
  refine loop_env (fun k : Nat => [(0,.sl 3 (a.map encBlk)),(3,.h 0),(4,.int .i64 k)]) (fun k => [.row 49 3 (fill encBlk zBlk a k)]) (fun k => k ≤ a.length) (fun k => a.length - k) 0 (by omega) (by refine weak_to rfl rfl ?_ ?_; rw [fill_zero]; rfl; exact ⟨rfl, rfl, rfl, trivial⟩) (fun k hk Q' hn he hr => ?_)
  repeat' (first
           | (with_reducible refine awp_seq_k (fun Q' hn he hr => ?_))
           | (with_reducible refine awp_block_k (fun Q' hn he hr => ?_))
           | (with_reducible refine awp_cond_k ?_)
           | (with_reducible refine awp_region_k ?_)
           | (with_reducible refine awp_draw_k ?_)
           | (with_reducible refine awp_ret_k ?_)
           | (with_reducible refine awp_exit_k ?_)
           | (with_reducible refine awp_skip_k ?_)
           | (with_reducible refine awp_label_k ?_)
           | (with_reducible refine awp_scope_k ?_)
           | (with_reducible refine awp_loop_k ?_)
           | (with_reducible refine hn _ ?_; clear hn he hr Q')
           | (with_reducible refine hr _ ?_; clear hn he hr Q')
           | (with_reducible refine he _ _ ?_; clear hn he hr Q')
           | (conv => whnf
              first
              | (with_reducible refine gtt ?_) | (with_reducible refine gft ?_) | (with_reducible refine gtf ?_) | (with_reducible refine gff ?_) | (with_reducible refine ct ?_) | (with_reducible refine cf ?_)
              | ((first | (with_reducible refine gsym (fun hb => ?_) (fun hb => ?_)) | (with_reducible refine gsymf (fun hb => ?_) (fun hb => ?_)) | (with_reducible refine csym (fun hb => ?_) (fun hb => ?_))) <;> (try simp only [decide_eq_true_eq, decide_eq_false_iff_not, Int.natCast_inj, Int.not_le, Int.not_lt, Bool.not_eq_true', Bool.not_eq_false'] at hb) <;> (try (exfalso; omega)))
              | (refine LenS.map fun hlen => ?_)
              | (refine call_pure (c28 x) rfl rfl ?_)
              | (refine ret_pick [0] rfl rfl rfl ⟨rfl, ?_⟩)
              | (refine LenS.int fun hlen => ?_)
              | (refine ArithS.in64 (by omega) ?_)
              | (refine MakeS.nat rfl (by omega) ?_)
              | (refine InS.fill (by omega) ?_)
              | (refine ElemS.fill (by omega) ?_)
              | (refine InS.nat (by omega) ?_)
              | (refine ElemS.nat (by omega) fun x hx => ?_)
              | (refine ByteS.nat (by omega) fun x hx => ?_)
              | (refine draw_k (by decide +kernel) (by decide +kernel) ?_)
              | (refine ret_pick [] rfl rfl rfl ⟨?_, rfl⟩; conv => lhs; whnf)
              | (refine he _ _ ?_; clear hn he hr Q') | (refine hn _ ?_; clear hn he hr Q') | (refine hr _ ?_; clear hn he hr Q')))
  · refine ⟨k + 1, by omega, by omega, ?_⟩
    refine weak_to rfl rfl ?_ ⟨rfl, rfl, rfl, trivial⟩
    rw [← fill_set _ _ _ hx]
    rfl
  · have h2 : k = a.length := by omega
    subst h2
    rw [← fill_all encBlk zBlk a]
    rfl
end Go.Eng
