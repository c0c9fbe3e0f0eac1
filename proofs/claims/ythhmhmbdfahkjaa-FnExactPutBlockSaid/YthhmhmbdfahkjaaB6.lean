/-
  slices.Insert of one block, by the library's text.
  No conditions.
-/
import Derived.Test.YthhmhmbdfahkjaaIns1
import Derived.Test.YthhmhmbdfahkjaaP1
namespace Go.Eng
open Go Go.RowKit Go.Proofs
set_option maxRecDepth 100000
set_option maxHeartbeats 4000000 in
theorem c_slicesInsert_Block (L : List (List D)) (c : List D) (i : Nat) (hi : i ≤ L.length) (hLl : L.length ≤ 1048576) : FnC Try.prog 80 G0 0 [.row 59 3 L] [.h 0, .int .i64 i, .sl 3 [c]] (fun d os => d = .h 0 ∧ os = [.row 59 3 (L.take i ++ c :: L.drop i)]) := by
  refine fn_rule Try.func80 rfl (by decide +kernel) rfl (fun w0 F0 lent β0 => ?_)
  repeat' (first
           | (with_reducible refine awp_seq_k (fun Q' hn he hr => ?_))
           | (with_reducible refine awp_block_k (fun Q' hn he hr => ?_))
           | (with_reducible refine awp_cond_k ?_)
           | (with_reducible refine awp_region_k ?_)
           | (with_reducible refine awp_draw_k ?_)
           | (with_reducible refine awp_ret_k ?_)
           | (with_reducible refine awp_exit_k ?_)
           | (with_reducible refine awp_skip_k ?_)
           | (with_reducible refine awp_label_k ?_)
           | (with_reducible refine awp_scope_k ?_)
           | (with_reducible refine awp_loop_k ?_)
           | (with_reducible refine hn _ ?_; clear hn he hr Q')
           | (with_reducible refine hr _ ?_; clear hn he hr Q')
           | (with_reducible refine he _ _ ?_; clear hn he hr Q')
           | (conv => whnf
              first
              | ((first | (with_reducible refine br_t ?_) | (with_reducible refine br_f ?_) | (with_reducible refine br_c ?_)); repeat' (first | (with_reducible refine Br.tt ?_) | (with_reducible refine Br.ff ?_) | (with_reducible refine Br.nt ?_) | (with_reducible refine Br.nf ?_) | (with_reducible refine Br.condt ?_) | (with_reducible refine Br.condf ?_) | (with_reducible refine Br.ncondt ?_) | (with_reducible refine Br.ncondf ?_) | ((first | (with_reducible refine Br.lt (fun hb => ?_) (fun hb => ?_)) | (with_reducible refine Br.le (fun hb => ?_) (fun hb => ?_)) | (with_reducible refine Br.eqn (fun hb => ?_) (fun hb => ?_)) | (with_reducible refine Br.nlt (fun hb => ?_) (fun hb => ?_)) | (with_reducible refine Br.nle (fun hb => ?_) (fun hb => ?_)) | (with_reducible refine Br.neqn (fun hb => ?_) (fun hb => ?_)) | (with_reducible refine Br.dec (fun hb => ?_) (fun hb => ?_)) | (with_reducible refine Br.beq (fun hb => ?_) (fun hb => ?_)) | (with_reducible refine Br.ndec (fun hb => ?_) (fun hb => ?_)) | (with_reducible refine Br.nbeq (fun hb => ?_) (fun hb => ?_)) | (with_reducible refine Br.nsym (fun hb => ?_) (fun hb => ?_)) | (with_reducible refine Br.sym (fun hb => ?_) (fun hb => ?_))) <;> (try (first | exact absurd rfl hb | exact absurd (hb.symm.trans hv) (by decide) | exact absurd (hb.symm.trans hv2) (by decide) | exact absurd (hb.symm.trans hv3) (by decide) | exact absurd hb (List.cons_ne_nil _ _) | exact absurd hb (by decide) | (exfalso; omega))))))
              | (refine draw_e (by decide +kernel) (by decide +kernel) ?_)
              | (refine draw_eb (by decide +kernel) (by decide +kernel) ?_)
              | (refine SameL.any fun l hl hll => ?_; simp only [List.length_append, List.length_take, List.length_drop, List.length_replicate, List.length_cons, List.length_nil] at hll; have hlq : l.length = L.length + 1 := (by omega); clear hll)
              | (refine ret_trim ?_)
              | ((with_reducible refine isCall ?_); first | (refine call_overlaps_ro (tS := 25) (tR := 4) (e := 59) Try.func92 (by decide +kernel) rfl (by kernel_rfl) (by kernel_rfl) rfl rfl rfl rfl (by simp) (by omega) rfl ?_))
              | ((with_reducible refine isRet ?_); first | (refine ret_pick [1] rfl rfl rfl ⟨rfl, ?_⟩))
              | (refine SameV.mk ?_)
              | (refine NeedS.mk (by (try simp only [cutL, List.length_map, List.length_append, List.length_cons, List.length_nil, List.length_take, List.length_drop, List.length_replicate]); omega) ?_)
              | (refine CapS.mk fun c hc hcm => ?_; try simp only [List.length_map, List.length_append, List.length_cons, List.length_nil] at hc)
              | (refine CutS.zn (by (try simp only [cutL, List.length_map, List.length_append, List.length_cons, List.length_nil, List.length_take, List.length_drop, List.length_replicate]); omega) ?_)
              | (refine CutS.nn (by omega) (by (try simp only [cutL, List.length_map, List.length_append, List.length_cons, List.length_nil, List.length_take, List.length_drop, List.length_replicate]); omega) ?_)
              | (refine CutS.at (by (try simp only [cutL, List.length_map, List.length_append, List.length_cons, List.length_nil, List.length_take, List.length_drop, List.length_replicate]); omega) fun i1 i2 hi1 hi2 hj1 hj2 => ?_; try simp only [cutL, List.length_map, List.length_append, List.length_cons, List.length_nil, List.length_take, List.length_drop, List.length_replicate] at hi1 hi2 hj2)
              | (refine SameL.mk ?_)
              | (refine LenS.nil ?_)
              | (refine LenS.one ?_)
              | (refine LenS.map fun hlen => ?_)
              | (refine LenS.int fun hlen => ?_)
              | (refine ArithS.in64 (by omega) ?_)
              | (refine MakeS.nat rfl (by omega) ?_)
              | (refine InS.fill (by omega) ?_)
              | (refine ElemS.fill (by omega) ?_)
              | (refine InS.nat (by omega) ?_)
              | (refine InS.nat (by (try simp only [List.length_map]); omega) ?_)
              | (refine ElemS.the (by assumption) ?_)
              | (refine ElemS.nat (by omega) fun x hx => ?_)
              | (refine ByteS.the (by assumption) ?_)
              | (refine ByteS.nat (by omega) fun x hx => ?_)
              | (refine ElemS.at (by omega) fun i y hi hy => ?_)
              | (refine ByteS.at (by omega) fun i y hi hy => ?_)
              | (refine InS.at (by omega) fun i hi => ?_)
              | (refine AskS.app rfl (by (try simp only [cutL, List.length_take, List.length_drop, List.length_replicate, List.length_map, List.length_append, List.length_cons, List.length_nil]); omega) ?_)
              | (refine draw_k (by decide +kernel) (by decide +kernel) ?_)
              | (refine draw_kb (by decide +kernel) (by decide +kernel) ?_)
              | (refine ret_pick [] rfl rfl rfl ⟨?_, rfl⟩; conv => lhs; whnf)
              | (refine ret_pick [0] rfl rfl rfl ⟨rfl, ?_⟩)
              | (refine he _ _ ?_; clear hn he hr Q') | (refine hn _ ?_; clear hn he hr Q') | (refine hr _ ?_; clear hn he hr Q')))
  · subst hb
    refine congrArg (fun l => [Obj.row 59 3 l]) ?_
    rw [List.take_length, List.drop_length]
  · rename_i l1 h1 q1 l2 h2 q2
    refine congrArg (fun l => [Obj.row 59 3 l]) ?_
    obtain rfl : i1 = i + 1 := by omega
    rw [show ((L.length : Int) + 1 - (i : Int)).toNat = L.length + 1 - i by omega] at h1
    simp only [Nat.zero_add, Nat.sub_zero] at h1 h2 hl
    exact ins_road2 hi h1 q1 h2 q2 hl
  · rename_i l1 h1 q1
    refine congrArg (fun l => [Obj.row 59 3 l]) ?_
    simp only [Nat.zero_add, Nat.sub_zero] at h1 hl ⊢
    exact ins_road3 hi h1 q1 hl hlq
end Go.Eng
