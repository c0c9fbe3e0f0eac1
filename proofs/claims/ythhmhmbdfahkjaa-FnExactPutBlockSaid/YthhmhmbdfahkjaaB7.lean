/-
  Blocks put into an ordered list, by the program; what the reference makes of it.
  No conditions.
-/
import Derived.Test.YthhmhmbdfahkjaaIns1
import Derived.Test.YthhmhmbdfahkjaaB5
import Derived.Test.YthhmhmbdfahkjaaB6
namespace Go.Eng
open Go Go.RowKit Go.Proofs
set_option maxRecDepth 100000
theorem c_slicesInsert_Blk (a : List TBlock) (i : Nat) (t : TBlock) (hi : i ≤ a.length) (hl : a.length ≤ 1048576) : FnC Try.prog 80 G0 0 [.row 59 3 (a.map encBlock)] [.h 0, .int .i64 i, .sl 3 [encBlock t]] (fun d os => d = .h 0 ∧ os = [.row 59 3 ((a.take i ++ t :: a.drop i).map encBlock)]) := by
  rw [show ((a.take i ++ t :: a.drop i).map encBlock) = (a.map encBlock).take i ++ encBlock t :: (a.map encBlock).drop i by simp]
  exact c_slicesInsert_Block _ _ i (by simpa using hi) (by simpa using hl)
/-- Is there room for the block? -/
def roomB (a : List TBlock) (t : TBlock) : Bool := insF ltBlk eqkB a t || decide (a.length < 32)
def putB (a : List TBlock) (t : TBlock) : List TBlock := if roomB a t = true then insB a t else a
set_option maxHeartbeats 4000000 in
theorem c_impl_putBlock (a : List TBlock) (t : TBlock) (hs : chain ltBlk a = true) (hl : a.length ≤ 32) : FnC Try.prog 62 G0 0 [.row 59 3 (a.map encBlock)] [.h 0, .agg (encBlock t)] (fun d os => d = .tup [.h 0, .bool (roomB a t)] ∧ os = [.row 59 3 ((putB a t).map encBlock)]) := by
  have hle := blkAt_le a t
  cases hv2 : ((a[blkAt a t]?).any fun b => isBlk t.fKind t.fName b) with
  | true =>
    have hlt := any_lt hv2
    have hr : roomB a t = true := by
      have : insF ltBlk eqkB a t = true := hv2
      simp [roomB, this]
    have hN : insN ltBlk eqkB a t = blkAt a t + 1 := by unfold insN; rw [if_pos (show insF ltBlk eqkB a t = true from hv2)]; rfl
    have hset : a.set (blkAt a t) t = insB a t := by
      unfold insB insL
      rw [hN, List.set_eq_take_append_cons_drop, if_pos hlt]; rfl
    have hp : putB a t = insB a t := by unfold putB; rw [if_pos hr]
    refine fn_rule Try.func62 rfl (by decide +kernel) rfl (fun w0 F0 lent β0 => ?_)
    repeat' (first
             | (with_reducible refine awp_seq_k (fun Q' hn he hr => ?_))
             | (with_reducible refine awp_block_k (fun Q' hn he hr => ?_))
             | (with_reducible refine awp_cond_k ?_)
             | (with_reducible refine awp_region_k ?_)
             | (with_reducible refine awp_draw_k ?_)
             | (with_reducible refine awp_ret_k ?_)
             | (with_reducible refine awp_exit_k ?_)
             | (with_reducible refine awp_skip_k ?_)
             | (with_reducible refine awp_label_k ?_)
             | (with_reducible refine awp_scope_k ?_)
             | (with_reducible refine awp_loop_k ?_)
             | (with_reducible refine hn _ ?_; clear hn he hr Q')
             | (with_reducible refine hr _ ?_; clear hn he hr Q')
             | (with_reducible refine he _ _ ?_; clear hn he hr Q')
             | (conv => whnf
                first
                | ((first | (with_reducible refine br_t ?_) | (with_reducible refine br_f ?_) | (with_reducible refine br_c ?_)); repeat' (first | (with_reducible refine Br.tt ?_) | (with_reducible refine Br.ff ?_) | (with_reducible refine Br.nt ?_) | (with_reducible refine Br.nf ?_) | (with_reducible refine Br.condt ?_) | (with_reducible refine Br.condf ?_) | (with_reducible refine Br.ncondt ?_) | (with_reducible refine Br.ncondf ?_) | ((first | (with_reducible refine Br.lt (fun hb => ?_) (fun hb => ?_)) | (with_reducible refine Br.le (fun hb => ?_) (fun hb => ?_)) | (with_reducible refine Br.eqn (fun hb => ?_) (fun hb => ?_)) | (with_reducible refine Br.nlt (fun hb => ?_) (fun hb => ?_)) | (with_reducible refine Br.nle (fun hb => ?_) (fun hb => ?_)) | (with_reducible refine Br.neqn (fun hb => ?_) (fun hb => ?_)) | (with_reducible refine Br.dec (fun hb => ?_) (fun hb => ?_)) | (with_reducible refine Br.beq (fun hb => ?_) (fun hb => ?_)) | (with_reducible refine Br.ndec (fun hb => ?_) (fun hb => ?_)) | (with_reducible refine Br.nbeq (fun hb => ?_) (fun hb => ?_)) | (with_reducible refine Br.nsym (fun hb => ?_) (fun hb => ?_)) | (with_reducible refine Br.sym (fun hb => ?_) (fun hb => ?_))) <;> (try (first | exact absurd rfl hb | exact absurd (hb.symm.trans hv) (by decide) | exact absurd (hb.symm.trans hv2) (by decide) | exact absurd (hb.symm.trans hv3) (by decide) | exact absurd hb (List.cons_ne_nil _ _) | exact absurd hb (by decide) | (exfalso; omega))))))
                | ((with_reducible refine isCall ?_); first | (refine call_look (c_impl_blockPlace a t hs (by omega)) rfl ?_))
                | ((with_reducible refine isCallQ ?_); first | (refine callQ_look (c_impl_blockPlace a t hs (by omega)) rfl ?_))
                | ((with_reducible refine isRet ?_); first | (refine ret_pick [0] rfl rfl rfl ⟨?_, ?_⟩))
                | (refine SameV.mk ?_)
                | (refine NeedS.mk (by (try simp only [cutL, List.length_map, List.length_append, List.length_cons, List.length_nil, List.length_take, List.length_drop, List.length_replicate]); omega) ?_)
                | (refine CapS.mk fun c hc hcm => ?_; try simp only [List.length_map, List.length_append, List.length_cons, List.length_nil] at hc)
                | (refine CutS.zn (by (try simp only [cutL, List.length_map, List.length_append, List.length_cons, List.length_nil, List.length_take, List.length_drop, List.length_replicate]); omega) ?_)
                | (refine CutS.nn (by omega) (by (try simp only [cutL, List.length_map, List.length_append, List.length_cons, List.length_nil, List.length_take, List.length_drop, List.length_replicate]); omega) ?_)
                | (refine CutS.at (by (try simp only [cutL, List.length_map, List.length_append, List.length_cons, List.length_nil, List.length_take, List.length_drop, List.length_replicate]); omega) fun i1 i2 hi1 hi2 hj1 hj2 => ?_; try simp only [cutL, List.length_map, List.length_append, List.length_cons, List.length_nil, List.length_take, List.length_drop, List.length_replicate] at hi1 hi2 hj2)
                | (refine SameL.mk ?_)
                | (refine LenS.nil ?_)
                | (refine LenS.one ?_)
                | (refine LenS.map fun hlen => ?_)
                | (refine LenS.int fun hlen => ?_)
                | (refine ArithS.in64 (by omega) ?_)
                | (refine MakeS.nat rfl (by omega) ?_)
                | (refine InS.fill (by omega) ?_)
                | (refine ElemS.fill (by omega) ?_)
                | (refine InS.nat (by omega) ?_)
                | (refine InS.nat (by (try simp only [List.length_map]); omega) ?_)
                | (refine ElemS.the (by assumption) ?_)
                | (refine ElemS.nat (by omega) fun x hx => ?_)
                | (refine ByteS.the (by assumption) ?_)
                | (refine ByteS.nat (by omega) fun x hx => ?_)
                | (refine ElemS.at (by omega) fun i y hi hy => ?_)
                | (refine ByteS.at (by omega) fun i y hi hy => ?_)
                | (refine InS.at (by omega) fun i hi => ?_)
                | (refine AskS.app rfl (by (try simp only [cutL, List.length_take, List.length_drop, List.length_replicate, List.length_map, List.length_append, List.length_cons, List.length_nil]); omega) ?_)
                | (refine draw_k (by decide +kernel) (by decide +kernel) ?_)
                | (refine draw_kb (by decide +kernel) (by decide +kernel) ?_)
                | (refine ret_pick [] rfl rfl rfl ⟨?_, rfl⟩; conv => lhs; whnf)
                | (refine ret_pick [0] rfl rfl rfl ⟨rfl, ?_⟩)
                | (refine he _ _ ?_; clear hn he hr Q') | (refine hn _ ?_; clear hn he hr Q') | (refine hr _ ?_; clear hn he hr Q')))
    · rw [hr]; rfl
    · rw [hp, ← hset, List.map_set]; rfl
  | false =>
    have hF : insF ltBlk eqkB a t = false := hv2
    have hN : insN ltBlk eqkB a t = blkAt a t := by unfold insN; rw [if_neg (by rw [hF]; simp)]; rfl
    have hput : a.take (blkAt a t) ++ t :: a.drop (blkAt a t) = insB a t := by
      unfold insB insL
      rw [hN]; rfl
    refine fn_rule Try.func62 rfl (by decide +kernel) rfl (fun w0 F0 lent β0 => ?_)
    repeat' (first
             | (with_reducible refine awp_seq_k (fun Q' hn he hr => ?_))
             | (with_reducible refine awp_block_k (fun Q' hn he hr => ?_))
             | (with_reducible refine awp_cond_k ?_)
             | (with_reducible refine awp_region_k ?_)
             | (with_reducible refine awp_draw_k ?_)
             | (with_reducible refine awp_ret_k ?_)
             | (with_reducible refine awp_exit_k ?_)
             | (with_reducible refine awp_skip_k ?_)
             | (with_reducible refine awp_label_k ?_)
             | (with_reducible refine awp_scope_k ?_)
             | (with_reducible refine awp_loop_k ?_)
             | (with_reducible refine hn _ ?_; clear hn he hr Q')
             | (with_reducible refine hr _ ?_; clear hn he hr Q')
             | (with_reducible refine he _ _ ?_; clear hn he hr Q')
             | (conv => whnf
                first
                | ((first | (with_reducible refine br_t ?_) | (with_reducible refine br_f ?_) | (with_reducible refine br_c ?_)); repeat' (first | (with_reducible refine Br.tt ?_) | (with_reducible refine Br.ff ?_) | (with_reducible refine Br.nt ?_) | (with_reducible refine Br.nf ?_) | (with_reducible refine Br.condt ?_) | (with_reducible refine Br.condf ?_) | (with_reducible refine Br.ncondt ?_) | (with_reducible refine Br.ncondf ?_) | ((first | (with_reducible refine Br.lt (fun hb => ?_) (fun hb => ?_)) | (with_reducible refine Br.le (fun hb => ?_) (fun hb => ?_)) | (with_reducible refine Br.eqn (fun hb => ?_) (fun hb => ?_)) | (with_reducible refine Br.nlt (fun hb => ?_) (fun hb => ?_)) | (with_reducible refine Br.nle (fun hb => ?_) (fun hb => ?_)) | (with_reducible refine Br.neqn (fun hb => ?_) (fun hb => ?_)) | (with_reducible refine Br.dec (fun hb => ?_) (fun hb => ?_)) | (with_reducible refine Br.beq (fun hb => ?_) (fun hb => ?_)) | (with_reducible refine Br.ndec (fun hb => ?_) (fun hb => ?_)) | (with_reducible refine Br.nbeq (fun hb => ?_) (fun hb => ?_)) | (with_reducible refine Br.nsym (fun hb => ?_) (fun hb => ?_)) | (with_reducible refine Br.sym (fun hb => ?_) (fun hb => ?_))) <;> (try (first | exact absurd rfl hb | exact absurd (hb.symm.trans hv) (by decide) | exact absurd (hb.symm.trans hv2) (by decide) | exact absurd (hb.symm.trans hv3) (by decide) | exact absurd hb (List.cons_ne_nil _ _) | exact absurd hb (by decide) | (exfalso; omega))))))
                | ((with_reducible refine isCall ?_); first | (refine call_look (c_impl_blockPlace a t hs (by omega)) rfl ?_) | (refine call_mv 0 rfl (c_slicesInsert_Blk a (blkAt a t) t hle (by omega)) rfl (flat_one (FlatO.map fun _ => rfl)) (by first | exact (rfl : _ = 0) | exact (rfl : _ = 1) | exact (rfl : _ = 2) | exact (rfl : _ = 3) | exact (rfl : _ = 4) | exact (rfl : _ = 5) | exact (rfl : _ = 6) | exact (rfl : _ = 7) | exact (rfl : _ = 8) | exact (rfl : _ = 9) | exact (rfl : _ = 10) | exact (rfl : _ = 11) | exact (rfl : _ = 12) | exact (rfl : _ = 13) | exact (rfl : _ = 14) | exact (rfl : _ = 15) | exact (rfl : _ = 16) | exact (rfl : _ = 17) | exact (rfl : _ = 18) | exact (rfl : _ = 19) | exact (rfl : _ = 20) | exact (rfl : _ = 21) | exact (rfl : _ = 22) | exact (rfl : _ = 23) | exact (rfl : _ = 24) | exact (rfl : _ = 25) | exact (rfl : _ = 26) | exact (rfl : _ = 27) | exact (rfl : _ = 28) | exact (rfl : _ = 29) | exact (rfl : _ = 30) | exact (rfl : _ = 31) | exact (rfl : _ = 32) | exact (rfl : _ = 33) | exact (rfl : _ = 34) | exact (rfl : _ = 35) | exact (rfl : _ = 36) | exact (rfl : _ = 37) | exact (rfl : _ = 38) | exact (rfl : _ = 39)) ?_))
                | ((with_reducible refine isCallQ ?_); first | (refine callQ_look (c_impl_blockPlace a t hs (by omega)) rfl ?_))
                | ((with_reducible refine isRet ?_); first | (refine ret_pick [3] rfl rfl rfl ⟨?_, ?_⟩) | (refine ret_pick [0] rfl rfl rfl ⟨?_, ?_⟩))
                | (refine SameV.mk ?_)
                | (refine NeedS.mk (by (try simp only [cutL, List.length_map, List.length_append, List.length_cons, List.length_nil, List.length_take, List.length_drop, List.length_replicate]); omega) ?_)
                | (refine CapS.mk fun c hc hcm => ?_; try simp only [List.length_map, List.length_append, List.length_cons, List.length_nil] at hc)
                | (refine CutS.zn (by (try simp only [cutL, List.length_map, List.length_append, List.length_cons, List.length_nil, List.length_take, List.length_drop, List.length_replicate]); omega) ?_)
                | (refine CutS.nn (by omega) (by (try simp only [cutL, List.length_map, List.length_append, List.length_cons, List.length_nil, List.length_take, List.length_drop, List.length_replicate]); omega) ?_)
                | (refine CutS.at (by (try simp only [cutL, List.length_map, List.length_append, List.length_cons, List.length_nil, List.length_take, List.length_drop, List.length_replicate]); omega) fun i1 i2 hi1 hi2 hj1 hj2 => ?_; try simp only [cutL, List.length_map, List.length_append, List.length_cons, List.length_nil, List.length_take, List.length_drop, List.length_replicate] at hi1 hi2 hj2)
                | (refine SameL.mk ?_)
                | (refine LenS.nil ?_)
                | (refine LenS.one ?_)
                | (refine LenS.map fun hlen => ?_)
                | (refine LenS.int fun hlen => ?_)
                | (refine ArithS.in64 (by omega) ?_)
                | (refine MakeS.nat rfl (by omega) ?_)
                | (refine InS.fill (by omega) ?_)
                | (refine ElemS.fill (by omega) ?_)
                | (refine InS.nat (by omega) ?_)
                | (refine InS.nat (by (try simp only [List.length_map]); omega) ?_)
                | (refine ElemS.the (by assumption) ?_)
                | (refine ElemS.nat (by omega) fun x hx => ?_)
                | (refine ByteS.the (by assumption) ?_)
                | (refine ByteS.nat (by omega) fun x hx => ?_)
                | (refine ElemS.at (by omega) fun i y hi hy => ?_)
                | (refine ByteS.at (by omega) fun i y hi hy => ?_)
                | (refine InS.at (by omega) fun i hi => ?_)
                | (refine AskS.app rfl (by (try simp only [cutL, List.length_take, List.length_drop, List.length_replicate, List.length_map, List.length_append, List.length_cons, List.length_nil]); omega) ?_)
                | (refine draw_k (by decide +kernel) (by decide +kernel) ?_)
                | (refine draw_kb (by decide +kernel) (by decide +kernel) ?_)
                | (refine ret_pick [] rfl rfl rfl ⟨?_, rfl⟩; conv => lhs; whnf)
                | (refine ret_pick [0] rfl rfl rfl ⟨rfl, ?_⟩)
                | (refine he _ _ ?_; clear hn he hr Q') | (refine hn _ ?_; clear hn he hr Q') | (refine hr _ ?_; clear hn he hr Q')))
    · have hr : roomB a t = false := by unfold roomB; rw [hF, decide_eq_false (by omega)]; rfl
      rw [hr]; rfl
    · have hr : roomB a t = false := by unfold roomB; rw [hF, decide_eq_false (by omega)]; rfl
      have hp : putB a t = a := by unfold putB; rw [if_neg (by rw [hr]; simp)]
      rw [hp]; rfl
    · have hr : roomB a t = true := by unfold roomB; rw [hF, decide_eq_true (by omega)]; rfl
      rw [hr]; rfl
    · have hr : roomB a t = true := by unfold roomB; rw [hF, decide_eq_true (by omega)]; rfl
      have hp : putB a t = insB a t := by unfold putB; rw [if_pos hr]
      rw [hp, ← hput]; rfl
end Go.Eng
