/-
  Blocks by their names; the names of a kind.
  No conditions.
-/
import Derived.Test.YthhmhmbdfahkjaaB1
namespace Go.Eng
open Go Go.RowKit Go.Proofs
set_option maxRecDepth 100000

def isBlk (kd nm : List UInt8) (b : TBlock) : Bool := b.fKind == kd && b.fName == nm
theorem c_spec_l29Find (a : List TBlock) (kd nm : List UInt8) : FnC Try.prog 50 G0 0 [] [.sl 3 (a.map encBlock), .str kd, .str nm] (fun d os => d = .int .i64 (if firstAt (isBlk kd nm) a < a.length then firstAt (isBlk kd nm) a else -1) ∧ os = []) := by
  refine fn_rule Try.func50 rfl (by decide +kernel) rfl (fun w0 F0 lent β0 => ?_)
  repeat' (first
           | (with_reducible refine awp_seq_k (fun Q' hn he hr => ?_))
           | (with_reducible refine awp_block_k (fun Q' hn he hr => ?_))
           | (with_reducible refine awp_cond_k ?_)
           | (with_reducible refine awp_region_k ?_)
           | (with_reducible refine awp_draw_k ?_)
           | (with_reducible refine awp_ret_k ?_)
           | (with_reducible refine awp_exit_k ?_)
           | (with_reducible refine awp_skip_k ?_)
           | (with_reducible refine awp_label_k ?_)
           | (with_reducible refine awp_scope_k ?_)
           | (with_reducible refine awp_loop_k ?_)
           | (with_reducible refine hn _ ?_; clear hn he hr Q')
           | (with_reducible refine hr _ ?_; clear hn he hr Q')
           | (with_reducible refine he _ _ ?_; clear hn he hr Q')
           | (conv => whnf
              first
              | ((first | (with_reducible refine br_t ?_) | (with_reducible refine br_f ?_) | (with_reducible refine br_c ?_)); repeat' (first | (with_reducible refine Br.tt ?_) | (with_reducible refine Br.ff ?_) | (with_reducible refine Br.nt ?_) | (with_reducible refine Br.nf ?_) | (with_reducible refine Br.condt ?_) | (with_reducible refine Br.condf ?_) | (with_reducible refine Br.ncondt ?_) | (with_reducible refine Br.ncondf ?_) | ((first | (with_reducible refine Br.lt (fun hb => ?_) (fun hb => ?_)) | (with_reducible refine Br.le (fun hb => ?_) (fun hb => ?_)) | (with_reducible refine Br.eqn (fun hb => ?_) (fun hb => ?_)) | (with_reducible refine Br.nlt (fun hb => ?_) (fun hb => ?_)) | (with_reducible refine Br.nle (fun hb => ?_) (fun hb => ?_)) | (with_reducible refine Br.neqn (fun hb => ?_) (fun hb => ?_)) | (with_reducible refine Br.dec (fun hb => ?_) (fun hb => ?_)) | (with_reducible refine Br.beq (fun hb => ?_) (fun hb => ?_)) | (with_reducible refine Br.ndec (fun hb => ?_) (fun hb => ?_)) | (with_reducible refine Br.nbeq (fun hb => ?_) (fun hb => ?_)) | (with_reducible refine Br.nsym (fun hb => ?_) (fun hb => ?_)) | (with_reducible refine Br.sym (fun hb => ?_) (fun hb => ?_))) <;> (try (first | exact absurd rfl hb | exact absurd (hb.symm.trans hv) (by decide) | exact absurd (hb.symm.trans hv2) (by decide) | exact absurd (hb.symm.trans hv3) (by decide) | exact absurd hb (List.cons_ne_nil _ _) | exact absurd hb (by decide) | (exfalso; omega))))))
              | (refine SameV.mk ?_)
              | (refine NeedS.mk (by (try simp only [cutL, List.length_map, List.length_append, List.length_cons, List.length_nil, List.length_take, List.length_drop, List.length_replicate]); omega) ?_)
              | (refine CapS.mk fun c hc hcm => ?_; try simp only [List.length_map, List.length_append, List.length_cons, List.length_nil] at hc)
              | (refine CutS.zn (by (try simp only [cutL, List.length_map, List.length_append, List.length_cons, List.length_nil, List.length_take, List.length_drop, List.length_replicate]); omega) ?_)
              | (refine CutS.nn (by omega) (by (try simp only [cutL, List.length_map, List.length_append, List.length_cons, List.length_nil, List.length_take, List.length_drop, List.length_replicate]); omega) ?_)
              | (refine CutS.at (by (try simp only [cutL, List.length_map, List.length_append, List.length_cons, List.length_nil, List.length_take, List.length_drop, List.length_replicate]); omega) fun i1 i2 hi1 hi2 hj1 hj2 => ?_; try simp only [cutL, List.length_map, List.length_append, List.length_cons, List.length_nil, List.length_take, List.length_drop, List.length_replicate] at hi1 hi2 hj2)
              | (refine SameL.mk ?_)
              | (refine LenS.nil ?_)
              | (refine LenS.one ?_)
              | (refine LenS.map fun hlen => ?_)
              | (refine LenS.int fun hlen => ?_)
              | (refine ArithS.in64 (by omega) ?_)
              | (refine MakeS.nat rfl (by omega) ?_)
              | (refine InS.fill (by omega) ?_)
              | (refine ElemS.fill (by omega) ?_)
              | (refine InS.nat (by omega) ?_)
              | (refine InS.nat (by (try simp only [List.length_map]); omega) ?_)
              | (refine ElemS.the (by assumption) ?_)
              | (refine ElemS.nat (by omega) fun x hx => ?_)
              | (refine ByteS.the (by assumption) ?_)
              | (refine ByteS.nat (by omega) fun x hx => ?_)
              | (refine ElemS.at (by omega) fun i y hi hy => ?_)
              | (refine ByteS.at (by omega) fun i y hi hy => ?_)
              | (refine InS.at (by omega) fun i hi => ?_)
              | (refine AskS.app rfl (by (try simp only [cutL, List.length_take, List.length_drop, List.length_replicate, List.length_map, List.length_append, List.length_cons, List.length_nil]); omega) ?_)
              | (refine draw_k (by decide +kernel) (by decide +kernel) ?_)
              | (refine draw_kb (by decide +kernel) (by decide +kernel) ?_)
              | (refine ret_pick [] rfl rfl rfl ⟨?_, rfl⟩; conv => lhs; whnf)
              | (refine ret_pick [0] rfl rfl rfl ⟨rfl, ?_⟩)
              | (refine he _ _ ?_; clear hn he hr Q') | (refine hn _ ?_; clear hn he hr Q') | (refine hr _ ?_; clear hn he hr Q')))
  refine loop_env (fun k : Nat => [(0,.sl 3 (a.map encBlock)),(1,.str kd),(2,.str nm),(7,.int .i64 k)]) (fun _ => []) (fun k => k ≤ a.length ∧ noneTo (isBlk kd nm) a k) (fun k => a.length - k) 0 ⟨by omega, noneTo_zero⟩ (by refine weak_to rfl rfl rfl ?_; ((repeat' (first | exact trivial | refine And.intro ?_ ?_)) <;> (first | rfl | (conv => rhs; whnf) <;> (first | rfl | (refine congrArg (D.int _) ?_; omega))))) (fun k hk Q' hn he hr => ?_)
  repeat' (first
           | (with_reducible refine awp_seq_k (fun Q' hn he hr => ?_))
           | (with_reducible refine awp_block_k (fun Q' hn he hr => ?_))
           | (with_reducible refine awp_cond_k ?_)
           | (with_reducible refine awp_region_k ?_)
           | (with_reducible refine awp_draw_k ?_)
           | (with_reducible refine awp_ret_k ?_)
           | (with_reducible refine awp_exit_k ?_)
           | (with_reducible refine awp_skip_k ?_)
           | (with_reducible refine awp_label_k ?_)
           | (with_reducible refine awp_scope_k ?_)
           | (with_reducible refine awp_loop_k ?_)
           | (with_reducible refine hn _ ?_; clear hn he hr Q')
           | (with_reducible refine hr _ ?_; clear hn he hr Q')
           | (with_reducible refine he _ _ ?_; clear hn he hr Q')
           | (conv => whnf
              first
              | ((first | (with_reducible refine br_t ?_) | (with_reducible refine br_f ?_) | (with_reducible refine br_c ?_)); repeat' (first | (with_reducible refine Br.tt ?_) | (with_reducible refine Br.ff ?_) | (with_reducible refine Br.nt ?_) | (with_reducible refine Br.nf ?_) | (with_reducible refine Br.condt ?_) | (with_reducible refine Br.condf ?_) | (with_reducible refine Br.ncondt ?_) | (with_reducible refine Br.ncondf ?_) | ((first | (with_reducible refine Br.lt (fun hb => ?_) (fun hb => ?_)) | (with_reducible refine Br.le (fun hb => ?_) (fun hb => ?_)) | (with_reducible refine Br.eqn (fun hb => ?_) (fun hb => ?_)) | (with_reducible refine Br.nlt (fun hb => ?_) (fun hb => ?_)) | (with_reducible refine Br.nle (fun hb => ?_) (fun hb => ?_)) | (with_reducible refine Br.neqn (fun hb => ?_) (fun hb => ?_)) | (with_reducible refine Br.dec (fun hb => ?_) (fun hb => ?_)) | (with_reducible refine Br.beq (fun hb => ?_) (fun hb => ?_)) | (with_reducible refine Br.ndec (fun hb => ?_) (fun hb => ?_)) | (with_reducible refine Br.nbeq (fun hb => ?_) (fun hb => ?_)) | (with_reducible refine Br.nsym (fun hb => ?_) (fun hb => ?_)) | (with_reducible refine Br.sym (fun hb => ?_) (fun hb => ?_))) <;> (try (first | exact absurd rfl hb | exact absurd (hb.symm.trans hv) (by decide) | exact absurd (hb.symm.trans hv2) (by decide) | exact absurd (hb.symm.trans hv3) (by decide) | exact absurd hb (List.cons_ne_nil _ _) | exact absurd hb (by decide) | (exfalso; omega))))))
              | (refine SameV.mk ?_)
              | (refine NeedS.mk (by (try simp only [cutL, List.length_map, List.length_append, List.length_cons, List.length_nil, List.length_take, List.length_drop, List.length_replicate]); omega) ?_)
              | (refine CapS.mk fun c hc hcm => ?_; try simp only [List.length_map, List.length_append, List.length_cons, List.length_nil] at hc)
              | (refine CutS.zn (by (try simp only [cutL, List.length_map, List.length_append, List.length_cons, List.length_nil, List.length_take, List.length_drop, List.length_replicate]); omega) ?_)
              | (refine CutS.nn (by omega) (by (try simp only [cutL, List.length_map, List.length_append, List.length_cons, List.length_nil, List.length_take, List.length_drop, List.length_replicate]); omega) ?_)
              | (refine CutS.at (by (try simp only [cutL, List.length_map, List.length_append, List.length_cons, List.length_nil, List.length_take, List.length_drop, List.length_replicate]); omega) fun i1 i2 hi1 hi2 hj1 hj2 => ?_; try simp only [cutL, List.length_map, List.length_append, List.length_cons, List.length_nil, List.length_take, List.length_drop, List.length_replicate] at hi1 hi2 hj2)
              | (refine SameL.mk ?_)
              | (refine LenS.nil ?_)
              | (refine LenS.one ?_)
              | (refine LenS.map fun hlen => ?_)
              | (refine LenS.int fun hlen => ?_)
              | (refine ArithS.in64 (by omega) ?_)
              | (refine MakeS.nat rfl (by omega) ?_)
              | (refine InS.fill (by omega) ?_)
              | (refine ElemS.fill (by omega) ?_)
              | (refine InS.nat (by omega) ?_)
              | (refine InS.nat (by (try simp only [List.length_map]); omega) ?_)
              | (refine ElemS.the (by assumption) ?_)
              | (refine ElemS.nat (by omega) fun x hx => ?_)
              | (refine ByteS.the (by assumption) ?_)
              | (refine ByteS.nat (by omega) fun x hx => ?_)
              | (refine ElemS.at (by omega) fun i y hi hy => ?_)
              | (refine ByteS.at (by omega) fun i y hi hy => ?_)
              | (refine InS.at (by omega) fun i hi => ?_)
              | (refine AskS.app rfl (by (try simp only [cutL, List.length_take, List.length_drop, List.length_replicate, List.length_map, List.length_append, List.length_cons, List.length_nil]); omega) ?_)
              | (refine draw_k (by decide +kernel) (by decide +kernel) ?_)
              | (refine draw_kb (by decide +kernel) (by decide +kernel) ?_)
              | (refine ret_pick [] rfl rfl rfl ⟨?_, rfl⟩; conv => lhs; whnf)
              | (refine ret_pick [0] rfl rfl rfl ⟨rfl, ?_⟩)
              | (refine he _ _ ?_; clear hn he hr Q') | (refine hn _ ?_; clear hn he hr Q') | (refine hr _ ?_; clear hn he hr Q')))
  · have h1 := firstAt_here hk.2 hx (show isBlk kd nm x = true by simp [isBlk, *])
    rw [h1, if_pos (by omega)]
  · exact ⟨k + 1, ⟨by omega, noneTo_succ hk.2 hx (by simp [isBlk, *])⟩, by omega, (by refine weak_to rfl rfl rfl ?_; ((repeat' (first | exact trivial | refine And.intro ?_ ?_)) <;> (first | rfl | (conv => rhs; whnf) <;> (first | rfl | (refine congrArg (D.int _) ?_; omega)))))⟩
  · exact ⟨k + 1, ⟨by omega, noneTo_succ hk.2 hx (by simp [isBlk, *])⟩, by omega, (by refine weak_to rfl rfl rfl ?_; ((repeat' (first | exact trivial | refine And.intro ?_ ?_)) <;> (first | rfl | (conv => rhs; whnf) <;> (first | rfl | (refine congrArg (D.int _) ?_; omega)))))⟩
  · rw [firstAt_none hk.2 (by omega), if_neg (by omega)]
theorem blkSorted {a : List TBlock} (h : chain ltBlk a = true) {i j : Nat} {x y : TBlock} (hi : i < j) (hx : a[i]? = some x) (hy : a[j]? = some y) : ltBlk x y = true := chain_sorted (lt := ltBlk) ltBlk_trans h hi hx hy
theorem cmpBlk_zero {a b : TBlock} : cmpBlk a b = 0 ↔ a.fKind = b.fKind ∧ a.fName = b.fName := by
  rw [cmpBlk_eq]
  by_cases h : ltBlk a b = true
  · rw [if_pos h]
    exact Iff.intro (fun h => absurd h (by decide)) (fun h2 => absurd h2 (ltBlk_irrefl h))
  · rw [if_neg h]; split <;> simp_all
theorem cmpBlk_is (a b : TBlock) : decide (cmpBlk a b = 0) = isBlk b.fKind b.fName a := by
  rw [Bool.eq_iff_iff]; simp [isBlk, cmpBlk_zero]
/-- Where the block stands, or would stand. -/
def blkAt (a : List TBlock) (t : TBlock) : Nat := firstAt (fun b => !ltBlk b t) a
theorem blkAt_le (a : List TBlock) (t : TBlock) : blkAt a t ≤ a.length := firstAt_le _ _
theorem c_slices_BinarySearchBlk (a : List TBlock) (t : TBlock) (hs : chain ltBlk a = true) (hl : a.length ≤ 1048576) : FnC Try.prog 68 G0 0 [] [.sl 3 (a.map encBlock), .agg (encBlock t), .clo (.func 48) []]
    (fun d os => d = .tup [.int .i64 (blkAt a t), .bool ((a[blkAt a t]?).any fun b => isBlk t.fKind t.fName b)] ∧ os = []) := by
  refine fn_rule Try.func68 rfl (by decide +kernel) rfl (fun w0 F0 lent β0 => ?_)
  repeat' (first
           | (with_reducible refine awp_seq_k (fun Q' hn he hr => ?_))
           | (with_reducible refine awp_block_k (fun Q' hn he hr => ?_))
           | (with_reducible refine awp_cond_k ?_)
           | (with_reducible refine awp_region_k ?_)
           | (with_reducible refine awp_draw_k ?_)
           | (with_reducible refine awp_ret_k ?_)
           | (with_reducible refine awp_exit_k ?_)
           | (with_reducible refine awp_skip_k ?_)
           | (with_reducible refine awp_label_k ?_)
           | (with_reducible refine awp_scope_k ?_)
           | (with_reducible refine awp_loop_k ?_)
           | (with_reducible refine hn _ ?_; clear hn he hr Q')
           | (with_reducible refine hr _ ?_; clear hn he hr Q')
           | (with_reducible refine he _ _ ?_; clear hn he hr Q')
           | (conv => whnf
              first
              | ((first | (with_reducible refine br_t ?_) | (with_reducible refine br_f ?_) | (with_reducible refine br_c ?_)); repeat' (first | (with_reducible refine Br.tt ?_) | (with_reducible refine Br.ff ?_) | (with_reducible refine Br.nt ?_) | (with_reducible refine Br.nf ?_) | (with_reducible refine Br.condt ?_) | (with_reducible refine Br.condf ?_) | (with_reducible refine Br.ncondt ?_) | (with_reducible refine Br.ncondf ?_) | ((first | (with_reducible refine Br.lt (fun hb => ?_) (fun hb => ?_)) | (with_reducible refine Br.le (fun hb => ?_) (fun hb => ?_)) | (with_reducible refine Br.eqn (fun hb => ?_) (fun hb => ?_)) | (with_reducible refine Br.nlt (fun hb => ?_) (fun hb => ?_)) | (with_reducible refine Br.nle (fun hb => ?_) (fun hb => ?_)) | (with_reducible refine Br.neqn (fun hb => ?_) (fun hb => ?_)) | (with_reducible refine Br.dec (fun hb => ?_) (fun hb => ?_)) | (with_reducible refine Br.beq (fun hb => ?_) (fun hb => ?_)) | (with_reducible refine Br.ndec (fun hb => ?_) (fun hb => ?_)) | (with_reducible refine Br.nbeq (fun hb => ?_) (fun hb => ?_)) | (with_reducible refine Br.nsym (fun hb => ?_) (fun hb => ?_)) | (with_reducible refine Br.sym (fun hb => ?_) (fun hb => ?_))) <;> (try (first | exact absurd rfl hb | exact absurd (hb.symm.trans hv) (by decide) | exact absurd (hb.symm.trans hv2) (by decide) | exact absurd (hb.symm.trans hv3) (by decide) | exact absurd hb (List.cons_ne_nil _ _) | exact absurd hb (by decide) | (exfalso; omega))))))
              | (refine SameV.mk ?_)
              | (refine NeedS.mk (by (try simp only [cutL, List.length_map, List.length_append, List.length_cons, List.length_nil, List.length_take, List.length_drop, List.length_replicate]); omega) ?_)
              | (refine CapS.mk fun c hc hcm => ?_; try simp only [List.length_map, List.length_append, List.length_cons, List.length_nil] at hc)
              | (refine CutS.zn (by (try simp only [cutL, List.length_map, List.length_append, List.length_cons, List.length_nil, List.length_take, List.length_drop, List.length_replicate]); omega) ?_)
              | (refine CutS.nn (by omega) (by (try simp only [cutL, List.length_map, List.length_append, List.length_cons, List.length_nil, List.length_take, List.length_drop, List.length_replicate]); omega) ?_)
              | (refine CutS.at (by (try simp only [cutL, List.length_map, List.length_append, List.length_cons, List.length_nil, List.length_take, List.length_drop, List.length_replicate]); omega) fun i1 i2 hi1 hi2 hj1 hj2 => ?_; try simp only [cutL, List.length_map, List.length_append, List.length_cons, List.length_nil, List.length_take, List.length_drop, List.length_replicate] at hi1 hi2 hj2)
              | (refine SameL.mk ?_)
              | (refine LenS.nil ?_)
              | (refine LenS.one ?_)
              | (refine LenS.map fun hlen => ?_)
              | (refine LenS.int fun hlen => ?_)
              | (refine ArithS.in64 (by omega) ?_)
              | (refine MakeS.nat rfl (by omega) ?_)
              | (refine InS.fill (by omega) ?_)
              | (refine ElemS.fill (by omega) ?_)
              | (refine InS.nat (by omega) ?_)
              | (refine InS.nat (by (try simp only [List.length_map]); omega) ?_)
              | (refine ElemS.the (by assumption) ?_)
              | (refine ElemS.nat (by omega) fun x hx => ?_)
              | (refine ByteS.the (by assumption) ?_)
              | (refine ByteS.nat (by omega) fun x hx => ?_)
              | (refine ElemS.at (by omega) fun i y hi hy => ?_)
              | (refine ByteS.at (by omega) fun i y hi hy => ?_)
              | (refine InS.at (by omega) fun i hi => ?_)
              | (refine AskS.app rfl (by (try simp only [cutL, List.length_take, List.length_drop, List.length_replicate, List.length_map, List.length_append, List.length_cons, List.length_nil]); omega) ?_)
              | (refine draw_k (by decide +kernel) (by decide +kernel) ?_)
              | (refine draw_kb (by decide +kernel) (by decide +kernel) ?_)
              | (refine ret_pick [] rfl rfl rfl ⟨?_, rfl⟩; conv => lhs; whnf)
              | (refine ret_pick [0] rfl rfl rfl ⟨rfl, ?_⟩)
              | (refine he _ _ ?_; clear hn he hr Q') | (refine hn _ ?_; clear hn he hr Q') | (refine hr _ ?_; clear hn he hr Q')))
  refine loop_env2 (fun i j : Nat => [(0,.sl 3 (a.map encBlock)),(2,.clo (.func 48) []),(4,.hp 0 0),(8,.int .i64 a.length),(9,.int .i64 i),(10,.int .i64 j)]) (fun _ _ => [.box (encBlock t)]) (fun i j => i ≤ j ∧ j ≤ a.length ∧ (∀ m y, m < i → a[m]? = some y → ltBlk y t = true) ∧ (∀ m y, j ≤ m → a[m]? = some y → ltBlk y t = false)) (fun i j => j - i) 0 a.length ⟨Nat.zero_le _, Nat.le_refl _, fun m y h => absurd h (Nat.not_lt_zero _), fun m y h hy => by have := (List.getElem?_eq_some_iff.1 hy).1; omega⟩ (by refine weak_to rfl rfl rfl ?_; exact ⟨rfl, rfl, rfl, rfl, rfl, rfl, trivial⟩) (fun i j hk Q' hn he hr => ?_)
  repeat' (first
           | (with_reducible refine awp_seq_k (fun Q' hn he hr => ?_))
           | (with_reducible refine awp_block_k (fun Q' hn he hr => ?_))
           | (with_reducible refine awp_cond_k ?_)
           | (with_reducible refine awp_region_k ?_)
           | (with_reducible refine awp_draw_k ?_)
           | (with_reducible refine awp_ret_k ?_)
           | (with_reducible refine awp_exit_k ?_)
           | (with_reducible refine awp_skip_k ?_)
           | (with_reducible refine awp_label_k ?_)
           | (with_reducible refine awp_scope_k ?_)
           | (with_reducible refine awp_loop_k ?_)
           | (with_reducible refine hn _ ?_; clear hn he hr Q')
           | (with_reducible refine hr _ ?_; clear hn he hr Q')
           | (with_reducible refine he _ _ ?_; clear hn he hr Q')
           | (conv => whnf
              first
              | ((first | (with_reducible refine br_t ?_) | (with_reducible refine br_f ?_) | (with_reducible refine br_c ?_)); repeat' (first | (with_reducible refine Br.tt ?_) | (with_reducible refine Br.ff ?_) | (with_reducible refine Br.nt ?_) | (with_reducible refine Br.nf ?_) | (with_reducible refine Br.condt ?_) | (with_reducible refine Br.condf ?_) | (with_reducible refine Br.ncondt ?_) | (with_reducible refine Br.ncondf ?_) | ((first | (with_reducible refine Br.lt (fun hb => ?_) (fun hb => ?_)) | (with_reducible refine Br.le (fun hb => ?_) (fun hb => ?_)) | (with_reducible refine Br.eqn (fun hb => ?_) (fun hb => ?_)) | (with_reducible refine Br.nlt (fun hb => ?_) (fun hb => ?_)) | (with_reducible refine Br.nle (fun hb => ?_) (fun hb => ?_)) | (with_reducible refine Br.neqn (fun hb => ?_) (fun hb => ?_)) | (with_reducible refine Br.dec (fun hb => ?_) (fun hb => ?_)) | (with_reducible refine Br.beq (fun hb => ?_) (fun hb => ?_)) | (with_reducible refine Br.ndec (fun hb => ?_) (fun hb => ?_)) | (with_reducible refine Br.nbeq (fun hb => ?_) (fun hb => ?_)) | (with_reducible refine Br.nsym (fun hb => ?_) (fun hb => ?_)) | (with_reducible refine Br.sym (fun hb => ?_) (fun hb => ?_))) <;> (try (first | exact absurd rfl hb | exact absurd (hb.symm.trans hv) (by decide) | exact absurd (hb.symm.trans hv2) (by decide) | exact absurd (hb.symm.trans hv3) (by decide) | exact absurd hb (List.cons_ne_nil _ _) | exact absurd hb (by decide) | (exfalso; omega))))))
              | (refine AskS.mk ⟨by decide, ?_⟩)
              | (refine ArithS.inU64 (by omega) ?_)
              | (refine ArithS.to (((i + j) / 2 : Nat) : Int) (half_eq _ _) (wrap64 (by omega)) ?_)
              | ((with_reducible refine isCall ?_); first | (refine call_pure (c_impl_compareBlocks _ _) rfl rfl ?_))
              | ((with_reducible refine isCallQ ?_); first | (refine callQ_pure (c_impl_compareBlocks _ _) rfl rfl ?_))
              | (refine SameV.mk ?_)
              | (refine NeedS.mk (by (try simp only [cutL, List.length_map, List.length_append, List.length_cons, List.length_nil, List.length_take, List.length_drop, List.length_replicate]); omega) ?_)
              | (refine CapS.mk fun c hc hcm => ?_; try simp only [List.length_map, List.length_append, List.length_cons, List.length_nil] at hc)
              | (refine CutS.zn (by (try simp only [cutL, List.length_map, List.length_append, List.length_cons, List.length_nil, List.length_take, List.length_drop, List.length_replicate]); omega) ?_)
              | (refine CutS.nn (by omega) (by (try simp only [cutL, List.length_map, List.length_append, List.length_cons, List.length_nil, List.length_take, List.length_drop, List.length_replicate]); omega) ?_)
              | (refine CutS.at (by (try simp only [cutL, List.length_map, List.length_append, List.length_cons, List.length_nil, List.length_take, List.length_drop, List.length_replicate]); omega) fun i1 i2 hi1 hi2 hj1 hj2 => ?_; try simp only [cutL, List.length_map, List.length_append, List.length_cons, List.length_nil, List.length_take, List.length_drop, List.length_replicate] at hi1 hi2 hj2)
              | (refine SameL.mk ?_)
              | (refine LenS.nil ?_)
              | (refine LenS.one ?_)
              | (refine LenS.map fun hlen => ?_)
              | (refine LenS.int fun hlen => ?_)
              | (refine ArithS.in64 (by omega) ?_)
              | (refine MakeS.nat rfl (by omega) ?_)
              | (refine InS.fill (by omega) ?_)
              | (refine ElemS.fill (by omega) ?_)
              | (refine InS.nat (by omega) ?_)
              | (refine InS.nat (by (try simp only [List.length_map]); omega) ?_)
              | (refine ElemS.the (by assumption) ?_)
              | (refine ElemS.nat (by omega) fun x hx => ?_)
              | (refine ByteS.the (by assumption) ?_)
              | (refine ByteS.nat (by omega) fun x hx => ?_)
              | (refine ElemS.at (by omega) fun i y hi hy => ?_)
              | (refine ByteS.at (by omega) fun i y hi hy => ?_)
              | (refine InS.at (by omega) fun i hi => ?_)
              | (refine AskS.app rfl (by (try simp only [cutL, List.length_take, List.length_drop, List.length_replicate, List.length_map, List.length_append, List.length_cons, List.length_nil]); omega) ?_)
              | (refine draw_k (by decide +kernel) (by decide +kernel) ?_)
              | (refine draw_kb (by decide +kernel) (by decide +kernel) ?_)
              | (refine ret_pick [] rfl rfl rfl ⟨?_, rfl⟩; conv => lhs; whnf)
              | (refine ret_pick [0] rfl rfl rfl ⟨rfl, ?_⟩)
              | (refine he _ _ ?_; clear hn he hr Q') | (refine hn _ ?_; clear hn he hr Q') | (refine hr _ ?_; clear hn he hr Q')))
  · refine ⟨(i + j) / 2 + 1, j, ⟨by omega, by omega, fun m y hm hy => ?_, hk.2.2.2⟩, by omega, (by refine weak_to rfl rfl rfl ?_; ((repeat' (first | exact trivial | refine And.intro ?_ ?_)) <;> (first | rfl | (conv => rhs; whnf) <;> (first | rfl | (refine congrArg (D.int _) ?_; omega)))))⟩
    have hxt := cmpBlk_lt.1 hb
    rcases Nat.lt_or_ge m ((i + j) / 2) with h | h
    · exact ltBlk_trans (blkSorted hs h hy hx) hxt
    · obtain rfl : m = (i + j) / 2 := by omega
      rw [hx] at hy
      cases hy
      exact hxt
  · refine ⟨i, (i + j) / 2, ⟨by omega, by omega, hk.2.2.1, fun m y hm hy => ?_⟩, by omega, (by refine weak_to rfl rfl rfl ?_; ((repeat' (first | exact trivial | refine And.intro ?_ ?_)) <;> (first | rfl | (conv => rhs; whnf) <;> (first | rfl | (refine congrArg (D.int _) ?_; omega)))))⟩
    have hxt := cmpBlk_ge.1 hb
    rcases Nat.lt_or_ge ((i + j) / 2) m with h | h
    · cases hyt : ltBlk y t with
      | false => rfl
      | true =>
        rw [ltBlk_trans (blkSorted hs h hx hy) hyt] at hxt
        cases hxt
    · obtain rfl : m = (i + j) / 2 := by omega
      rw [hx] at hy
      cases hy
      exact hxt
  all_goals
    have hij : i = j := by omega
    subst hij
    have hat : blkAt a t = i := firstAt_eq (by omega) (fun m y hm hy => by simp [hk.2.2.1 m y hm hy]) (fun y hy => by simp [hk.2.2.2 i y (Nat.le_refl _) hy])
    rw [hat]
  · show D.tup [_, D.bool (decide (cmpBlk _ t = 0))] = _
    rw [cmpBlk_is, hx]
    rfl
  · rw [List.getElem?_eq_none (by omega)]
    rfl
theorem c_impl_blockPlace (a : List TBlock) (t : TBlock) (hs : chain ltBlk a = true) (hl : a.length ≤ 1048576) : FnC Try.prog 51 G0 0 [] [.sl 3 (a.map encBlock), .agg (encBlock t)]
    (fun d os => d = .tup [.int .i64 (blkAt a t), .bool ((a[blkAt a t]?).any fun b => isBlk t.fKind t.fName b)] ∧ os = []) := by
  refine fn_rule Try.func51 rfl (by decide +kernel) rfl (fun w0 F0 lent β0 => ?_)
  repeat' (first
           | (with_reducible refine awp_seq_k (fun Q' hn he hr => ?_))
           | (with_reducible refine awp_block_k (fun Q' hn he hr => ?_))
           | (with_reducible refine awp_cond_k ?_)
           | (with_reducible refine awp_region_k ?_)
           | (with_reducible refine awp_draw_k ?_)
           | (with_reducible refine awp_ret_k ?_)
           | (with_reducible refine awp_exit_k ?_)
           | (with_reducible refine awp_skip_k ?_)
           | (with_reducible refine awp_label_k ?_)
           | (with_reducible refine awp_scope_k ?_)
           | (with_reducible refine awp_loop_k ?_)
           | (with_reducible refine hn _ ?_; clear hn he hr Q')
           | (with_reducible refine hr _ ?_; clear hn he hr Q')
           | (with_reducible refine he _ _ ?_; clear hn he hr Q')
           | (conv => whnf
              first
              | ((first | (with_reducible refine br_t ?_) | (with_reducible refine br_f ?_) | (with_reducible refine br_c ?_)); repeat' (first | (with_reducible refine Br.tt ?_) | (with_reducible refine Br.ff ?_) | (with_reducible refine Br.nt ?_) | (with_reducible refine Br.nf ?_) | (with_reducible refine Br.condt ?_) | (with_reducible refine Br.condf ?_) | (with_reducible refine Br.ncondt ?_) | (with_reducible refine Br.ncondf ?_) | ((first | (with_reducible refine Br.lt (fun hb => ?_) (fun hb => ?_)) | (with_reducible refine Br.le (fun hb => ?_) (fun hb => ?_)) | (with_reducible refine Br.eqn (fun hb => ?_) (fun hb => ?_)) | (with_reducible refine Br.nlt (fun hb => ?_) (fun hb => ?_)) | (with_reducible refine Br.nle (fun hb => ?_) (fun hb => ?_)) | (with_reducible refine Br.neqn (fun hb => ?_) (fun hb => ?_)) | (with_reducible refine Br.dec (fun hb => ?_) (fun hb => ?_)) | (with_reducible refine Br.beq (fun hb => ?_) (fun hb => ?_)) | (with_reducible refine Br.ndec (fun hb => ?_) (fun hb => ?_)) | (with_reducible refine Br.nbeq (fun hb => ?_) (fun hb => ?_)) | (with_reducible refine Br.nsym (fun hb => ?_) (fun hb => ?_)) | (with_reducible refine Br.sym (fun hb => ?_) (fun hb => ?_))) <;> (try (first | exact absurd rfl hb | exact absurd (hb.symm.trans hv) (by decide) | exact absurd (hb.symm.trans hv2) (by decide) | exact absurd (hb.symm.trans hv3) (by decide) | exact absurd hb (List.cons_ne_nil _ _) | exact absurd hb (by decide) | (exfalso; omega))))))
              | ((with_reducible refine isCall ?_); first | (refine call_pure (c_slices_BinarySearchBlk a t hs hl) rfl rfl ?_))
              | ((with_reducible refine isCallQ ?_); first | (refine callQ_pure (c_slices_BinarySearchBlk a t hs hl) rfl rfl ?_))
              | (refine SameV.mk ?_)
              | (refine NeedS.mk (by (try simp only [cutL, List.length_map, List.length_append, List.length_cons, List.length_nil, List.length_take, List.length_drop, List.length_replicate]); omega) ?_)
              | (refine CapS.mk fun c hc hcm => ?_; try simp only [List.length_map, List.length_append, List.length_cons, List.length_nil] at hc)
              | (refine CutS.zn (by (try simp only [cutL, List.length_map, List.length_append, List.length_cons, List.length_nil, List.length_take, List.length_drop, List.length_replicate]); omega) ?_)
              | (refine CutS.nn (by omega) (by (try simp only [cutL, List.length_map, List.length_append, List.length_cons, List.length_nil, List.length_take, List.length_drop, List.length_replicate]); omega) ?_)
              | (refine CutS.at (by (try simp only [cutL, List.length_map, List.length_append, List.length_cons, List.length_nil, List.length_take, List.length_drop, List.length_replicate]); omega) fun i1 i2 hi1 hi2 hj1 hj2 => ?_; try simp only [cutL, List.length_map, List.length_append, List.length_cons, List.length_nil, List.length_take, List.length_drop, List.length_replicate] at hi1 hi2 hj2)
              | (refine SameL.mk ?_)
              | (refine LenS.nil ?_)
              | (refine LenS.one ?_)
              | (refine LenS.map fun hlen => ?_)
              | (refine LenS.int fun hlen => ?_)
              | (refine ArithS.in64 (by omega) ?_)
              | (refine MakeS.nat rfl (by omega) ?_)
              | (refine InS.fill (by omega) ?_)
              | (refine ElemS.fill (by omega) ?_)
              | (refine InS.nat (by omega) ?_)
              | (refine InS.nat (by (try simp only [List.length_map]); omega) ?_)
              | (refine ElemS.the (by assumption) ?_)
              | (refine ElemS.nat (by omega) fun x hx => ?_)
              | (refine ByteS.the (by assumption) ?_)
              | (refine ByteS.nat (by omega) fun x hx => ?_)
              | (refine ElemS.at (by omega) fun i y hi hy => ?_)
              | (refine ByteS.at (by omega) fun i y hi hy => ?_)
              | (refine InS.at (by omega) fun i hi => ?_)
              | (refine AskS.app rfl (by (try simp only [cutL, List.length_take, List.length_drop, List.length_replicate, List.length_map, List.length_append, List.length_cons, List.length_nil]); omega) ?_)
              | (refine draw_k (by decide +kernel) (by decide +kernel) ?_)
              | (refine draw_kb (by decide +kernel) (by decide +kernel) ?_)
              | (refine ret_pick [] rfl rfl rfl ⟨?_, rfl⟩; conv => lhs; whnf)
              | (refine ret_pick [0] rfl rfl rfl ⟨rfl, ?_⟩)
              | (refine he _ _ ?_; clear hn he hr Q') | (refine hn _ ?_; clear hn he hr Q') | (refine hr _ ?_; clear hn he hr Q')))
  rfl
theorem validBs_chain {a : List TBlock} (h : validBs a = true) : chain ltBlk a = true := by
  simp only [validBs, listOk, Bool.and_eq_true] at h
  exact h.2.2
theorem blkAt_first {a : List TBlock} (hs : chain ltBlk a = true) (t : TBlock) : if (a[blkAt a t]?).any (fun b => isBlk t.fKind t.fName b) = true then firstAt (isBlk t.fKind t.fName) a = blkAt a t else firstAt (isBlk t.fKind t.fName) a = a.length := by
  have hle := blkAt_le a t
  obtain ⟨h1, h2⟩ := firstAt_spec (fun b => !ltBlk b t) a
  have hlow : ∀ j x, j < blkAt a t → a[j]? = some x → isBlk t.fKind t.fName x = false := by
    intro j x hj hx
    have := h1 j x hj hx
    simp only [Bool.not_eq_false'] at this
    cases hi : isBlk t.fKind t.fName x with
    | false => rfl
    | true =>
      simp only [isBlk, Bool.and_eq_true, beq_iff_eq] at hi
      exact absurd hi (ltBlk_irrefl this)
  split
  · rename_i h
    have hlt := any_lt h
    refine firstAt_eq hle hlow (fun x hx => ?_)
    rw [hx] at h
    exact h
  · rename_i h
    refine firstAt_eq (Nat.le_refl _) (fun j x _ hx => ?_) (fun x hx => by simp at hx)
    rcases Nat.lt_trichotomy j (blkAt a t) with hj | hj | hj
    · exact hlow j x hj hx
    · subst hj
      rw [hx] at h
      simpa using h
    · cases hi : isBlk t.fKind t.fName x with
      | false => rfl
      | true =>
        exfalso
        have hjl := (List.getElem?_eq_some_iff.1 hx).1
        have hp : a[blkAt a t]? = some (a[blkAt a t]'(by omega)) := List.getElem?_eq_getElem (by omega)
        have h3 := blkSorted hs hj hp hx
        have h4 : (!ltBlk (a[blkAt a t]'(by omega)) t) = true := h2 _ hp
        simp only [isBlk, Bool.and_eq_true, beq_iff_eq] at hi
        have h5 : ltBlk (a[blkAt a t]'(by omega)) t = true := by
          simp only [ltBlk, hi.1, hi.2] at h3 ⊢
          exact h3
        rw [h5] at h4
        cases h4
/-- The text of a block, and a code. -/
def namedB (a : List TBlock) (kd nm : List UInt8) : List UInt8 × Int :=
  if validBs a = true then (match a[firstAt (isBlk kd nm) a]? with
    | some b => (b.fText, 0)
    | none => ([], 3)) else ([], 1)
theorem c_spec_BlockNamed (a : List TBlock) (kd nm : List UInt8) : FnC Try.prog 17 G0 0 [] [.sl 3 (a.map encBlock), .str kd, .str nm] (fun d os => d = .tup [.str (namedB a kd nm).1, .int .i64 (namedB a kd nm).2] ∧ os = []) := by
  have hat := firstAt_le (isBlk kd nm) a
  refine fn_rule Try.func17 rfl (by decide +kernel) rfl (fun w0 F0 lent β0 => ?_)
  repeat' (first
           | (with_reducible refine awp_seq_k (fun Q' hn he hr => ?_))
           | (with_reducible refine awp_block_k (fun Q' hn he hr => ?_))
           | (with_reducible refine awp_cond_k ?_)
           | (with_reducible refine awp_region_k ?_)
           | (with_reducible refine awp_draw_k ?_)
           | (with_reducible refine awp_ret_k ?_)
           | (with_reducible refine awp_exit_k ?_)
           | (with_reducible refine awp_skip_k ?_)
           | (with_reducible refine awp_label_k ?_)
           | (with_reducible refine awp_scope_k ?_)
           | (with_reducible refine awp_loop_k ?_)
           | (with_reducible refine hn _ ?_; clear hn he hr Q')
           | (with_reducible refine hr _ ?_; clear hn he hr Q')
           | (with_reducible refine he _ _ ?_; clear hn he hr Q')
           | (conv => whnf
              first
              | ((first | (with_reducible refine br_t ?_) | (with_reducible refine br_f ?_) | (with_reducible refine br_c ?_)); repeat' (first | (with_reducible refine Br.tt ?_) | (with_reducible refine Br.ff ?_) | (with_reducible refine Br.nt ?_) | (with_reducible refine Br.nf ?_) | (with_reducible refine Br.condt ?_) | (with_reducible refine Br.condf ?_) | (with_reducible refine Br.ncondt ?_) | (with_reducible refine Br.ncondf ?_) | ((first | (with_reducible refine Br.lt (fun hb => ?_) (fun hb => ?_)) | (with_reducible refine Br.le (fun hb => ?_) (fun hb => ?_)) | (with_reducible refine Br.eqn (fun hb => ?_) (fun hb => ?_)) | (with_reducible refine Br.nlt (fun hb => ?_) (fun hb => ?_)) | (with_reducible refine Br.nle (fun hb => ?_) (fun hb => ?_)) | (with_reducible refine Br.neqn (fun hb => ?_) (fun hb => ?_)) | (with_reducible refine Br.dec (fun hb => ?_) (fun hb => ?_)) | (with_reducible refine Br.beq (fun hb => ?_) (fun hb => ?_)) | (with_reducible refine Br.ndec (fun hb => ?_) (fun hb => ?_)) | (with_reducible refine Br.nbeq (fun hb => ?_) (fun hb => ?_)) | (with_reducible refine Br.nsym (fun hb => ?_) (fun hb => ?_)) | (with_reducible refine Br.sym (fun hb => ?_) (fun hb => ?_))) <;> (try (first | exact absurd rfl hb | exact absurd (hb.symm.trans hv) (by decide) | exact absurd (hb.symm.trans hv2) (by decide) | exact absurd (hb.symm.trans hv3) (by decide) | exact absurd hb (List.cons_ne_nil _ _) | exact absurd hb (by decide) | (exfalso; omega))))))
              | ((with_reducible refine isCall ?_); first | (refine call_pure (c_spec_l29Ok _) rfl rfl ?_) | (refine call_pure (c_spec_l29Find _ _ _) rfl rfl ?_))
              | ((with_reducible refine isCallQ ?_); first | (refine callQ_pure (c_spec_l29Ok _) rfl rfl ?_) | (refine callQ_pure (c_spec_l29Find _ _ _) rfl rfl ?_))
              | (refine SameV.mk ?_)
              | (refine NeedS.mk (by (try simp only [cutL, List.length_map, List.length_append, List.length_cons, List.length_nil, List.length_take, List.length_drop, List.length_replicate]); omega) ?_)
              | (refine CapS.mk fun c hc hcm => ?_; try simp only [List.length_map, List.length_append, List.length_cons, List.length_nil] at hc)
              | (refine CutS.zn (by (try simp only [cutL, List.length_map, List.length_append, List.length_cons, List.length_nil, List.length_take, List.length_drop, List.length_replicate]); omega) ?_)
              | (refine CutS.nn (by omega) (by (try simp only [cutL, List.length_map, List.length_append, List.length_cons, List.length_nil, List.length_take, List.length_drop, List.length_replicate]); omega) ?_)
              | (refine CutS.at (by (try simp only [cutL, List.length_map, List.length_append, List.length_cons, List.length_nil, List.length_take, List.length_drop, List.length_replicate]); omega) fun i1 i2 hi1 hi2 hj1 hj2 => ?_; try simp only [cutL, List.length_map, List.length_append, List.length_cons, List.length_nil, List.length_take, List.length_drop, List.length_replicate] at hi1 hi2 hj2)
              | (refine SameL.mk ?_)
              | (refine LenS.nil ?_)
              | (refine LenS.one ?_)
              | (refine LenS.map fun hlen => ?_)
              | (refine LenS.int fun hlen => ?_)
              | (refine ArithS.in64 (by omega) ?_)
              | (refine MakeS.nat rfl (by omega) ?_)
              | (refine InS.fill (by omega) ?_)
              | (refine ElemS.fill (by omega) ?_)
              | (refine InS.nat (by omega) ?_)
              | (refine InS.nat (by (try simp only [List.length_map]); omega) ?_)
              | (refine ElemS.the (by assumption) ?_)
              | (refine ElemS.nat (by omega) fun x hx => ?_)
              | (refine ByteS.the (by assumption) ?_)
              | (refine ByteS.nat (by omega) fun x hx => ?_)
              | (refine ElemS.at (by omega) fun i y hi hy => ?_)
              | (refine ByteS.at (by omega) fun i y hi hy => ?_)
              | (refine InS.at (by omega) fun i hi => ?_)
              | (refine AskS.app rfl (by (try simp only [cutL, List.length_take, List.length_drop, List.length_replicate, List.length_map, List.length_append, List.length_cons, List.length_nil]); omega) ?_)
              | (refine draw_k (by decide +kernel) (by decide +kernel) ?_)
              | (refine draw_kb (by decide +kernel) (by decide +kernel) ?_)
              | (refine ret_pick [] rfl rfl rfl ⟨?_, rfl⟩; conv => lhs; whnf)
              | (refine ret_pick [0] rfl rfl rfl ⟨rfl, ?_⟩)
              | (refine he _ _ ?_; clear hn he hr Q') | (refine hn _ ?_; clear hn he hr Q') | (refine hr _ ?_; clear hn he hr Q')))
  all_goals
    have hs := firstAt_spec (isBlk kd nm) a
  · simp [namedB, hb, out1, out0]
  · have h1 : ¬ firstAt (isBlk kd nm) a < a.length := fun h => by rw [if_pos h] at hb; omega
    simp [namedB, *, out1, out0, List.getElem?_eq_none (Nat.le_of_not_lt h1)]
  · have h1 : firstAt (isBlk kd nm) a < a.length := by
      rcases Nat.lt_or_ge (firstAt (isBlk kd nm) a) a.length with h | h
      · exact h
      · rw [if_neg (by omega)] at hb; omega
    rw [if_pos h1] at hi
    obtain rfl : i = firstAt (isBlk kd nm) a := by omega
    simp [namedB, hy, ‹validBs a = true›, out1, out0]
theorem c_impl_BlockNamed (a : List TBlock) (kd nm : List UInt8) (hl : a.length ≤ 1048576) : FnC Try.prog 18 G0 0 [] [.sl 3 (a.map encBlock), .str kd, .str nm] (fun d os => d = .tup [.str (namedB a kd nm).1, .int .i64 (namedB a kd nm).2] ∧ os = []) := by
  refine fn_rule Try.func18 rfl (by decide +kernel) rfl (fun w0 F0 lent β0 => ?_)
  repeat' (first
           | (with_reducible refine awp_seq_k (fun Q' hn he hr => ?_))
           | (with_reducible refine awp_block_k (fun Q' hn he hr => ?_))
           | (with_reducible refine awp_cond_k ?_)
           | (with_reducible refine awp_region_k ?_)
           | (with_reducible refine awp_draw_k ?_)
           | (with_reducible refine awp_ret_k ?_)
           | (with_reducible refine awp_exit_k ?_)
           | (with_reducible refine awp_skip_k ?_)
           | (with_reducible refine awp_label_k ?_)
           | (with_reducible refine awp_scope_k ?_)
           | (with_reducible refine awp_loop_k ?_)
           | (with_reducible refine hn _ ?_; clear hn he hr Q')
           | (with_reducible refine hr _ ?_; clear hn he hr Q')
           | (with_reducible refine he _ _ ?_; clear hn he hr Q')
           | (conv => whnf
              first
              | ((first | (with_reducible refine br_t ?_) | (with_reducible refine br_f ?_) | (with_reducible refine br_c ?_)); repeat' (first | (with_reducible refine Br.tt ?_) | (with_reducible refine Br.ff ?_) | (with_reducible refine Br.nt ?_) | (with_reducible refine Br.nf ?_) | (with_reducible refine Br.condt ?_) | (with_reducible refine Br.condf ?_) | (with_reducible refine Br.ncondt ?_) | (with_reducible refine Br.ncondf ?_) | ((first | (with_reducible refine Br.lt (fun hb => ?_) (fun hb => ?_)) | (with_reducible refine Br.le (fun hb => ?_) (fun hb => ?_)) | (with_reducible refine Br.eqn (fun hb => ?_) (fun hb => ?_)) | (with_reducible refine Br.nlt (fun hb => ?_) (fun hb => ?_)) | (with_reducible refine Br.nle (fun hb => ?_) (fun hb => ?_)) | (with_reducible refine Br.neqn (fun hb => ?_) (fun hb => ?_)) | (with_reducible refine Br.dec (fun hb => ?_) (fun hb => ?_)) | (with_reducible refine Br.beq (fun hb => ?_) (fun hb => ?_)) | (with_reducible refine Br.ndec (fun hb => ?_) (fun hb => ?_)) | (with_reducible refine Br.nbeq (fun hb => ?_) (fun hb => ?_)) | (with_reducible refine Br.nsym (fun hb => ?_) (fun hb => ?_)) | (with_reducible refine Br.sym (fun hb => ?_) (fun hb => ?_))) <;> (try (first | exact absurd rfl hb | exact absurd (hb.symm.trans hv) (by decide) | exact absurd (hb.symm.trans hv2) (by decide) | exact absurd (hb.symm.trans hv3) (by decide) | exact absurd hb (List.cons_ne_nil _ _) | exact absurd hb (by decide) | (exfalso; omega))))))
              | (refine ElemS.nat (any_lt ‹_›) fun x hx => ?_)
              | ((with_reducible refine isCall ?_); first | (refine call_pure (c_impl_ValidBlocks _) rfl rfl ?_) | (refine call_pure (c_impl_blockPlace a ⟨kd, nm, []⟩ (validBs_chain ‹_›) hl) rfl rfl ?_))
              | ((with_reducible refine isCallQ ?_); first | (refine callQ_pure (c_impl_ValidBlocks _) rfl rfl ?_) | (refine callQ_pure (c_impl_blockPlace a ⟨kd, nm, []⟩ (validBs_chain ‹_›) hl) rfl rfl ?_))
              | (refine SameV.mk ?_)
              | (refine NeedS.mk (by (try simp only [cutL, List.length_map, List.length_append, List.length_cons, List.length_nil, List.length_take, List.length_drop, List.length_replicate]); omega) ?_)
              | (refine CapS.mk fun c hc hcm => ?_; try simp only [List.length_map, List.length_append, List.length_cons, List.length_nil] at hc)
              | (refine CutS.zn (by (try simp only [cutL, List.length_map, List.length_append, List.length_cons, List.length_nil, List.length_take, List.length_drop, List.length_replicate]); omega) ?_)
              | (refine CutS.nn (by omega) (by (try simp only [cutL, List.length_map, List.length_append, List.length_cons, List.length_nil, List.length_take, List.length_drop, List.length_replicate]); omega) ?_)
              | (refine CutS.at (by (try simp only [cutL, List.length_map, List.length_append, List.length_cons, List.length_nil, List.length_take, List.length_drop, List.length_replicate]); omega) fun i1 i2 hi1 hi2 hj1 hj2 => ?_; try simp only [cutL, List.length_map, List.length_append, List.length_cons, List.length_nil, List.length_take, List.length_drop, List.length_replicate] at hi1 hi2 hj2)
              | (refine SameL.mk ?_)
              | (refine LenS.nil ?_)
              | (refine LenS.one ?_)
              | (refine LenS.map fun hlen => ?_)
              | (refine LenS.int fun hlen => ?_)
              | (refine ArithS.in64 (by omega) ?_)
              | (refine MakeS.nat rfl (by omega) ?_)
              | (refine InS.fill (by omega) ?_)
              | (refine ElemS.fill (by omega) ?_)
              | (refine InS.nat (by omega) ?_)
              | (refine InS.nat (by (try simp only [List.length_map]); omega) ?_)
              | (refine ElemS.the (by assumption) ?_)
              | (refine ElemS.nat (by omega) fun x hx => ?_)
              | (refine ByteS.the (by assumption) ?_)
              | (refine ByteS.nat (by omega) fun x hx => ?_)
              | (refine ElemS.at (by omega) fun i y hi hy => ?_)
              | (refine ByteS.at (by omega) fun i y hi hy => ?_)
              | (refine InS.at (by omega) fun i hi => ?_)
              | (refine AskS.app rfl (by (try simp only [cutL, List.length_take, List.length_drop, List.length_replicate, List.length_map, List.length_append, List.length_cons, List.length_nil]); omega) ?_)
              | (refine draw_k (by decide +kernel) (by decide +kernel) ?_)
              | (refine draw_kb (by decide +kernel) (by decide +kernel) ?_)
              | (refine ret_pick [] rfl rfl rfl ⟨?_, rfl⟩; conv => lhs; whnf)
              | (refine ret_pick [0] rfl rfl rfl ⟨rfl, ?_⟩)
              | (refine he _ _ ?_; clear hn he hr Q') | (refine hn _ ?_; clear hn he hr Q') | (refine hr _ ?_; clear hn he hr Q')))
  · simp [namedB, hb, out1, out0]
  all_goals
    have hf := blkAt_first (validBs_chain ‹validBs a = true›) ⟨kd, nm, []⟩
    simp only at hf hb
    rw [hb] at hf
    simp only [if_true, if_false, Bool.false_eq_true] at hf
  · simp [namedB, hf, ‹validBs a = true›, out1, out0]
  · simp [namedB, hf, hx, ‹validBs a = true›, out1, out0]
end Go.Eng
