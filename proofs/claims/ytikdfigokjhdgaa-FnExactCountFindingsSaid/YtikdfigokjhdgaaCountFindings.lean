/-
  The program's CountFindings returns what the reference's returns, for all arguments.
  No conditions.
-/
import Derived.Test.YtikdfigokjhdgaaP1
import Derived.Test.YtikdfigokjhdgaaRows
import Derived.Test.YtikdfigokjhdgaaChecked
import Derived.ProofKit
import Derived.OpenShut
import Derived.ShutString
import Derived.ChangeOld
namespace Go.Eng
open Go Go.RowKit Go.Proofs
set_option maxRecDepth 100000
structure TFinding where
  fKind : Int
  fWho : List UInt8
  fWhat : List UInt8
def encFinding (x : TFinding) : List D := [.int .i64 x.fKind, .str x.fWho, .str x.fWhat]
def TFinding.sz (x : TFinding) : Nat := x.fWho.length + x.fWhat.length
def eqTFinding (a b : TFinding) : Bool := eqI a.fKind b.fKind && (eqStr a.fWho b.fWho && (eqStr a.fWhat b.fWhat))
theorem eqTFinding_refl (x : TFinding) : eqTFinding x x = true := by simp [eqTFinding, eqI, eqStr, eqBo]
theorem c_szFinding (x : TFinding) (left : Int) (h0 : 0 ≤ left) (h1 : left ≤ 1048576) : FnC Try.prog 37 G0 0 [] [.agg (encFinding x), .int .i64 left] (fun d os => d = .int .i64 (if x.sz ≤ left then left - x.sz else -1) ∧ os = []) := by
  refine fn_rule Try.func37 rfl (by decide +kernel) rfl (fun w0 F0 lent β0 => ?_)
  repeat' (first
           | (with_reducible refine awp_seq_k (fun Q' hn he hr => ?_))
           | (with_reducible refine awp_block_k (fun Q' hn he hr => ?_))
           | (with_reducible refine awp_cond_k ?_)
           | (with_reducible refine awp_region_k ?_)
           | (with_reducible refine awp_draw_k ?_)
           | (with_reducible refine awp_ret_k ?_)
           | (with_reducible refine awp_exit_k ?_)
           | (with_reducible refine awp_skip_k ?_)
           | (with_reducible refine awp_label_k ?_)
           | (with_reducible refine awp_scope_k ?_)
           | (with_reducible refine awp_loop_k ?_)
           | (with_reducible refine hn _ ?_; clear hn he hr Q')
           | (with_reducible refine hr _ ?_; clear hn he hr Q')
           | (with_reducible refine he _ _ ?_; clear hn he hr Q')
           | (conv => whnf
              first
              | (with_reducible refine gtt ?_) | (with_reducible refine gft ?_) | (with_reducible refine gtf ?_) | (with_reducible refine gff ?_) | (with_reducible refine ct ?_) | (with_reducible refine cf ?_) | (with_reducible refine gntt ?_) | (with_reducible refine gnft ?_) | (with_reducible refine gntf ?_) | (with_reducible refine gnff ?_) | (with_reducible refine cgnt ?_) | (with_reducible refine cgnf ?_)
              | ((first | (with_reducible refine gsym (fun hb => ?_) (fun hb => ?_)) | (with_reducible refine gsymf (fun hb => ?_) (fun hb => ?_)) | (with_reducible refine csym (fun hb => ?_) (fun hb => ?_))) <;> (try simp only [decide_eq_true_eq, decide_eq_false_iff_not, Int.natCast_inj, Int.not_le, Int.not_lt, Bool.not_eq_true', Bool.not_eq_false', reduceCtorEq] at hb) <;> (try (exfalso; omega)))
              | (refine LenS.map fun hlen => ?_)
              | (refine LenS.int fun hlen => ?_)
              | (refine ArithS.in64 (by omega) ?_)
              | (refine MakeS.nat rfl (by omega) ?_)
              | (refine InS.fill (by omega) ?_)
              | (refine ElemS.fill (by omega) ?_)
              | (refine InS.nat (by omega) ?_)
              | (refine ElemS.the (by assumption) ?_)
              | (refine ElemS.nat (by omega) fun x hx => ?_)
              | (refine ByteS.nat (by omega) fun x hx => ?_)
              | (refine draw_k (by decide +kernel) (by decide +kernel) ?_)
              | (refine ret_pick [] rfl rfl rfl ⟨?_, rfl⟩; conv => lhs; whnf)
              | (refine he _ _ ?_; clear hn he hr Q') | (refine hn _ ?_; clear hn he hr Q') | (refine hr _ ?_; clear hn he hr Q')))
  all_goals simp only [TFinding.sz]
  all_goals (first | rfl | (refine congrArg (D.int _) ?_; first | rfl | omega | (split <;> omega)))
theorem c_szFindingS (a : List (TFinding)) (left : Int) (h0 : 0 ≤ left) (h1 : left ≤ 1048576) : FnC Try.prog 17 G0 0 [] [.sl 3 (a.map encFinding), .int .i64 left] (fun d os => d = .int .i64 (if szL TFinding.sz a ≤ left then left - szL TFinding.sz a else -1) ∧ os = []) := by
  have hz0 := szTo_zero TFinding.sz a
  have hmono : ∀ k, k ≤ a.length → szTo TFinding.sz a k ≤ szL TFinding.sz a := fun k h => szTo_mono _ h
  have hm0 := hmono 0 (Nat.zero_le _)
  refine fn_rule Try.func17 rfl (by decide +kernel) rfl (fun w0 F0 lent β0 => ?_)
  repeat' (first
           | (with_reducible refine awp_seq_k (fun Q' hn he hr => ?_))
           | (with_reducible refine awp_block_k (fun Q' hn he hr => ?_))
           | (with_reducible refine awp_cond_k ?_)
           | (with_reducible refine awp_region_k ?_)
           | (with_reducible refine awp_draw_k ?_)
           | (with_reducible refine awp_ret_k ?_)
           | (with_reducible refine awp_exit_k ?_)
           | (with_reducible refine awp_skip_k ?_)
           | (with_reducible refine awp_label_k ?_)
           | (with_reducible refine awp_scope_k ?_)
           | (with_reducible refine awp_loop_k ?_)
           | (with_reducible refine hn _ ?_; clear hn he hr Q')
           | (with_reducible refine hr _ ?_; clear hn he hr Q')
           | (with_reducible refine he _ _ ?_; clear hn he hr Q')
           | (conv => whnf
              first
              | (with_reducible refine gtt ?_) | (with_reducible refine gft ?_) | (with_reducible refine gtf ?_) | (with_reducible refine gff ?_) | (with_reducible refine ct ?_) | (with_reducible refine cf ?_) | (with_reducible refine gntt ?_) | (with_reducible refine gnft ?_) | (with_reducible refine gntf ?_) | (with_reducible refine gnff ?_) | (with_reducible refine cgnt ?_) | (with_reducible refine cgnf ?_)
              | ((first | (with_reducible refine gsym (fun hb => ?_) (fun hb => ?_)) | (with_reducible refine gsymf (fun hb => ?_) (fun hb => ?_)) | (with_reducible refine csym (fun hb => ?_) (fun hb => ?_))) <;> (try simp only [decide_eq_true_eq, decide_eq_false_iff_not, Int.natCast_inj, Int.not_le, Int.not_lt, Bool.not_eq_true', Bool.not_eq_false', reduceCtorEq] at hb) <;> (try (exfalso; omega)))
              | (refine LenS.map fun hlen => ?_)
              | (refine LenS.int fun hlen => ?_)
              | (refine ArithS.in64 (by omega) ?_)
              | (refine MakeS.nat rfl (by omega) ?_)
              | (refine InS.fill (by omega) ?_)
              | (refine ElemS.fill (by omega) ?_)
              | (refine InS.nat (by omega) ?_)
              | (refine ElemS.the (by assumption) ?_)
              | (refine ElemS.nat (by omega) fun x hx => ?_)
              | (refine ByteS.nat (by omega) fun x hx => ?_)
              | (refine draw_k (by decide +kernel) (by decide +kernel) ?_)
              | (refine ret_pick [] rfl rfl rfl ⟨?_, rfl⟩; conv => lhs; whnf)
              | (refine he _ _ ?_; clear hn he hr Q') | (refine hn _ ?_; clear hn he hr Q') | (refine hr _ ?_; clear hn he hr Q')))
  · (first | rfl | (refine congrArg (D.int _) ?_; first | rfl | omega | (split <;> omega)))
  · refine loop_env (fun k : Nat => [(0,.sl 3 (a.map encFinding)),(1,.int .i64 (left - szTo TFinding.sz a k)),(5,.int .i64 k)]) (fun _ => []) (fun k => k ≤ a.length ∧ (szTo TFinding.sz a k : Int) ≤ left) (fun k => a.length - k) 0 ⟨by omega, by omega⟩ (by refine weak_to rfl rfl rfl ?_; ((repeat' (first | exact trivial | refine And.intro ?_ ?_)) <;> (first | rfl | (conv => rhs; whnf) <;> (first | rfl | (refine congrArg (D.int _) ?_; omega))))) (fun k hk Q' hn he hr => ?_)
    repeat' (first
             | (with_reducible refine awp_seq_k (fun Q' hn he hr => ?_))
             | (with_reducible refine awp_block_k (fun Q' hn he hr => ?_))
             | (with_reducible refine awp_cond_k ?_)
             | (with_reducible refine awp_region_k ?_)
             | (with_reducible refine awp_draw_k ?_)
             | (with_reducible refine awp_ret_k ?_)
             | (with_reducible refine awp_exit_k ?_)
             | (with_reducible refine awp_skip_k ?_)
             | (with_reducible refine awp_label_k ?_)
             | (with_reducible refine awp_scope_k ?_)
             | (with_reducible refine awp_loop_k ?_)
             | (with_reducible refine hn _ ?_; clear hn he hr Q')
             | (with_reducible refine hr _ ?_; clear hn he hr Q')
             | (with_reducible refine he _ _ ?_; clear hn he hr Q')
             | (conv => whnf
                first
                | (with_reducible refine gtt ?_) | (with_reducible refine gft ?_) | (with_reducible refine gtf ?_) | (with_reducible refine gff ?_) | (with_reducible refine ct ?_) | (with_reducible refine cf ?_) | (with_reducible refine gntt ?_) | (with_reducible refine gnft ?_) | (with_reducible refine gntf ?_) | (with_reducible refine gnff ?_) | (with_reducible refine cgnt ?_) | (with_reducible refine cgnf ?_)
                | ((first | (with_reducible refine gsym (fun hb => ?_) (fun hb => ?_)) | (with_reducible refine gsymf (fun hb => ?_) (fun hb => ?_)) | (with_reducible refine csym (fun hb => ?_) (fun hb => ?_))) <;> (try simp only [decide_eq_true_eq, decide_eq_false_iff_not, Int.natCast_inj, Int.not_le, Int.not_lt, Bool.not_eq_true', Bool.not_eq_false', reduceCtorEq] at hb) <;> (try (exfalso; omega)))
                | ((with_reducible refine isCall ?_); first | (refine call_pure (c_szFinding x _ (by omega) (by omega)) rfl rfl ?_))
                | (refine LenS.map fun hlen => ?_)
                | (refine LenS.int fun hlen => ?_)
                | (refine ArithS.in64 (by omega) ?_)
                | (refine MakeS.nat rfl (by omega) ?_)
                | (refine InS.fill (by omega) ?_)
                | (refine ElemS.fill (by omega) ?_)
                | (refine InS.nat (by omega) ?_)
                | (refine ElemS.the (by assumption) ?_)
                | (refine ElemS.nat (by omega) fun x hx => ?_)
                | (refine ByteS.nat (by omega) fun x hx => ?_)
                | (refine draw_k (by decide +kernel) (by decide +kernel) ?_)
                | (refine ret_pick [] rfl rfl rfl ⟨?_, rfl⟩; conv => lhs; whnf)
                | (refine he _ _ ?_; clear hn he hr Q') | (refine hn _ ?_; clear hn he hr Q') | (refine hr _ ?_; clear hn he hr Q')))
    · have h2 := hmono (k + 1) (by omega)
      rw [szTo_succ ‹a[k]? = some _›] at h2
      split at hb <;> (first | rfl | (refine congrArg (D.int _) ?_; first | rfl | omega | (split <;> omega)))
    · have h2 := szTo_succ (f := TFinding.sz) ‹a[k]? = some _›
      split at hb
      · rename_i h3
        refine ⟨k + 1, ⟨by omega, by omega⟩, by omega, ?_⟩
        rw [if_pos h3]
        exact (by refine weak_to rfl rfl rfl ?_; ((repeat' (first | exact trivial | refine And.intro ?_ ?_)) <;> (first | rfl | (conv => rhs; whnf) <;> (first | rfl | (refine congrArg (D.int _) ?_; omega)))))
      · omega
    · have h2 : k = a.length := by omega
      subst h2
      have h3 := szL_all TFinding.sz a
      (first | rfl | (refine congrArg (D.int _) ?_; first | rfl | omega | (split <;> omega)))
theorem c_toFinding (x : TFinding) : FnC Try.prog 39 G0 0 [] [.agg (encFinding x)] (fun d os => d = .agg (encFinding x) ∧ os = []) := by
  refine fn_rule Try.func39 rfl (by decide +kernel) rfl (fun w0 F0 lent β0 => ?_)
  repeat' (first
           | (with_reducible refine awp_seq_k (fun Q' hn he hr => ?_))
           | (with_reducible refine awp_block_k (fun Q' hn he hr => ?_))
           | (with_reducible refine awp_cond_k ?_)
           | (with_reducible refine awp_region_k ?_)
           | (with_reducible refine awp_draw_k ?_)
           | (with_reducible refine awp_ret_k ?_)
           | (with_reducible refine awp_exit_k ?_)
           | (with_reducible refine awp_skip_k ?_)
           | (with_reducible refine awp_label_k ?_)
           | (with_reducible refine awp_scope_k ?_)
           | (with_reducible refine awp_loop_k ?_)
           | (with_reducible refine hn _ ?_; clear hn he hr Q')
           | (with_reducible refine hr _ ?_; clear hn he hr Q')
           | (with_reducible refine he _ _ ?_; clear hn he hr Q')
           | (conv => whnf
              first
              | (with_reducible refine gtt ?_) | (with_reducible refine gft ?_) | (with_reducible refine gtf ?_) | (with_reducible refine gff ?_) | (with_reducible refine ct ?_) | (with_reducible refine cf ?_) | (with_reducible refine gntt ?_) | (with_reducible refine gnft ?_) | (with_reducible refine gntf ?_) | (with_reducible refine gnff ?_) | (with_reducible refine cgnt ?_) | (with_reducible refine cgnf ?_)
              | ((first | (with_reducible refine gsym (fun hb => ?_) (fun hb => ?_)) | (with_reducible refine gsymf (fun hb => ?_) (fun hb => ?_)) | (with_reducible refine csym (fun hb => ?_) (fun hb => ?_))) <;> (try simp only [decide_eq_true_eq, decide_eq_false_iff_not, Int.natCast_inj, Int.not_le, Int.not_lt, Bool.not_eq_true', Bool.not_eq_false', reduceCtorEq] at hb) <;> (try (exfalso; omega)))
              | (refine LenS.map fun hlen => ?_)
              | (refine LenS.int fun hlen => ?_)
              | (refine ArithS.in64 (by omega) ?_)
              | (refine MakeS.nat rfl (by omega) ?_)
              | (refine InS.fill (by omega) ?_)
              | (refine ElemS.fill (by omega) ?_)
              | (refine InS.nat (by omega) ?_)
              | (refine ElemS.the (by assumption) ?_)
              | (refine ElemS.nat (by omega) fun x hx => ?_)
              | (refine ByteS.nat (by omega) fun x hx => ?_)
              | (refine draw_k (by decide +kernel) (by decide +kernel) ?_)
              | (refine ret_pick [] rfl rfl rfl ⟨?_, rfl⟩; conv => lhs; whnf)
              | (refine he _ _ ?_; clear hn he hr Q') | (refine hn _ ?_; clear hn he hr Q') | (refine hr _ ?_; clear hn he hr Q')))
  all_goals rfl
def zFinding : List D := [.int .i64 0, .str [], .str []]
theorem c_toFindingS (a : List (TFinding)) (hs : a.length ≤ 1048576) : FnC Try.prog 19 G0 0 [] [.sl 3 (a.map encFinding)] (fun d os => d = .h 0 ∧ os = [.row 63 3 (a.map encFinding)]) := by
  refine fn_rule Try.func19 rfl (by decide +kernel) rfl (fun w0 F0 lent β0 => ?_)
  repeat' (first
           | (with_reducible refine awp_seq_k (fun Q' hn he hr => ?_))
           | (with_reducible refine awp_block_k (fun Q' hn he hr => ?_))
           | (with_reducible refine awp_cond_k ?_)
           | (with_reducible refine awp_region_k ?_)
           | (with_reducible refine awp_draw_k ?_)
           | (with_reducible refine awp_ret_k ?_)
           | (with_reducible refine awp_exit_k ?_)
           | (with_reducible refine awp_skip_k ?_)
           | (with_reducible refine awp_label_k ?_)
           | (with_reducible refine awp_scope_k ?_)
           | (with_reducible refine awp_loop_k ?_)
           | (with_reducible refine hn _ ?_; clear hn he hr Q')
           | (with_reducible refine hr _ ?_; clear hn he hr Q')
           | (with_reducible refine he _ _ ?_; clear hn he hr Q')
           | (conv => whnf
              first
              | (with_reducible refine gtt ?_) | (with_reducible refine gft ?_) | (with_reducible refine gtf ?_) | (with_reducible refine gff ?_) | (with_reducible refine ct ?_) | (with_reducible refine cf ?_) | (with_reducible refine gntt ?_) | (with_reducible refine gnft ?_) | (with_reducible refine gntf ?_) | (with_reducible refine gnff ?_) | (with_reducible refine cgnt ?_) | (with_reducible refine cgnf ?_)
              | ((first | (with_reducible refine gsym (fun hb => ?_) (fun hb => ?_)) | (with_reducible refine gsymf (fun hb => ?_) (fun hb => ?_)) | (with_reducible refine csym (fun hb => ?_) (fun hb => ?_))) <;> (try simp only [decide_eq_true_eq, decide_eq_false_iff_not, Int.natCast_inj, Int.not_le, Int.not_lt, Bool.not_eq_true', Bool.not_eq_false', reduceCtorEq] at hb) <;> (try (exfalso; omega)))
              | (refine LenS.map fun hlen => ?_)
              | (refine LenS.int fun hlen => ?_)
              | (refine ArithS.in64 (by omega) ?_)
              | (refine MakeS.nat rfl (by omega) ?_)
              | (refine InS.fill (by omega) ?_)
              | (refine ElemS.fill (by omega) ?_)
              | (refine InS.nat (by omega) ?_)
              | (refine ElemS.the (by assumption) ?_)
              | (refine ElemS.nat (by omega) fun x hx => ?_)
              | (refine ByteS.nat (by omega) fun x hx => ?_)
              | (refine draw_k (by decide +kernel) (by decide +kernel) ?_)
              | (refine ret_pick [] rfl rfl rfl ⟨?_, rfl⟩; conv => lhs; whnf)
              | (refine he _ _ ?_; clear hn he hr Q') | (refine hn _ ?_; clear hn he hr Q') | (refine hr _ ?_; clear hn he hr Q')))
  refine loop_env (fun k : Nat => [(0,.sl 3 (a.map encFinding)),(3,.h 0),(4,.int .i64 k)]) (fun k => [.row 63 3 (fill encFinding zFinding a k)]) (fun k => k ≤ a.length) (fun k => a.length - k) 0 (by omega) (by refine weak_to rfl rfl ?_ ?_; rw [fill_zero]; rfl; exact ⟨rfl, rfl, rfl, trivial⟩) (fun k hk Q' hn he hr => ?_)
  repeat' (first
           | (with_reducible refine awp_seq_k (fun Q' hn he hr => ?_))
           | (with_reducible refine awp_block_k (fun Q' hn he hr => ?_))
           | (with_reducible refine awp_cond_k ?_)
           | (with_reducible refine awp_region_k ?_)
           | (with_reducible refine awp_draw_k ?_)
           | (with_reducible refine awp_ret_k ?_)
           | (with_reducible refine awp_exit_k ?_)
           | (with_reducible refine awp_skip_k ?_)
           | (with_reducible refine awp_label_k ?_)
           | (with_reducible refine awp_scope_k ?_)
           | (with_reducible refine awp_loop_k ?_)
           | (with_reducible refine hn _ ?_; clear hn he hr Q')
           | (with_reducible refine hr _ ?_; clear hn he hr Q')
           | (with_reducible refine he _ _ ?_; clear hn he hr Q')
           | (conv => whnf
              first
              | (with_reducible refine gtt ?_) | (with_reducible refine gft ?_) | (with_reducible refine gtf ?_) | (with_reducible refine gff ?_) | (with_reducible refine ct ?_) | (with_reducible refine cf ?_) | (with_reducible refine gntt ?_) | (with_reducible refine gnft ?_) | (with_reducible refine gntf ?_) | (with_reducible refine gnff ?_) | (with_reducible refine cgnt ?_) | (with_reducible refine cgnf ?_)
              | ((first | (with_reducible refine gsym (fun hb => ?_) (fun hb => ?_)) | (with_reducible refine gsymf (fun hb => ?_) (fun hb => ?_)) | (with_reducible refine csym (fun hb => ?_) (fun hb => ?_))) <;> (try simp only [decide_eq_true_eq, decide_eq_false_iff_not, Int.natCast_inj, Int.not_le, Int.not_lt, Bool.not_eq_true', Bool.not_eq_false', reduceCtorEq] at hb) <;> (try (exfalso; omega)))
              | ((with_reducible refine isCall ?_); first | (refine call_pure (c_toFinding x) rfl rfl ?_))
              | ((with_reducible refine isRet ?_); first | (refine ret_pick [0] rfl rfl rfl ⟨rfl, ?_⟩))
              | (refine LenS.map fun hlen => ?_)
              | (refine LenS.int fun hlen => ?_)
              | (refine ArithS.in64 (by omega) ?_)
              | (refine MakeS.nat rfl (by omega) ?_)
              | (refine InS.fill (by omega) ?_)
              | (refine ElemS.fill (by omega) ?_)
              | (refine InS.nat (by omega) ?_)
              | (refine ElemS.the (by assumption) ?_)
              | (refine ElemS.nat (by omega) fun x hx => ?_)
              | (refine ByteS.nat (by omega) fun x hx => ?_)
              | (refine draw_k (by decide +kernel) (by decide +kernel) ?_)
              | (refine ret_pick [] rfl rfl rfl ⟨?_, rfl⟩; conv => lhs; whnf)
              | (refine he _ _ ?_; clear hn he hr Q') | (refine hn _ ?_; clear hn he hr Q') | (refine hr _ ?_; clear hn he hr Q')))
  · refine ⟨k + 1, by omega, by omega, ?_⟩
    refine weak_to rfl rfl ?_ ⟨rfl, rfl, rfl, trivial⟩
    rw [← fill_set _ _ _ hx]
    rfl
  · have h2 : k = a.length := by omega
    subst h2
    rw [← fill_all encFinding zFinding a]
    rfl
theorem c_eqFinding (a b : TFinding) : FnC Try.prog 41 G0 0 [] [.agg (encFinding a), .agg (encFinding b)] (fun d os => d = .bool (eqTFinding a b) ∧ os = []) := by
  refine fn_rule Try.func41 rfl (by decide +kernel) rfl (fun w0 F0 lent β0 => ?_)
  repeat' (first
           | (with_reducible refine awp_seq_k (fun Q' hn he hr => ?_))
           | (with_reducible refine awp_block_k (fun Q' hn he hr => ?_))
           | (with_reducible refine awp_cond_k ?_)
           | (with_reducible refine awp_region_k ?_)
           | (with_reducible refine awp_draw_k ?_)
           | (with_reducible refine awp_ret_k ?_)
           | (with_reducible refine awp_exit_k ?_)
           | (with_reducible refine awp_skip_k ?_)
           | (with_reducible refine awp_label_k ?_)
           | (with_reducible refine awp_scope_k ?_)
           | (with_reducible refine awp_loop_k ?_)
           | (with_reducible refine hn _ ?_; clear hn he hr Q')
           | (with_reducible refine hr _ ?_; clear hn he hr Q')
           | (with_reducible refine he _ _ ?_; clear hn he hr Q')
           | (conv => whnf
              first
              | (with_reducible refine gtt ?_) | (with_reducible refine gft ?_) | (with_reducible refine gtf ?_) | (with_reducible refine gff ?_) | (with_reducible refine ct ?_) | (with_reducible refine cf ?_) | (with_reducible refine gntt ?_) | (with_reducible refine gnft ?_) | (with_reducible refine gntf ?_) | (with_reducible refine gnff ?_) | (with_reducible refine cgnt ?_) | (with_reducible refine cgnf ?_)
              | ((first | (with_reducible refine gsym (fun hb => ?_) (fun hb => ?_)) | (with_reducible refine gsymf (fun hb => ?_) (fun hb => ?_)) | (with_reducible refine csym (fun hb => ?_) (fun hb => ?_))) <;> (try simp only [decide_eq_true_eq, decide_eq_false_iff_not, Int.natCast_inj, Int.not_le, Int.not_lt, Bool.not_eq_true', Bool.not_eq_false', reduceCtorEq] at hb) <;> (try (exfalso; omega)))
              | (refine LenS.map fun hlen => ?_)
              | (refine LenS.int fun hlen => ?_)
              | (refine ArithS.in64 (by omega) ?_)
              | (refine MakeS.nat rfl (by omega) ?_)
              | (refine InS.fill (by omega) ?_)
              | (refine ElemS.fill (by omega) ?_)
              | (refine InS.nat (by omega) ?_)
              | (refine ElemS.the (by assumption) ?_)
              | (refine ElemS.nat (by omega) fun x hx => ?_)
              | (refine ByteS.nat (by omega) fun x hx => ?_)
              | (refine draw_k (by decide +kernel) (by decide +kernel) ?_)
              | (refine ret_pick [] rfl rfl rfl ⟨?_, rfl⟩; conv => lhs; whnf)
              | (refine he _ _ ?_; clear hn he hr Q') | (refine hn _ ?_; clear hn he hr Q') | (refine hr _ ?_; clear hn he hr Q')))
  all_goals simp_all [eqTFinding, eqI, eqStr, eqBo]
theorem c_eqFindingS (a b : List (TFinding)) : FnC Try.prog 22 G0 0 [] [.sl 3 (a.map encFinding), .sl 3 (b.map encFinding)] (fun d os => d = .bool (eqL eqTFinding a b) ∧ os = []) := by
  refine fn_rule Try.func22 rfl (by decide +kernel) rfl (fun w0 F0 lent β0 => ?_)
  repeat' (first
           | (with_reducible refine awp_seq_k (fun Q' hn he hr => ?_))
           | (with_reducible refine awp_block_k (fun Q' hn he hr => ?_))
           | (with_reducible refine awp_cond_k ?_)
           | (with_reducible refine awp_region_k ?_)
           | (with_reducible refine awp_draw_k ?_)
           | (with_reducible refine awp_ret_k ?_)
           | (with_reducible refine awp_exit_k ?_)
           | (with_reducible refine awp_skip_k ?_)
           | (with_reducible refine awp_label_k ?_)
           | (with_reducible refine awp_scope_k ?_)
           | (with_reducible refine awp_loop_k ?_)
           | (with_reducible refine hn _ ?_; clear hn he hr Q')
           | (with_reducible refine hr _ ?_; clear hn he hr Q')
           | (with_reducible refine he _ _ ?_; clear hn he hr Q')
           | (conv => whnf
              first
              | (with_reducible refine gtt ?_) | (with_reducible refine gft ?_) | (with_reducible refine gtf ?_) | (with_reducible refine gff ?_) | (with_reducible refine ct ?_) | (with_reducible refine cf ?_) | (with_reducible refine gntt ?_) | (with_reducible refine gnft ?_) | (with_reducible refine gntf ?_) | (with_reducible refine gnff ?_) | (with_reducible refine cgnt ?_) | (with_reducible refine cgnf ?_)
              | ((first | (with_reducible refine gsym (fun hb => ?_) (fun hb => ?_)) | (with_reducible refine gsymf (fun hb => ?_) (fun hb => ?_)) | (with_reducible refine csym (fun hb => ?_) (fun hb => ?_))) <;> (try simp only [decide_eq_true_eq, decide_eq_false_iff_not, Int.natCast_inj, Int.not_le, Int.not_lt, Bool.not_eq_true', Bool.not_eq_false', reduceCtorEq] at hb) <;> (try (exfalso; omega)))
              | (refine LenS.map fun hlen => ?_)
              | (refine LenS.int fun hlen => ?_)
              | (refine ArithS.in64 (by omega) ?_)
              | (refine MakeS.nat rfl (by omega) ?_)
              | (refine InS.fill (by omega) ?_)
              | (refine ElemS.fill (by omega) ?_)
              | (refine InS.nat (by omega) ?_)
              | (refine ElemS.the (by assumption) ?_)
              | (refine ElemS.nat (by omega) fun x hx => ?_)
              | (refine ByteS.nat (by omega) fun x hx => ?_)
              | (refine draw_k (by decide +kernel) (by decide +kernel) ?_)
              | (refine ret_pick [] rfl rfl rfl ⟨?_, rfl⟩; conv => lhs; whnf)
              | (refine he _ _ ?_; clear hn he hr Q') | (refine hn _ ?_; clear hn he hr Q') | (refine hr _ ?_; clear hn he hr Q')))
  · rw [eqL_len hb]
  · refine loop_env (fun k : Nat => [(0,.sl 3 (a.map encFinding)),(1,.sl 3 (b.map encFinding)),(5,.int .i64 k)]) (fun _ => []) (fun k => k ≤ a.length ∧ eqTo eqTFinding a b k) (fun k => a.length - k) 0 ⟨by omega, eqTo_zero⟩ (by refine weak_to rfl rfl rfl ?_; ((repeat' (first | exact trivial | refine And.intro ?_ ?_)) <;> (first | rfl | (conv => rhs; whnf) <;> (first | rfl | (refine congrArg (D.int _) ?_; omega))))) (fun k hk Q' hn he hr => ?_)
    repeat' (first
             | (with_reducible refine awp_seq_k (fun Q' hn he hr => ?_))
             | (with_reducible refine awp_block_k (fun Q' hn he hr => ?_))
             | (with_reducible refine awp_cond_k ?_)
             | (with_reducible refine awp_region_k ?_)
             | (with_reducible refine awp_draw_k ?_)
             | (with_reducible refine awp_ret_k ?_)
             | (with_reducible refine awp_exit_k ?_)
             | (with_reducible refine awp_skip_k ?_)
             | (with_reducible refine awp_label_k ?_)
             | (with_reducible refine awp_scope_k ?_)
             | (with_reducible refine awp_loop_k ?_)
             | (with_reducible refine hn _ ?_; clear hn he hr Q')
             | (with_reducible refine hr _ ?_; clear hn he hr Q')
             | (with_reducible refine he _ _ ?_; clear hn he hr Q')
             | (conv => whnf
                first
                | (with_reducible refine gtt ?_) | (with_reducible refine gft ?_) | (with_reducible refine gtf ?_) | (with_reducible refine gff ?_) | (with_reducible refine ct ?_) | (with_reducible refine cf ?_) | (with_reducible refine gntt ?_) | (with_reducible refine gnft ?_) | (with_reducible refine gntf ?_) | (with_reducible refine gnff ?_) | (with_reducible refine cgnt ?_) | (with_reducible refine cgnf ?_)
                | ((first | (with_reducible refine gsym (fun hb => ?_) (fun hb => ?_)) | (with_reducible refine gsymf (fun hb => ?_) (fun hb => ?_)) | (with_reducible refine csym (fun hb => ?_) (fun hb => ?_))) <;> (try simp only [decide_eq_true_eq, decide_eq_false_iff_not, Int.natCast_inj, Int.not_le, Int.not_lt, Bool.not_eq_true', Bool.not_eq_false', reduceCtorEq] at hb) <;> (try (exfalso; omega)))
                | ((with_reducible refine isCallQ ?_); first | (refine callQ_plain (.bool (eqTFinding _ _)) (c_eqFinding _ _) rfl (by rintro d os ⟨rfl, rfl⟩; rfl) ?_))
                | (refine LenS.map fun hlen => ?_)
                | (refine LenS.int fun hlen => ?_)
                | (refine ArithS.in64 (by omega) ?_)
                | (refine MakeS.nat rfl (by omega) ?_)
                | (refine InS.fill (by omega) ?_)
                | (refine ElemS.fill (by omega) ?_)
                | (refine InS.nat (by omega) ?_)
                | (refine ElemS.the (by assumption) ?_)
                | (refine ElemS.nat (by omega) fun x hx => ?_)
                | (refine ByteS.nat (by omega) fun x hx => ?_)
                | (refine draw_k (by decide +kernel) (by decide +kernel) ?_)
                | (refine ret_pick [] rfl rfl rfl ⟨?_, rfl⟩; conv => lhs; whnf)
                | (refine he _ _ ?_; clear hn he hr Q') | (refine hn _ ?_; clear hn he hr Q') | (refine hr _ ?_; clear hn he hr Q')))
    · rw [eqL_at ‹a[k]? = some _› ‹b[k]? = some _› hb]
    · exact ⟨k + 1, ⟨by omega, eqTo_succ hk.2 ‹a[k]? = some _› ‹b[k]? = some _› hb⟩, by omega, (by refine weak_to rfl rfl rfl ?_; ((repeat' (first | exact trivial | refine And.intro ?_ ?_)) <;> (first | rfl | (conv => rhs; whnf) <;> (first | rfl | (refine congrArg (D.int _) ?_; omega)))))⟩
    · rw [eqL_all (by omega) (fun j x y h => hk.2 j x y (by omega))]
def markFinding (_ : TFinding) (q : Int) : TFinding := { fKind := q, fWho := mtext (q + 1), fWhat := mtext (q + 1 + 1) }
theorem c_markFindingS (a : List (TFinding)) (q : Int) (h0 : 0 ≤ q ∧ q + 3 * a.length ≤ 4611686018427387904) : FnC Try.prog 23 G0 1 [.row 63 3 (a.map encFinding)] [.h 0, .int .i64 q] (fun d os => d = .int .i64 (q + 3 * a.length) ∧ os = [.row 63 3 ((mkL markFinding 3 q a).map encFinding)]) := by
  refine fn_rule Try.func23 rfl (by decide +kernel) rfl (fun w0 F0 lent β0 => ?_)
  repeat' (first
           | (with_reducible refine awp_seq_k (fun Q' hn he hr => ?_))
           | (with_reducible refine awp_block_k (fun Q' hn he hr => ?_))
           | (with_reducible refine awp_cond_k ?_)
           | (with_reducible refine awp_region_k ?_)
           | (with_reducible refine awp_draw_k ?_)
           | (with_reducible refine awp_ret_k ?_)
           | (with_reducible refine awp_exit_k ?_)
           | (with_reducible refine awp_skip_k ?_)
           | (with_reducible refine awp_label_k ?_)
           | (with_reducible refine awp_scope_k ?_)
           | (with_reducible refine awp_loop_k ?_)
           | (with_reducible refine hn _ ?_; clear hn he hr Q')
           | (with_reducible refine hr _ ?_; clear hn he hr Q')
           | (with_reducible refine he _ _ ?_; clear hn he hr Q')
           | (conv => whnf
              first
              | (with_reducible refine gtt ?_) | (with_reducible refine gft ?_) | (with_reducible refine gtf ?_) | (with_reducible refine gff ?_) | (with_reducible refine ct ?_) | (with_reducible refine cf ?_) | (with_reducible refine gntt ?_) | (with_reducible refine gnft ?_) | (with_reducible refine gntf ?_) | (with_reducible refine gnff ?_) | (with_reducible refine cgnt ?_) | (with_reducible refine cgnf ?_)
              | ((first | (with_reducible refine gsym (fun hb => ?_) (fun hb => ?_)) | (with_reducible refine gsymf (fun hb => ?_) (fun hb => ?_)) | (with_reducible refine csym (fun hb => ?_) (fun hb => ?_))) <;> (try simp only [decide_eq_true_eq, decide_eq_false_iff_not, Int.natCast_inj, Int.not_le, Int.not_lt, Bool.not_eq_true', Bool.not_eq_false', reduceCtorEq] at hb) <;> (try (exfalso; omega)))
              | (refine LenS.map fun hlen => ?_)
              | (refine LenS.int fun hlen => ?_)
              | (refine ArithS.in64 (by omega) ?_)
              | (refine MakeS.nat rfl (by omega) ?_)
              | (refine InS.fill (by omega) ?_)
              | (refine ElemS.fill (by omega) ?_)
              | (refine InS.nat (by omega) ?_)
              | (refine ElemS.the (by assumption) ?_)
              | (refine ElemS.nat (by omega) fun x hx => ?_)
              | (refine ByteS.nat (by omega) fun x hx => ?_)
              | (refine draw_k (by decide +kernel) (by decide +kernel) ?_)
              | (refine ret_pick [] rfl rfl rfl ⟨?_, rfl⟩; conv => lhs; whnf)
              | (refine he _ _ ?_; clear hn he hr Q') | (refine hn _ ?_; clear hn he hr Q') | (refine hr _ ?_; clear hn he hr Q')))
  refine loop_env (fun k : Nat => [(0,.h 0),(1,.int .i64 (q + 3 * k)),(5,.int .i64 k)]) (fun k => [.row 63 3 ((mkTo markFinding 3 q a k).map encFinding)]) (fun k => k ≤ a.length) (fun k => a.length - k) 0 (by omega) (by refine weak_to rfl rfl ?_ ?_; rw [mkTo_zero]; rfl; exact ⟨rfl, by (conv => rhs; whnf); refine congrArg (D.int _) ?_; omega, rfl, trivial⟩) (fun k hk Q' hn he hr => ?_)
  repeat' (first
           | (with_reducible refine awp_seq_k (fun Q' hn he hr => ?_))
           | (with_reducible refine awp_block_k (fun Q' hn he hr => ?_))
           | (with_reducible refine awp_cond_k ?_)
           | (with_reducible refine awp_region_k ?_)
           | (with_reducible refine awp_draw_k ?_)
           | (with_reducible refine awp_ret_k ?_)
           | (with_reducible refine awp_exit_k ?_)
           | (with_reducible refine awp_skip_k ?_)
           | (with_reducible refine awp_label_k ?_)
           | (with_reducible refine awp_scope_k ?_)
           | (with_reducible refine awp_loop_k ?_)
           | (with_reducible refine hn _ ?_; clear hn he hr Q')
           | (with_reducible refine hr _ ?_; clear hn he hr Q')
           | (with_reducible refine he _ _ ?_; clear hn he hr Q')
           | (conv => whnf
              first
              | (with_reducible refine gtt ?_) | (with_reducible refine gft ?_) | (with_reducible refine gtf ?_) | (with_reducible refine gff ?_) | (with_reducible refine ct ?_) | (with_reducible refine cf ?_) | (with_reducible refine gntt ?_) | (with_reducible refine gnft ?_) | (with_reducible refine gntf ?_) | (with_reducible refine gnff ?_) | (with_reducible refine cgnt ?_) | (with_reducible refine cgnf ?_)
              | ((first | (with_reducible refine gsym (fun hb => ?_) (fun hb => ?_)) | (with_reducible refine gsymf (fun hb => ?_) (fun hb => ?_)) | (with_reducible refine csym (fun hb => ?_) (fun hb => ?_))) <;> (try simp only [decide_eq_true_eq, decide_eq_false_iff_not, Int.natCast_inj, Int.not_le, Int.not_lt, Bool.not_eq_true', Bool.not_eq_false', reduceCtorEq] at hb) <;> (try (exfalso; omega)))
              | (refine LenS.mkTo fun hlen => ?_)
              | (refine InS.mkTo (by omega) ?_)
              | (refine InS.set ?_; refine InS.mkTo (by omega) ?_)
              | (refine InS.set ?_; refine InS.set ?_; refine InS.mkTo (by omega) ?_)
              | (refine ElemS.mkTo (by omega) fun x hx => ?_)
              | (refine ElemS.set (by simp [mkTo_length]; omega) ?_)
              | ((with_reducible refine isCall ?_); first | (refine call_pure (c_markText _ (by omega)) rfl rfl ?_))
              | ((with_reducible refine isRet ?_); first | (refine ret_pick [0] rfl rfl rfl ⟨?_, ?_⟩))
              | (refine LenS.map fun hlen => ?_)
              | (refine LenS.int fun hlen => ?_)
              | (refine ArithS.in64 (by omega) ?_)
              | (refine MakeS.nat rfl (by omega) ?_)
              | (refine InS.fill (by omega) ?_)
              | (refine ElemS.fill (by omega) ?_)
              | (refine InS.nat (by omega) ?_)
              | (refine ElemS.the (by assumption) ?_)
              | (refine ElemS.nat (by omega) fun x hx => ?_)
              | (refine ByteS.nat (by omega) fun x hx => ?_)
              | (refine draw_k (by decide +kernel) (by decide +kernel) ?_)
              | (refine ret_pick [] rfl rfl rfl ⟨?_, rfl⟩; conv => lhs; whnf)
              | (refine he _ _ ?_; clear hn he hr Q') | (refine hn _ ?_; clear hn he hr Q') | (refine hr _ ?_; clear hn he hr Q')))
  · refine ⟨k + 1, by omega, by omega, ?_⟩
    refine weak_to rfl rfl ?_ ⟨rfl, ?_, rfl, trivial⟩
    · rw [← mkTo_succ hx, List.map_set]
      try simp only [List.set_set]
      rfl
    · (conv => rhs; whnf); refine congrArg (D.int _) ?_; omega
  · have h2 : k = a.length := by omega
    subst h2
    rfl
  · have h2 : k = a.length := by omega
    subst h2
    rfl

/-- What is counted under number i. -/
def kindB (i : Nat) (x : TFinding) : Bool := match i with
  | 0 => decide (1 ≤ x.fKind ∧ x.fKind ≤ 6)
  | i + 1 => decide (x.fKind = (i : Int) + 1)
def cnt (a : List TFinding) (k i : Nat) : Int := (((a.take k).countP (kindB i) : Nat) : Int)
theorem cnt_succ {a : List TFinding} {k : Nat} {x : TFinding} (h : a[k]? = some x) (i : Nat) : cnt a (k + 1) i = cnt a k i + if kindB i x = true then 1 else 0 := by
  unfold cnt
  rw [List.take_add_one, h]
  by_cases hx : kindB i x = true <;> simp [hx]
theorem cnt_le (a : List TFinding) (k i : Nat) : 0 ≤ cnt a k i ∧ cnt a k i ≤ k := by
  unfold cnt
  have h1 : (a.take k).countP (kindB i) ≤ (a.take k).length := List.countP_le_length
  simp at h1
  omega
def cnts (a : List TFinding) (k : Nat) : List Int := [cnt a k 0, cnt a k 1, cnt a k 2, cnt a k 3, cnt a k 4, cnt a k 5, cnt a k 6]

theorem c_within (n l h : Int) : FnC Try.prog 40 G0 0 [] [.int .i64 n, .int .i64 l, .int .i64 h] (fun d os => d = .bool (decide (l ≤ n ∧ n ≤ h)) ∧ os = []) := by
  refine fn_rule Try.func40 rfl (by decide +kernel) rfl (fun w0 F0 lent β0 => ?_)
  repeat' (first
           | (with_reducible refine awp_seq_k (fun Q' hn he hr => ?_))
           | (with_reducible refine awp_block_k (fun Q' hn he hr => ?_))
           | (with_reducible refine awp_cond_k ?_)
           | (with_reducible refine awp_region_k ?_)
           | (with_reducible refine awp_draw_k ?_)
           | (with_reducible refine awp_ret_k ?_)
           | (with_reducible refine awp_exit_k ?_)
           | (with_reducible refine awp_skip_k ?_)
           | (with_reducible refine awp_label_k ?_)
           | (with_reducible refine awp_scope_k ?_)
           | (with_reducible refine awp_loop_k ?_)
           | (with_reducible refine hn _ ?_; clear hn he hr Q')
           | (with_reducible refine hr _ ?_; clear hn he hr Q')
           | (with_reducible refine he _ _ ?_; clear hn he hr Q')
           | (conv => whnf
              first
              | (with_reducible refine gtt ?_) | (with_reducible refine gft ?_) | (with_reducible refine gtf ?_) | (with_reducible refine gff ?_) | (with_reducible refine ct ?_) | (with_reducible refine cf ?_) | (with_reducible refine gntt ?_) | (with_reducible refine gnft ?_) | (with_reducible refine gntf ?_) | (with_reducible refine gnff ?_) | (with_reducible refine cgnt ?_) | (with_reducible refine cgnf ?_)
              | ((first | (with_reducible refine gsym (fun hb => ?_) (fun hb => ?_)) | (with_reducible refine gsymf (fun hb => ?_) (fun hb => ?_)) | (with_reducible refine csym (fun hb => ?_) (fun hb => ?_))) <;> (try simp only [decide_eq_true_eq, decide_eq_false_iff_not, Int.natCast_inj, Int.not_le, Int.not_lt, Bool.not_eq_true', Bool.not_eq_false', reduceCtorEq] at hb) <;> (try (exfalso; omega)))
              | (refine LenS.map fun hlen => ?_)
              | (refine LenS.int fun hlen => ?_)
              | (refine ArithS.in64 (by omega) ?_)
              | (refine MakeS.nat rfl (by omega) ?_)
              | (refine InS.fill (by omega) ?_)
              | (refine ElemS.fill (by omega) ?_)
              | (refine InS.nat (by omega) ?_)
              | (refine ElemS.the (by assumption) ?_)
              | (refine ElemS.nat (by omega) fun x hx => ?_)
              | (refine ByteS.nat (by omega) fun x hx => ?_)
              | (refine draw_k (by decide +kernel) (by decide +kernel) ?_)
              | (refine ret_pick [] rfl rfl rfl ⟨?_, rfl⟩; conv => lhs; whnf)
              | (refine he _ _ ?_; clear hn he hr Q') | (refine hn _ ?_; clear hn he hr Q') | (refine hr _ ?_; clear hn he hr Q')))
  all_goals simp
  all_goals omega
theorem c_l00In (n l h : Int) : FnC Try.prog 46 G0 0 [] [.int .i64 n, .int .i64 l, .int .i64 h] (fun d os => d = .bool (decide (l ≤ n ∧ n ≤ h)) ∧ os = []) := by
  refine fn_rule Try.func46 rfl (by decide +kernel) rfl (fun w0 F0 lent β0 => ?_)
  repeat' (first
           | (with_reducible refine awp_seq_k (fun Q' hn he hr => ?_))
           | (with_reducible refine awp_block_k (fun Q' hn he hr => ?_))
           | (with_reducible refine awp_cond_k ?_)
           | (with_reducible refine awp_region_k ?_)
           | (with_reducible refine awp_draw_k ?_)
           | (with_reducible refine awp_ret_k ?_)
           | (with_reducible refine awp_exit_k ?_)
           | (with_reducible refine awp_skip_k ?_)
           | (with_reducible refine awp_label_k ?_)
           | (with_reducible refine awp_scope_k ?_)
           | (with_reducible refine awp_loop_k ?_)
           | (with_reducible refine hn _ ?_; clear hn he hr Q')
           | (with_reducible refine hr _ ?_; clear hn he hr Q')
           | (with_reducible refine he _ _ ?_; clear hn he hr Q')
           | (conv => whnf
              first
              | (with_reducible refine gtt ?_) | (with_reducible refine gft ?_) | (with_reducible refine gtf ?_) | (with_reducible refine gff ?_) | (with_reducible refine ct ?_) | (with_reducible refine cf ?_) | (with_reducible refine gntt ?_) | (with_reducible refine gnft ?_) | (with_reducible refine gntf ?_) | (with_reducible refine gnff ?_) | (with_reducible refine cgnt ?_) | (with_reducible refine cgnf ?_)
              | ((first | (with_reducible refine gsym (fun hb => ?_) (fun hb => ?_)) | (with_reducible refine gsymf (fun hb => ?_) (fun hb => ?_)) | (with_reducible refine csym (fun hb => ?_) (fun hb => ?_))) <;> (try simp only [decide_eq_true_eq, decide_eq_false_iff_not, Int.natCast_inj, Int.not_le, Int.not_lt, Bool.not_eq_true', Bool.not_eq_false', reduceCtorEq] at hb) <;> (try (exfalso; omega)))
              | (refine LenS.map fun hlen => ?_)
              | (refine LenS.int fun hlen => ?_)
              | (refine ArithS.in64 (by omega) ?_)
              | (refine MakeS.nat rfl (by omega) ?_)
              | (refine InS.fill (by omega) ?_)
              | (refine ElemS.fill (by omega) ?_)
              | (refine InS.nat (by omega) ?_)
              | (refine ElemS.the (by assumption) ?_)
              | (refine ElemS.nat (by omega) fun x hx => ?_)
              | (refine ByteS.nat (by omega) fun x hx => ?_)
              | (refine draw_k (by decide +kernel) (by decide +kernel) ?_)
              | (refine ret_pick [] rfl rfl rfl ⟨?_, rfl⟩; conv => lhs; whnf)
              | (refine he _ _ ?_; clear hn he hr Q') | (refine hn _ ?_; clear hn he hr Q') | (refine hr _ ?_; clear hn he hr Q')))
  all_goals simp
  all_goals omega
theorem c_l31Kind (n : Int) : FnC Try.prog 38 G0 0 [] [.int .i64 n] (fun d os => d = .bool (decide (1 ≤ n ∧ n ≤ 6)) ∧ os = []) := by
  refine fn_rule Try.func38 rfl (by decide +kernel) rfl (fun w0 F0 lent β0 => ?_)
  repeat' (first
           | (with_reducible refine awp_seq_k (fun Q' hn he hr => ?_))
           | (with_reducible refine awp_block_k (fun Q' hn he hr => ?_))
           | (with_reducible refine awp_cond_k ?_)
           | (with_reducible refine awp_region_k ?_)
           | (with_reducible refine awp_draw_k ?_)
           | (with_reducible refine awp_ret_k ?_)
           | (with_reducible refine awp_exit_k ?_)
           | (with_reducible refine awp_skip_k ?_)
           | (with_reducible refine awp_label_k ?_)
           | (with_reducible refine awp_scope_k ?_)
           | (with_reducible refine awp_loop_k ?_)
           | (with_reducible refine hn _ ?_; clear hn he hr Q')
           | (with_reducible refine hr _ ?_; clear hn he hr Q')
           | (with_reducible refine he _ _ ?_; clear hn he hr Q')
           | (conv => whnf
              first
              | (with_reducible refine gtt ?_) | (with_reducible refine gft ?_) | (with_reducible refine gtf ?_) | (with_reducible refine gff ?_) | (with_reducible refine ct ?_) | (with_reducible refine cf ?_) | (with_reducible refine gntt ?_) | (with_reducible refine gnft ?_) | (with_reducible refine gntf ?_) | (with_reducible refine gnff ?_) | (with_reducible refine cgnt ?_) | (with_reducible refine cgnf ?_)
              | ((first | (with_reducible refine gsym (fun hb => ?_) (fun hb => ?_)) | (with_reducible refine gsymf (fun hb => ?_) (fun hb => ?_)) | (with_reducible refine csym (fun hb => ?_) (fun hb => ?_))) <;> (try simp only [decide_eq_true_eq, decide_eq_false_iff_not, Int.natCast_inj, Int.not_le, Int.not_lt, Bool.not_eq_true', Bool.not_eq_false', reduceCtorEq] at hb) <;> (try (exfalso; omega)))
              | ((with_reducible refine isCall ?_); first | (refine call_pure (c_l00In _ _ _) rfl rfl ?_))
              | (refine LenS.map fun hlen => ?_)
              | (refine LenS.int fun hlen => ?_)
              | (refine ArithS.in64 (by omega) ?_)
              | (refine MakeS.nat rfl (by omega) ?_)
              | (refine InS.fill (by omega) ?_)
              | (refine ElemS.fill (by omega) ?_)
              | (refine InS.nat (by omega) ?_)
              | (refine ElemS.the (by assumption) ?_)
              | (refine ElemS.nat (by omega) fun x hx => ?_)
              | (refine ByteS.nat (by omega) fun x hx => ?_)
              | (refine draw_k (by decide +kernel) (by decide +kernel) ?_)
              | (refine ret_pick [] rfl rfl rfl ⟨?_, rfl⟩; conv => lhs; whnf)
              | (refine he _ _ ?_; clear hn he hr Q') | (refine hn _ ?_; clear hn he hr Q') | (refine hr _ ?_; clear hn he hr Q')))
theorem c_impl_CountFindings (a : List TFinding) : FnC Try.prog 20 G0 0 [] [.sl 3 (a.map encFinding)] (fun d os => d = .h 0 ∧ os = [.row 2 1 ((cnts a a.length).map encI)]) := by
  refine fn_rule Try.func20 rfl (by decide +kernel) rfl (fun w0 F0 lent β0 => ?_)
  repeat' (first
           | (with_reducible refine awp_seq_k (fun Q' hn he hr => ?_))
           | (with_reducible refine awp_block_k (fun Q' hn he hr => ?_))
           | (with_reducible refine awp_cond_k ?_)
           | (with_reducible refine awp_region_k ?_)
           | (with_reducible refine awp_draw_k ?_)
           | (with_reducible refine awp_ret_k ?_)
           | (with_reducible refine awp_exit_k ?_)
           | (with_reducible refine awp_skip_k ?_)
           | (with_reducible refine awp_label_k ?_)
           | (with_reducible refine awp_scope_k ?_)
           | (with_reducible refine awp_loop_k ?_)
           | (with_reducible refine hn _ ?_; clear hn he hr Q')
           | (with_reducible refine hr _ ?_; clear hn he hr Q')
           | (with_reducible refine he _ _ ?_; clear hn he hr Q')
           | (conv => whnf
              first
              | (with_reducible refine gtt ?_) | (with_reducible refine gft ?_) | (with_reducible refine gtf ?_) | (with_reducible refine gff ?_) | (with_reducible refine ct ?_) | (with_reducible refine cf ?_) | (with_reducible refine gntt ?_) | (with_reducible refine gnft ?_) | (with_reducible refine gntf ?_) | (with_reducible refine gnff ?_) | (with_reducible refine cgnt ?_) | (with_reducible refine cgnf ?_)
              | ((first | (with_reducible refine gsym (fun hb => ?_) (fun hb => ?_)) | (with_reducible refine gsymf (fun hb => ?_) (fun hb => ?_)) | (with_reducible refine csym (fun hb => ?_) (fun hb => ?_))) <;> (try simp only [decide_eq_true_eq, decide_eq_false_iff_not, Int.natCast_inj, Int.not_le, Int.not_lt, Bool.not_eq_true', Bool.not_eq_false', reduceCtorEq] at hb) <;> (try (exfalso; omega)))
              | (refine MakeS.lit 7 rfl rfl rfl rfl ?_)
              | (refine LenS.map fun hlen => ?_)
              | (refine LenS.int fun hlen => ?_)
              | (refine ArithS.in64 (by omega) ?_)
              | (refine MakeS.nat rfl (by omega) ?_)
              | (refine InS.fill (by omega) ?_)
              | (refine ElemS.fill (by omega) ?_)
              | (refine InS.nat (by omega) ?_)
              | (refine ElemS.the (by assumption) ?_)
              | (refine ElemS.nat (by omega) fun x hx => ?_)
              | (refine ByteS.nat (by omega) fun x hx => ?_)
              | (refine draw_k (by decide +kernel) (by decide +kernel) ?_)
              | (refine ret_pick [] rfl rfl rfl ⟨?_, rfl⟩; conv => lhs; whnf)
              | (refine he _ _ ?_; clear hn he hr Q') | (refine hn _ ?_; clear hn he hr Q') | (refine hr _ ?_; clear hn he hr Q')))
  refine loop_env (fun k : Nat => [(3,.h 0),(7,.sl 3 (a.map encFinding)),(8,.int .i64 a.length),(9,.int .i64 k)]) (fun k => [.row 2 1 ((cnts a k).map encI)]) (fun k => k ≤ a.length) (fun k => a.length - k) 0 (by omega) (by refine weak_to rfl rfl ?_ ?_; rfl; exact ⟨rfl, rfl, rfl, rfl, trivial⟩) (fun k hk Q' hn he hr => ?_)
  repeat' (first
           | (with_reducible refine awp_seq_k (fun Q' hn he hr => ?_))
           | (with_reducible refine awp_block_k (fun Q' hn he hr => ?_))
           | (with_reducible refine awp_cond_k ?_)
           | (with_reducible refine awp_region_k ?_)
           | (with_reducible refine awp_draw_k ?_)
           | (with_reducible refine awp_ret_k ?_)
           | (with_reducible refine awp_exit_k ?_)
           | (with_reducible refine awp_skip_k ?_)
           | (with_reducible refine awp_label_k ?_)
           | (with_reducible refine awp_scope_k ?_)
           | (with_reducible refine awp_loop_k ?_)
           | (with_reducible refine hn _ ?_; clear hn he hr Q')
           | (with_reducible refine hr _ ?_; clear hn he hr Q')
           | (with_reducible refine he _ _ ?_; clear hn he hr Q')
           | (conv => whnf
              first
              | (with_reducible refine gtt ?_) | (with_reducible refine gft ?_) | (with_reducible refine gtf ?_) | (with_reducible refine gff ?_) | (with_reducible refine ct ?_) | (with_reducible refine cf ?_) | (with_reducible refine gntt ?_) | (with_reducible refine gnft ?_) | (with_reducible refine gntf ?_) | (with_reducible refine gnff ?_) | (with_reducible refine cgnt ?_) | (with_reducible refine cgnf ?_)
              | ((first | (with_reducible refine gsym (fun hb => ?_) (fun hb => ?_)) | (with_reducible refine gsymf (fun hb => ?_) (fun hb => ?_)) | (with_reducible refine csym (fun hb => ?_) (fun hb => ?_))) <;> (try simp only [decide_eq_true_eq, decide_eq_false_iff_not, Int.natCast_inj, Int.not_le, Int.not_lt, Bool.not_eq_true', Bool.not_eq_false', reduceCtorEq] at hb) <;> (try (exfalso; omega)))
              | ((with_reducible refine isCall ?_); first | (refine call_pure (c_within _ _ _) rfl rfl ?_))
              | ((with_reducible refine isRet ?_); first | (refine ret_pick [0] rfl rfl rfl ⟨rfl, ?_⟩))
              | (refine LenS.map fun hlen => ?_)
              | (refine LenS.int fun hlen => ?_)
              | (refine ArithS.in64 (by omega) ?_)
              | (refine MakeS.nat rfl (by omega) ?_)
              | (refine InS.fill (by omega) ?_)
              | (refine ElemS.fill (by omega) ?_)
              | (refine InS.nat (by omega) ?_)
              | (refine ElemS.the (by assumption) ?_)
              | (refine ElemS.nat (by omega) fun x hx => ?_)
              | (refine ByteS.nat (by omega) fun x hx => ?_)
              | (refine draw_k (by decide +kernel) (by decide +kernel) ?_)
              | (refine ret_pick [] rfl rfl rfl ⟨?_, rfl⟩; conv => lhs; whnf)
              | (refine he _ _ ?_; clear hn he hr Q') | (refine hn _ ?_; clear hn he hr Q') | (refine hr _ ?_; clear hn he hr Q')))
  · obtain ⟨kd, who, what⟩ := x
    have h6 : kd = 1 ∨ kd = 2 ∨ kd = 3 ∨ kd = 4 ∨ kd = 5 ∨ kd = 6 := by have hb2 : 1 ≤ kd ∧ kd ≤ 6 := hb; omega
    have g0 := cnt_le a k 0
    have g1 := cnt_le a k 1
    have g2 := cnt_le a k 2
    have g3 := cnt_le a k 3
    have g4 := cnt_le a k 4
    have g5 := cnt_le a k 5
    have g6 := cnt_le a k 6
    have hs := cnt_succ hx
    rcases h6 with rfl | rfl | rfl | rfl | rfl | rfl
    all_goals
      repeat' (first
               | (with_reducible refine awp_seq_k (fun Q' hn he hr => ?_))
               | (with_reducible refine awp_block_k (fun Q' hn he hr => ?_))
               | (with_reducible refine awp_cond_k ?_)
               | (with_reducible refine awp_region_k ?_)
               | (with_reducible refine awp_draw_k ?_)
               | (with_reducible refine awp_ret_k ?_)
               | (with_reducible refine awp_exit_k ?_)
               | (with_reducible refine awp_skip_k ?_)
               | (with_reducible refine awp_label_k ?_)
               | (with_reducible refine awp_scope_k ?_)
               | (with_reducible refine awp_loop_k ?_)
               | (with_reducible refine hn _ ?_; clear hn he hr Q')
               | (with_reducible refine hr _ ?_; clear hn he hr Q')
               | (with_reducible refine he _ _ ?_; clear hn he hr Q')
               | (conv => whnf
                  first
                  | (with_reducible refine gtt ?_) | (with_reducible refine gft ?_) | (with_reducible refine gtf ?_) | (with_reducible refine gff ?_) | (with_reducible refine ct ?_) | (with_reducible refine cf ?_) | (with_reducible refine gntt ?_) | (with_reducible refine gnft ?_) | (with_reducible refine gntf ?_) | (with_reducible refine gnff ?_) | (with_reducible refine cgnt ?_) | (with_reducible refine cgnf ?_)
                  | ((first | (with_reducible refine gsym (fun hb => ?_) (fun hb => ?_)) | (with_reducible refine gsymf (fun hb => ?_) (fun hb => ?_)) | (with_reducible refine csym (fun hb => ?_) (fun hb => ?_))) <;> (try simp only [decide_eq_true_eq, decide_eq_false_iff_not, Int.natCast_inj, Int.not_le, Int.not_lt, Bool.not_eq_true', Bool.not_eq_false', reduceCtorEq] at hb) <;> (try (exfalso; omega)))
                  | (refine InS.lit 0 rfl rfl ?_)
                  | (refine ElemS.lit 0 rfl rfl ?_)
                  | (refine InS.lit 1 rfl rfl ?_)
                  | (refine ElemS.lit 1 rfl rfl ?_)
                  | (refine InS.lit 2 rfl rfl ?_)
                  | (refine ElemS.lit 2 rfl rfl ?_)
                  | (refine InS.lit 3 rfl rfl ?_)
                  | (refine ElemS.lit 3 rfl rfl ?_)
                  | (refine InS.lit 4 rfl rfl ?_)
                  | (refine ElemS.lit 4 rfl rfl ?_)
                  | (refine InS.lit 5 rfl rfl ?_)
                  | (refine ElemS.lit 5 rfl rfl ?_)
                  | (refine InS.lit 6 rfl rfl ?_)
                  | (refine ElemS.lit 6 rfl rfl ?_)
                  | (refine LenS.map fun hlen => ?_)
                  | (refine LenS.int fun hlen => ?_)
                  | (refine ArithS.in64 (by omega) ?_)
                  | (refine MakeS.nat rfl (by omega) ?_)
                  | (refine InS.fill (by omega) ?_)
                  | (refine ElemS.fill (by omega) ?_)
                  | (refine InS.nat (by omega) ?_)
                  | (refine ElemS.the (by assumption) ?_)
                  | (refine ElemS.nat (by omega) fun x hx => ?_)
                  | (refine ByteS.nat (by omega) fun x hx => ?_)
                  | (refine draw_k (by decide +kernel) (by decide +kernel) ?_)
                  | (refine ret_pick [] rfl rfl rfl ⟨?_, rfl⟩; conv => lhs; whnf)
                  | (refine he _ _ ?_; clear hn he hr Q') | (refine hn _ ?_; clear hn he hr Q') | (refine hr _ ?_; clear hn he hr Q')))
    all_goals
      refine ⟨k + 1, by omega, by omega, ?_⟩
      refine weak_to rfl rfl ?_ ⟨rfl, rfl, rfl, rfl, trivial⟩
      simp only [cnts, hs, kindB]
      simp
      rfl
  · refine ⟨k + 1, by omega, by omega, ?_⟩
    refine weak_to rfl rfl ?_ ⟨rfl, rfl, rfl, rfl, trivial⟩
    have hs : ∀ i, i ≤ 6 → cnt a (k + 1) i = cnt a k i := fun i hi => by
      rw [cnt_succ hx]
      have : kindB i x = false := by
        match i, hi with
        | 0, _ => simpa [kindB] using hb
        | i + 1, _ =>
          simp only [kindB, decide_eq_false_iff_not]
          intro h
          exact hb (by omega)
      simp [this]
    simp only [cnts, hs 0 (by decide), hs 1 (by decide), hs 2 (by decide), hs 3 (by decide), hs 4 (by decide), hs 5 (by decide), hs 6 (by decide)]
    rfl
  · have h2 : k = a.length := by omega
    subst h2
    rfl
theorem c_spec_CountFindings (a : List TFinding) : FnC Try.prog 18 G0 0 [] [.sl 3 (a.map encFinding)] (fun d os => d = .h 0 ∧ os = [.row 2 1 ((cnts a a.length).map encI)]) := by
  refine fn_rule Try.func18 rfl (by decide +kernel) rfl (fun w0 F0 lent β0 => ?_)
  repeat' (first
           | (with_reducible refine awp_seq_k (fun Q' hn he hr => ?_))
           | (with_reducible refine awp_block_k (fun Q' hn he hr => ?_))
           | (with_reducible refine awp_cond_k ?_)
           | (with_reducible refine awp_region_k ?_)
           | (with_reducible refine awp_draw_k ?_)
           | (with_reducible refine awp_ret_k ?_)
           | (with_reducible refine awp_exit_k ?_)
           | (with_reducible refine awp_skip_k ?_)
           | (with_reducible refine awp_label_k ?_)
           | (with_reducible refine awp_scope_k ?_)
           | (with_reducible refine awp_loop_k ?_)
           | (with_reducible refine hn _ ?_; clear hn he hr Q')
           | (with_reducible refine hr _ ?_; clear hn he hr Q')
           | (with_reducible refine he _ _ ?_; clear hn he hr Q')
           | (conv => whnf
              first
              | (with_reducible refine gtt ?_) | (with_reducible refine gft ?_) | (with_reducible refine gtf ?_) | (with_reducible refine gff ?_) | (with_reducible refine ct ?_) | (with_reducible refine cf ?_) | (with_reducible refine gntt ?_) | (with_reducible refine gnft ?_) | (with_reducible refine gntf ?_) | (with_reducible refine gnff ?_) | (with_reducible refine cgnt ?_) | (with_reducible refine cgnf ?_)
              | ((first | (with_reducible refine gsym (fun hb => ?_) (fun hb => ?_)) | (with_reducible refine gsymf (fun hb => ?_) (fun hb => ?_)) | (with_reducible refine csym (fun hb => ?_) (fun hb => ?_))) <;> (try simp only [decide_eq_true_eq, decide_eq_false_iff_not, Int.natCast_inj, Int.not_le, Int.not_lt, Bool.not_eq_true', Bool.not_eq_false', reduceCtorEq] at hb) <;> (try (exfalso; omega)))
              | (refine MakeS.lit 7 rfl rfl rfl rfl ?_)
              | (refine LenS.map fun hlen => ?_)
              | (refine LenS.int fun hlen => ?_)
              | (refine ArithS.in64 (by omega) ?_)
              | (refine MakeS.nat rfl (by omega) ?_)
              | (refine InS.fill (by omega) ?_)
              | (refine ElemS.fill (by omega) ?_)
              | (refine InS.nat (by omega) ?_)
              | (refine ElemS.the (by assumption) ?_)
              | (refine ElemS.nat (by omega) fun x hx => ?_)
              | (refine ByteS.nat (by omega) fun x hx => ?_)
              | (refine draw_k (by decide +kernel) (by decide +kernel) ?_)
              | (refine ret_pick [] rfl rfl rfl ⟨?_, rfl⟩; conv => lhs; whnf)
              | (refine he _ _ ?_; clear hn he hr Q') | (refine hn _ ?_; clear hn he hr Q') | (refine hr _ ?_; clear hn he hr Q')))
  refine loop_env (fun k : Nat => [(0,.sl 3 (a.map encFinding)),(3,.h 0),(4,.int .i64 k)]) (fun k => [.row 2 1 ((cnts a k).map encI)]) (fun k => k ≤ a.length) (fun k => a.length - k) 0 (by omega) (by refine weak_to rfl rfl ?_ ?_; rfl; exact ⟨rfl, rfl, rfl, trivial⟩) (fun k hk Q' hn he hr => ?_)
  repeat' (first
           | (with_reducible refine awp_seq_k (fun Q' hn he hr => ?_))
           | (with_reducible refine awp_block_k (fun Q' hn he hr => ?_))
           | (with_reducible refine awp_cond_k ?_)
           | (with_reducible refine awp_region_k ?_)
           | (with_reducible refine awp_draw_k ?_)
           | (with_reducible refine awp_ret_k ?_)
           | (with_reducible refine awp_exit_k ?_)
           | (with_reducible refine awp_skip_k ?_)
           | (with_reducible refine awp_label_k ?_)
           | (with_reducible refine awp_scope_k ?_)
           | (with_reducible refine awp_loop_k ?_)
           | (with_reducible refine hn _ ?_; clear hn he hr Q')
           | (with_reducible refine hr _ ?_; clear hn he hr Q')
           | (with_reducible refine he _ _ ?_; clear hn he hr Q')
           | (conv => whnf
              first
              | (with_reducible refine gtt ?_) | (with_reducible refine gft ?_) | (with_reducible refine gtf ?_) | (with_reducible refine gff ?_) | (with_reducible refine ct ?_) | (with_reducible refine cf ?_) | (with_reducible refine gntt ?_) | (with_reducible refine gnft ?_) | (with_reducible refine gntf ?_) | (with_reducible refine gnff ?_) | (with_reducible refine cgnt ?_) | (with_reducible refine cgnf ?_)
              | ((first | (with_reducible refine gsym (fun hb => ?_) (fun hb => ?_)) | (with_reducible refine gsymf (fun hb => ?_) (fun hb => ?_)) | (with_reducible refine csym (fun hb => ?_) (fun hb => ?_))) <;> (try simp only [decide_eq_true_eq, decide_eq_false_iff_not, Int.natCast_inj, Int.not_le, Int.not_lt, Bool.not_eq_true', Bool.not_eq_false', reduceCtorEq] at hb) <;> (try (exfalso; omega)))
              | ((with_reducible refine isCall ?_); first | (refine call_pure (c_l31Kind _) rfl rfl ?_))
              | ((with_reducible refine isRet ?_); first | (refine ret_pick [0] rfl rfl rfl ⟨rfl, ?_⟩))
              | (refine LenS.map fun hlen => ?_)
              | (refine LenS.int fun hlen => ?_)
              | (refine ArithS.in64 (by omega) ?_)
              | (refine MakeS.nat rfl (by omega) ?_)
              | (refine InS.fill (by omega) ?_)
              | (refine ElemS.fill (by omega) ?_)
              | (refine InS.nat (by omega) ?_)
              | (refine ElemS.the (by assumption) ?_)
              | (refine ElemS.nat (by omega) fun x hx => ?_)
              | (refine ByteS.nat (by omega) fun x hx => ?_)
              | (refine draw_k (by decide +kernel) (by decide +kernel) ?_)
              | (refine ret_pick [] rfl rfl rfl ⟨?_, rfl⟩; conv => lhs; whnf)
              | (refine he _ _ ?_; clear hn he hr Q') | (refine hn _ ?_; clear hn he hr Q') | (refine hr _ ?_; clear hn he hr Q')))
  · obtain ⟨kd, who, what⟩ := x
    have h6 : kd = 1 ∨ kd = 2 ∨ kd = 3 ∨ kd = 4 ∨ kd = 5 ∨ kd = 6 := by have hb2 : 1 ≤ kd ∧ kd ≤ 6 := hb; omega
    have g0 := cnt_le a k 0
    have g1 := cnt_le a k 1
    have g2 := cnt_le a k 2
    have g3 := cnt_le a k 3
    have g4 := cnt_le a k 4
    have g5 := cnt_le a k 5
    have g6 := cnt_le a k 6
    have hs := cnt_succ hx
    rcases h6 with rfl | rfl | rfl | rfl | rfl | rfl
    all_goals
      repeat' (first
               | (with_reducible refine awp_seq_k (fun Q' hn he hr => ?_))
               | (with_reducible refine awp_block_k (fun Q' hn he hr => ?_))
               | (with_reducible refine awp_cond_k ?_)
               | (with_reducible refine awp_region_k ?_)
               | (with_reducible refine awp_draw_k ?_)
               | (with_reducible refine awp_ret_k ?_)
               | (with_reducible refine awp_exit_k ?_)
               | (with_reducible refine awp_skip_k ?_)
               | (with_reducible refine awp_label_k ?_)
               | (with_reducible refine awp_scope_k ?_)
               | (with_reducible refine awp_loop_k ?_)
               | (with_reducible refine hn _ ?_; clear hn he hr Q')
               | (with_reducible refine hr _ ?_; clear hn he hr Q')
               | (with_reducible refine he _ _ ?_; clear hn he hr Q')
               | (conv => whnf
                  first
                  | (with_reducible refine gtt ?_) | (with_reducible refine gft ?_) | (with_reducible refine gtf ?_) | (with_reducible refine gff ?_) | (with_reducible refine ct ?_) | (with_reducible refine cf ?_) | (with_reducible refine gntt ?_) | (with_reducible refine gnft ?_) | (with_reducible refine gntf ?_) | (with_reducible refine gnff ?_) | (with_reducible refine cgnt ?_) | (with_reducible refine cgnf ?_)
                  | ((first | (with_reducible refine gsym (fun hb => ?_) (fun hb => ?_)) | (with_reducible refine gsymf (fun hb => ?_) (fun hb => ?_)) | (with_reducible refine csym (fun hb => ?_) (fun hb => ?_))) <;> (try simp only [decide_eq_true_eq, decide_eq_false_iff_not, Int.natCast_inj, Int.not_le, Int.not_lt, Bool.not_eq_true', Bool.not_eq_false', reduceCtorEq] at hb) <;> (try (exfalso; omega)))
                  | (refine InS.lit 0 rfl rfl ?_)
                  | (refine ElemS.lit 0 rfl rfl ?_)
                  | (refine InS.lit 1 rfl rfl ?_)
                  | (refine ElemS.lit 1 rfl rfl ?_)
                  | (refine InS.lit 2 rfl rfl ?_)
                  | (refine ElemS.lit 2 rfl rfl ?_)
                  | (refine InS.lit 3 rfl rfl ?_)
                  | (refine ElemS.lit 3 rfl rfl ?_)
                  | (refine InS.lit 4 rfl rfl ?_)
                  | (refine ElemS.lit 4 rfl rfl ?_)
                  | (refine InS.lit 5 rfl rfl ?_)
                  | (refine ElemS.lit 5 rfl rfl ?_)
                  | (refine InS.lit 6 rfl rfl ?_)
                  | (refine ElemS.lit 6 rfl rfl ?_)
                  | (refine LenS.map fun hlen => ?_)
                  | (refine LenS.int fun hlen => ?_)
                  | (refine ArithS.in64 (by omega) ?_)
                  | (refine MakeS.nat rfl (by omega) ?_)
                  | (refine InS.fill (by omega) ?_)
                  | (refine ElemS.fill (by omega) ?_)
                  | (refine InS.nat (by omega) ?_)
                  | (refine ElemS.the (by assumption) ?_)
                  | (refine ElemS.nat (by omega) fun x hx => ?_)
                  | (refine ByteS.nat (by omega) fun x hx => ?_)
                  | (refine draw_k (by decide +kernel) (by decide +kernel) ?_)
                  | (refine ret_pick [] rfl rfl rfl ⟨?_, rfl⟩; conv => lhs; whnf)
                  | (refine he _ _ ?_; clear hn he hr Q') | (refine hn _ ?_; clear hn he hr Q') | (refine hr _ ?_; clear hn he hr Q')))
    all_goals
      refine ⟨k + 1, by omega, by omega, ?_⟩
      refine weak_to rfl rfl ?_ ⟨rfl, rfl, rfl, trivial⟩
      simp only [cnts, hs, kindB]
      simp
      rfl
  · refine ⟨k + 1, by omega, by omega, ?_⟩
    refine weak_to rfl rfl ?_ ⟨rfl, rfl, rfl, trivial⟩
    have hs : ∀ i, i ≤ 6 → cnt a (k + 1) i = cnt a k i := fun i hi => by
      rw [cnt_succ hx]
      have : kindB i x = false := by
        match i, hi with
        | 0, _ => simpa [kindB] using hb
        | i + 1, _ =>
          simp only [kindB, decide_eq_false_iff_not]
          intro h
          exact hb (by omega)
      simp [this]
    simp only [cnts, hs 0 (by decide), hs 1 (by decide), hs 2 (by decide), hs 3 (by decide), hs 4 (by decide), hs 5 (by decide), hs 6 (by decide)]
    rfl
  · have h2 : k = a.length := by omega
    subst h2
    rfl
def okFinding (x : TFinding) : Prop := (fun n : Int => (Lit.int .i64 n).wf = true) x.fKind ∧ (fun l : List UInt8 => l.length ≤ maxLen) x.fWho ∧ (fun l : List UInt8 => l.length ≤ maxLen) x.fWhat
set_option maxHeartbeats 4000000 in
theorem c_FnExactCountFindings (a : List TFinding) (_ : ∀ x ∈ a, okFinding x) : FnC Try.prog 5 G0 0 [] [.sl 3 (a.map encFinding)] (fun d os => d = .bool true ∧ os = []) := by
  have ha := szL_len TFinding.sz a
  have hl : (cnts a a.length).length = 7 := rfl
  refine fn_rule Try.func5 rfl (by decide +kernel) rfl (fun w0 F0 lent β0 => ?_)
  repeat' (first
           | (with_reducible refine awp_seq_k (fun Q' hn he hr => ?_))
           | (with_reducible refine awp_block_k (fun Q' hn he hr => ?_))
           | (with_reducible refine awp_cond_k ?_)
           | (with_reducible refine awp_region_k ?_)
           | (with_reducible refine awp_draw_k ?_)
           | (with_reducible refine awp_ret_k ?_)
           | (with_reducible refine awp_exit_k ?_)
           | (with_reducible refine awp_skip_k ?_)
           | (with_reducible refine awp_label_k ?_)
           | (with_reducible refine awp_scope_k ?_)
           | (with_reducible refine awp_loop_k ?_)
           | (with_reducible refine hn _ ?_; clear hn he hr Q')
           | (with_reducible refine hr _ ?_; clear hn he hr Q')
           | (with_reducible refine he _ _ ?_; clear hn he hr Q')
           | (conv => whnf
              first
              | (with_reducible refine gtt ?_) | (with_reducible refine gft ?_) | (with_reducible refine gtf ?_) | (with_reducible refine gff ?_) | (with_reducible refine ct ?_) | (with_reducible refine cf ?_) | (with_reducible refine gntt ?_) | (with_reducible refine gnft ?_) | (with_reducible refine gntf ?_) | (with_reducible refine gnff ?_) | (with_reducible refine cgnt ?_) | (with_reducible refine cgnf ?_)
              | ((first | (with_reducible refine gsym (fun hb => ?_) (fun hb => ?_)) | (with_reducible refine gsymf (fun hb => ?_) (fun hb => ?_)) | (with_reducible refine csym (fun hb => ?_) (fun hb => ?_))) <;> (try simp only [decide_eq_true_eq, decide_eq_false_iff_not, Int.natCast_inj, Int.not_le, Int.not_lt, Bool.not_eq_true', Bool.not_eq_false', reduceCtorEq] at hb) <;> (try (exfalso; omega)))
              | ((with_reducible refine isCall ?_); first | (refine call_pure (c_szFindingS _ _ (by omega) (by omega)) rfl rfl ?_) | (refine call_new (c_toFindingS a (by omega)) rfl (by first | exact (rfl : _ = 0) | exact (rfl : _ = 1) | exact (rfl : _ = 2) | exact (rfl : _ = 3) | exact (rfl : _ = 4) | exact (rfl : _ = 5) | exact (rfl : _ = 6) | exact (rfl : _ = 7)) ?_) | (refine call_new_look (c_spec_CountFindings a) (FlatO.map fun _ => rfl) (by first | exact (rfl : _ = 0) | exact (rfl : _ = 1) | exact (rfl : _ = 2) | exact (rfl : _ = 3) | exact (rfl : _ = 4) | exact (rfl : _ = 5) | exact (rfl : _ = 6) | exact (rfl : _ = 7)) ?_) | (refine call_new_look (c_impl_CountFindings a) (FlatO.map fun _ => rfl) (by first | exact (rfl : _ = 0) | exact (rfl : _ = 1) | exact (rfl : _ = 2) | exact (rfl : _ = 3) | exact (rfl : _ = 4) | exact (rfl : _ = 5) | exact (rfl : _ = 6) | exact (rfl : _ = 7)) ?_) | (refine call_look (c_eqInt64S _ _) rfl ?_) | (refine call_look (c_eqFindingS _ _) rfl ?_) | (refine call_mark 0 rfl (c_markFindingS _ _ (by omega)) rfl ?_) | (refine call_mark 1 rfl (c_markFindingS _ _ (by omega)) rfl ?_) | (refine call_mark 2 rfl (c_markFindingS _ _ (by omega)) rfl ?_) | (refine call_mark 3 rfl (c_markFindingS _ _ (by omega)) rfl ?_) | (refine call_mark 4 rfl (c_markFindingS _ _ (by omega)) rfl ?_) | (refine call_mark 5 rfl (c_markFindingS _ _ (by omega)) rfl ?_) | (refine call_mark 0 rfl (c_markInt64S _ _ (by omega)) rfl ?_) | (refine call_mark 1 rfl (c_markInt64S _ _ (by omega)) rfl ?_) | (refine call_mark 2 rfl (c_markInt64S _ _ (by omega)) rfl ?_) | (refine call_mark 3 rfl (c_markInt64S _ _ (by omega)) rfl ?_) | (refine call_mark 4 rfl (c_markInt64S _ _ (by omega)) rfl ?_) | (refine call_mark 5 rfl (c_markInt64S _ _ (by omega)) rfl ?_) | (refine call_look (c_heldInt64S _ _ (by omega)) rfl ?_))
              | (refine LenS.map fun hlen => ?_)
              | (refine LenS.int fun hlen => ?_)
              | (refine ArithS.in64 (by omega) ?_)
              | (refine MakeS.nat rfl (by omega) ?_)
              | (refine InS.fill (by omega) ?_)
              | (refine ElemS.fill (by omega) ?_)
              | (refine InS.nat (by omega) ?_)
              | (refine ElemS.the (by assumption) ?_)
              | (refine ElemS.nat (by omega) fun x hx => ?_)
              | (refine ByteS.nat (by omega) fun x hx => ?_)
              | (refine draw_k (by decide +kernel) (by decide +kernel) ?_)
              | (refine ret_pick [] rfl rfl rfl ⟨?_, rfl⟩; conv => lhs; whnf)
              | (refine he _ _ ?_; clear hn he hr Q') | (refine hn _ ?_; clear hn he hr Q') | (refine hr _ ?_; clear hn he hr Q')))
  all_goals (exfalso; simp [eqL_refl eqI_refl, eqL_refl eqTFinding_refl] at hb)
end Go.Eng

namespace Go.Proofs.Ytikdfigokjhdgaa
open Go Go.ChangeShapes Go.WideShapes Go.ChangeAt Go.RowKit Go.Eng

theorem own : ownKnob Try.prog.godebug = none := by kernel_rfl
theorem laidOut : laidOutB Try.prog = true := by kernel_rfl

theorem opens_Int64 : Opens Try.prog 2 (fun n : Int => [.int .i64 n]) (fun n : Int => (Lit.int .i64 n).wf = true) := Opens.int Try.underlying2
theorem opens_String : Opens Try.prog 9 (fun l : List UInt8 => [.str l]) (fun l : List UInt8 => l.length ≤ maxLen) := Opens.string Try.underlying9
theorem opens_Finding : Opens Try.prog 61 encFinding okFinding :=
  Opens.turn (fun x : Int × List UInt8 × List UInt8 × Unit => TFinding.mk x.1 x.2.1 x.2.2.1) (fun _ => rfl) (fun x h => ⟨h.1, h.2.1, h.2.2.1⟩)
    (Opens.struct 3 Try.underlying61 (by kernel_rfl) (fun _ => rfl) (OpensF.cons (k := 1) rfl (fun _ => rfl) opens_Int64 (OpensF.cons (k := 1) rfl (fun _ => rfl) opens_String (OpensF.cons (k := 1) rfl (fun _ => rfl) opens_String OpensF.nil))))
theorem opens_FindingS : Opens Try.prog 34 (fun l : List (TFinding) => [.sl 3 (l.map encFinding)]) (fun l : List (TFinding) => ∀ x ∈ l, okFinding x) := Opens.slice 3 Try.underlying34 (by kernel_rfl) (by decide) opens_Finding

set_option maxRecDepth 100000 in
theorem lifted (os : Os) (started : os.Started) (H : Type) (enc : TypeId × Value → H) :
    ReturnsInHanded {} Try.checked os 5 .any (Rows.fnExactCountFindingsSpec.pre6 enc Try.prog Try.f5 Rows.fnExactCountFindingsRow.domain false) (Rows.fnExactCountFindingsSpec.post enc Try.prog Try.f5 false true false false) := by
  refine returnsInHanded_of_change (C := Try.checked) own started (by kernel_rfl) Try.func5
    (ChangeSpec.witness6 (enc := enc) (C := Try.checked) false ⟨#[], #[.slice none 0 0], []⟩ 8 (by kernel_rfl) (by kernel_rfl) (by kernel_rfl) (by kernel_rfl)) ?_
  intro W base args ds gs before hval0 hW hcnd _
  have hval : ∀ (j : Nat) t v, Try.f5.params[j]? = some t → args[j]? = some v → Value.okWide Try.prog W .any base t v := hval0
  have hW' := hW
  obtain ⟨p, q, hA0, hV, rfl, hfz, hnd⟩ := hW
  have hA : DataW.TrodAll enc Try.prog W 0 (fun _ => true) true Try.f5.params.toList args.toList ds p := hA0
  rw [Try.params5] at hA hval
  obtain ⟨v0, vs0, d0, ds0, p0, q0, hargs, rfl, rfl, h0, r0⟩ := trodAll_cons hA
  obtain ⟨rfl, rfl, rfl⟩ := trodAll_nil r0
  obtain rfl : args = #[v0] := by cases args; simp_all
  obtain ⟨rfl, rfl⟩ := trodVars_none hV
  have lt0 : ∀ x ∈ p0, x.block < W.heap.size := by obtain ⟨m, hm⟩ := h0; exact DataW.trod_lt m _ _ _ hm
  obtain ⟨a0, len0, cap0, rfl⟩ := okWide_slice Try.underlying34 (hval 0 34 v0 rfl rfl)
  obtain ⟨x0, k0, w0⟩ := opens_FindingS.one (by simp [Value.cells]) h0
  clear hA0 hval0
  refine ((c_FnExactCountFindings x0 k0).truth (w := W) (vs := [_]) rfl (fun i hi => ?_)).mono fun e W' ⟨he, bel⟩ => ?_
  · match i, hi with
    | 0, _ => exact w0
  subst he
  exact ⟨_, rfl, _, _, _, [], _, [], hW', trodAll_mk1 (shut_bool Try.underlying4 _), (trodAll_cons_mk (Below.trod laidOut (by kernel_rfl) (of_decide_eq_true (by kernel_rfl)) h0 bel lt0) trodAll_mk0), rfl, bel.frame _, fun h => by cases h⟩

theorem over : Rows.fnExactCountFindingsRow.holds Try.pinned (OpenSpec.ofChange Rows.fnExactCountFindingsSpec) :=
  OpenClaim.holds_of_wide 5 Try.f5 rfl rfl rfl rfl rfl rfl rfl ⟨rfl, rfl, rfl, rfl, rfl⟩ rfl rfl rfl rfl rfl (by kernel_rfl) Try.func5 (by kernel_rfl)
    (of_decide_eq_true (by kernel_rfl)) (by unfold Func.isWrapper; first | (rw [if_pos (by decide +kernel)]; kernel_rfl) | (rw [if_neg (by decide +kernel)]; exact ⟨rfl, rfl⟩))
    (fun os started H enc _ => lifted os started H enc)

theorem countFindings : Rows.FnExactCountFindingsSaid := over
#print axioms countFindings
end Go.Proofs.Ytikdfigokjhdgaa
