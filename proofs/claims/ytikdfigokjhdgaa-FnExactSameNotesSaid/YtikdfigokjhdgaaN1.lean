import Derived.Test.YtikdfigokjhdgaaEng28
import Derived.Test.YtikdfigokjhdgaaProg
namespace Go.Eng
open Go Go.RowKit Go.Proofs
set_option maxRecDepth 100000
structure TNote where
  fId : List UInt8
  fText : List UInt8
def encNote (x : TNote) : List D := [.str x.fId, .str x.fText]
def TNote.sz (x : TNote) : Nat := x.fId.length + x.fText.length
def eqTNote (a b : TNote) : Bool := eqStr a.fId b.fId && (eqStr a.fText b.fText)
theorem eqTNote_refl (x : TNote) : eqTNote x x = true := by simp [eqTNote, eqI, eqStr, eqBo]
theorem c_szNote (x : TNote) (left : Int) (h0 : 0 ≤ left) (h1 : left ≤ 1048576) : FnC Try.prog 30 G0 0 [] [.agg (encNote x), .int .i64 left] (fun d os => d = .int .i64 (if x.sz ≤ left then left - x.sz else -1) ∧ os = []) := by
  refine fn_rule Try.func30 rfl (by decide +kernel) rfl (fun w0 F0 lent β0 => ?_)
  repeat' (first
           | (with_reducible refine awp_seq_k (fun Q' hn he hr => ?_))
           | (with_reducible refine awp_block_k (fun Q' hn he hr => ?_))
           | (with_reducible refine awp_cond_k ?_)
           | (with_reducible refine awp_region_k ?_)
           | (with_reducible refine awp_draw_k ?_)
           | (with_reducible refine awp_ret_k ?_)
           | (with_reducible refine awp_exit_k ?_)
           | (with_reducible refine awp_skip_k ?_)
           | (with_reducible refine awp_label_k ?_)
           | (with_reducible refine awp_scope_k ?_)
           | (with_reducible refine awp_loop_k ?_)
           | (with_reducible refine hn _ ?_; clear hn he hr Q')
           | (with_reducible refine hr _ ?_; clear hn he hr Q')
           | (with_reducible refine he _ _ ?_; clear hn he hr Q')
           | (conv => whnf
              first
              | (with_reducible refine gtt ?_) | (with_reducible refine gft ?_) | (with_reducible refine gtf ?_) | (with_reducible refine gff ?_) | (with_reducible refine ct ?_) | (with_reducible refine cf ?_)
              | ((first | (with_reducible refine gsym (fun hb => ?_) (fun hb => ?_)) | (with_reducible refine gsymf (fun hb => ?_) (fun hb => ?_)) | (with_reducible refine csym (fun hb => ?_) (fun hb => ?_))) <;> (try simp only [decide_eq_true_eq, decide_eq_false_iff_not, Int.natCast_inj, Int.not_le, Int.not_lt, Bool.not_eq_true', Bool.not_eq_false'] at hb) <;> (try (exfalso; omega)))
              | (refine LenS.map fun hlen => ?_)
              | (refine LenS.int fun hlen => ?_)
              | (refine ArithS.in64 (by omega) ?_)
              | (refine MakeS.nat rfl (by omega) ?_)
              | (refine InS.fill (by omega) ?_)
              | (refine ElemS.fill (by omega) ?_)
              | (refine InS.nat (by omega) ?_)
              | (refine ElemS.nat (by omega) fun x hx => ?_)
              | (refine ByteS.nat (by omega) fun x hx => ?_)
              | (refine draw_k (by decide +kernel) (by decide +kernel) ?_)
              | (refine ret_pick [] rfl rfl rfl ⟨?_, rfl⟩; conv => lhs; whnf)
              | (refine he _ _ ?_; clear hn he hr Q') | (refine hn _ ?_; clear hn he hr Q') | (refine hr _ ?_; clear hn he hr Q')))
  all_goals simp only [TNote.sz]
  all_goals (first | rfl | (refine congrArg (D.int _) ?_; first | rfl | omega | (split <;> omega)))
theorem c_szNoteS (a : List (TNote)) (left : Int) (h0 : 0 ≤ left) (h1 : left ≤ 1048576) : FnC Try.prog 7 G0 0 [] [.sl 2 (a.map encNote), .int .i64 left] (fun d os => d = .int .i64 (if szL TNote.sz a ≤ left then left - szL TNote.sz a else -1) ∧ os = []) := by
  have hz0 := szTo_zero TNote.sz a
  have hmono : ∀ k, k ≤ a.length → szTo TNote.sz a k ≤ szL TNote.sz a := fun k h => szTo_mono _ h
  have hm0 := hmono 0 (Nat.zero_le _)
  refine fn_rule Try.func7 rfl (by decide +kernel) rfl (fun w0 F0 lent β0 => ?_)
  repeat' (first
           | (with_reducible refine awp_seq_k (fun Q' hn he hr => ?_))
           | (with_reducible refine awp_block_k (fun Q' hn he hr => ?_))
           | (with_reducible refine awp_cond_k ?_)
           | (with_reducible refine awp_region_k ?_)
           | (with_reducible refine awp_draw_k ?_)
           | (with_reducible refine awp_ret_k ?_)
           | (with_reducible refine awp_exit_k ?_)
           | (with_reducible refine awp_skip_k ?_)
           | (with_reducible refine awp_label_k ?_)
           | (with_reducible refine awp_scope_k ?_)
           | (with_reducible refine awp_loop_k ?_)
           | (with_reducible refine hn _ ?_; clear hn he hr Q')
           | (with_reducible refine hr _ ?_; clear hn he hr Q')
           | (with_reducible refine he _ _ ?_; clear hn he hr Q')
           | (conv => whnf
              first
              | (with_reducible refine gtt ?_) | (with_reducible refine gft ?_) | (with_reducible refine gtf ?_) | (with_reducible refine gff ?_) | (with_reducible refine ct ?_) | (with_reducible refine cf ?_)
              | ((first | (with_reducible refine gsym (fun hb => ?_) (fun hb => ?_)) | (with_reducible refine gsymf (fun hb => ?_) (fun hb => ?_)) | (with_reducible refine csym (fun hb => ?_) (fun hb => ?_))) <;> (try simp only [decide_eq_true_eq, decide_eq_false_iff_not, Int.natCast_inj, Int.not_le, Int.not_lt, Bool.not_eq_true', Bool.not_eq_false'] at hb) <;> (try (exfalso; omega)))
              | (refine LenS.map fun hlen => ?_)
              | (refine LenS.int fun hlen => ?_)
              | (refine ArithS.in64 (by omega) ?_)
              | (refine MakeS.nat rfl (by omega) ?_)
              | (refine InS.fill (by omega) ?_)
              | (refine ElemS.fill (by omega) ?_)
              | (refine InS.nat (by omega) ?_)
              | (refine ElemS.nat (by omega) fun x hx => ?_)
              | (refine ByteS.nat (by omega) fun x hx => ?_)
              | (refine draw_k (by decide +kernel) (by decide +kernel) ?_)
              | (refine ret_pick [] rfl rfl rfl ⟨?_, rfl⟩; conv => lhs; whnf)
              | (refine he _ _ ?_; clear hn he hr Q') | (refine hn _ ?_; clear hn he hr Q') | (refine hr _ ?_; clear hn he hr Q')))
  · (first | rfl | (refine congrArg (D.int _) ?_; first | rfl | omega | (split <;> omega)))
  · refine loop_env (fun k : Nat => [(0,.sl 2 (a.map encNote)),(1,.int .i64 (left - szTo TNote.sz a k)),(5,.int .i64 k)]) (fun _ => []) (fun k => k ≤ a.length ∧ (szTo TNote.sz a k : Int) ≤ left) (fun k => a.length - k) 0 ⟨by omega, by omega⟩ (by refine weak_to rfl rfl rfl ?_; ((repeat' (first | exact trivial | refine And.intro ?_ ?_)) <;> (first | rfl | (conv => rhs; whnf) <;> (first | rfl | (refine congrArg (D.int _) ?_; omega))))) (fun k hk Q' hn he hr => ?_)
    repeat' (first
             | (with_reducible refine awp_seq_k (fun Q' hn he hr => ?_))
             | (with_reducible refine awp_block_k (fun Q' hn he hr => ?_))
             | (with_reducible refine awp_cond_k ?_)
             | (with_reducible refine awp_region_k ?_)
             | (with_reducible refine awp_draw_k ?_)
             | (with_reducible refine awp_ret_k ?_)
             | (with_reducible refine awp_exit_k ?_)
             | (with_reducible refine awp_skip_k ?_)
             | (with_reducible refine awp_label_k ?_)
             | (with_reducible refine awp_scope_k ?_)
             | (with_reducible refine awp_loop_k ?_)
             | (with_reducible refine hn _ ?_; clear hn he hr Q')
             | (with_reducible refine hr _ ?_; clear hn he hr Q')
             | (with_reducible refine he _ _ ?_; clear hn he hr Q')
             | (conv => whnf
                first
                | (with_reducible refine gtt ?_) | (with_reducible refine gft ?_) | (with_reducible refine gtf ?_) | (with_reducible refine gff ?_) | (with_reducible refine ct ?_) | (with_reducible refine cf ?_)
                | ((first | (with_reducible refine gsym (fun hb => ?_) (fun hb => ?_)) | (with_reducible refine gsymf (fun hb => ?_) (fun hb => ?_)) | (with_reducible refine csym (fun hb => ?_) (fun hb => ?_))) <;> (try simp only [decide_eq_true_eq, decide_eq_false_iff_not, Int.natCast_inj, Int.not_le, Int.not_lt, Bool.not_eq_true', Bool.not_eq_false'] at hb) <;> (try (exfalso; omega)))
                | (refine LenS.map fun hlen => ?_)
                | (refine call_pure (c_szNote x _ (by omega) (by omega)) rfl rfl ?_)
                | (refine LenS.int fun hlen => ?_)
                | (refine ArithS.in64 (by omega) ?_)
                | (refine MakeS.nat rfl (by omega) ?_)
                | (refine InS.fill (by omega) ?_)
                | (refine ElemS.fill (by omega) ?_)
                | (refine InS.nat (by omega) ?_)
                | (refine ElemS.nat (by omega) fun x hx => ?_)
                | (refine ByteS.nat (by omega) fun x hx => ?_)
                | (refine draw_k (by decide +kernel) (by decide +kernel) ?_)
                | (refine ret_pick [] rfl rfl rfl ⟨?_, rfl⟩; conv => lhs; whnf)
                | (refine he _ _ ?_; clear hn he hr Q') | (refine hn _ ?_; clear hn he hr Q') | (refine hr _ ?_; clear hn he hr Q')))
    · have h2 := hmono (k + 1) (by omega)
      rw [szTo_succ ‹a[k]? = some _›] at h2
      split at hb <;> (first | rfl | (refine congrArg (D.int _) ?_; first | rfl | omega | (split <;> omega)))
    · have h2 := szTo_succ (f := TNote.sz) ‹a[k]? = some _›
      split at hb
      · rename_i h3
        refine ⟨k + 1, ⟨by omega, by omega⟩, by omega, ?_⟩
        rw [if_pos h3]
        exact (by refine weak_to rfl rfl rfl ?_; ((repeat' (first | exact trivial | refine And.intro ?_ ?_)) <;> (first | rfl | (conv => rhs; whnf) <;> (first | rfl | (refine congrArg (D.int _) ?_; omega)))))
      · omega
    · have h2 : k = a.length := by omega
      subst h2
      have h3 := szL_all TNote.sz a
      (first | rfl | (refine congrArg (D.int _) ?_; first | rfl | omega | (split <;> omega)))
theorem c_toNote (x : TNote) : FnC Try.prog 31 G0 0 [] [.agg (encNote x)] (fun d os => d = .agg (encNote x) ∧ os = []) := by
  refine fn_rule Try.func31 rfl (by decide +kernel) rfl (fun w0 F0 lent β0 => ?_)
  repeat' (first
           | (with_reducible refine awp_seq_k (fun Q' hn he hr => ?_))
           | (with_reducible refine awp_block_k (fun Q' hn he hr => ?_))
           | (with_reducible refine awp_cond_k ?_)
           | (with_reducible refine awp_region_k ?_)
           | (with_reducible refine awp_draw_k ?_)
           | (with_reducible refine awp_ret_k ?_)
           | (with_reducible refine awp_exit_k ?_)
           | (with_reducible refine awp_skip_k ?_)
           | (with_reducible refine awp_label_k ?_)
           | (with_reducible refine awp_scope_k ?_)
           | (with_reducible refine awp_loop_k ?_)
           | (with_reducible refine hn _ ?_; clear hn he hr Q')
           | (with_reducible refine hr _ ?_; clear hn he hr Q')
           | (with_reducible refine he _ _ ?_; clear hn he hr Q')
           | (conv => whnf
              first
              | (with_reducible refine gtt ?_) | (with_reducible refine gft ?_) | (with_reducible refine gtf ?_) | (with_reducible refine gff ?_) | (with_reducible refine ct ?_) | (with_reducible refine cf ?_)
              | ((first | (with_reducible refine gsym (fun hb => ?_) (fun hb => ?_)) | (with_reducible refine gsymf (fun hb => ?_) (fun hb => ?_)) | (with_reducible refine csym (fun hb => ?_) (fun hb => ?_))) <;> (try simp only [decide_eq_true_eq, decide_eq_false_iff_not, Int.natCast_inj, Int.not_le, Int.not_lt, Bool.not_eq_true', Bool.not_eq_false'] at hb) <;> (try (exfalso; omega)))
              | (refine LenS.map fun hlen => ?_)
              | (refine LenS.int fun hlen => ?_)
              | (refine ArithS.in64 (by omega) ?_)
              | (refine MakeS.nat rfl (by omega) ?_)
              | (refine InS.fill (by omega) ?_)
              | (refine ElemS.fill (by omega) ?_)
              | (refine InS.nat (by omega) ?_)
              | (refine ElemS.nat (by omega) fun x hx => ?_)
              | (refine ByteS.nat (by omega) fun x hx => ?_)
              | (refine draw_k (by decide +kernel) (by decide +kernel) ?_)
              | (refine ret_pick [] rfl rfl rfl ⟨?_, rfl⟩; conv => lhs; whnf)
              | (refine he _ _ ?_; clear hn he hr Q') | (refine hn _ ?_; clear hn he hr Q') | (refine hr _ ?_; clear hn he hr Q')))
  all_goals rfl
def zNote : List D := [.str [], .str []]
theorem c_toNoteS (a : List (TNote)) (hs : a.length ≤ 1048576) : FnC Try.prog 9 G0 0 [] [.sl 2 (a.map encNote)] (fun d os => d = .h 0 ∧ os = [.row 55 2 (a.map encNote)]) := by
  refine fn_rule Try.func9 rfl (by decide +kernel) rfl (fun w0 F0 lent β0 => ?_)
  repeat' (first
           | (with_reducible refine awp_seq_k (fun Q' hn he hr => ?_))
           | (with_reducible refine awp_block_k (fun Q' hn he hr => ?_))
           | (with_reducible refine awp_cond_k ?_)
           | (with_reducible refine awp_region_k ?_)
           | (with_reducible refine awp_draw_k ?_)
           | (with_reducible refine awp_ret_k ?_)
           | (with_reducible refine awp_exit_k ?_)
           | (with_reducible refine awp_skip_k ?_)
           | (with_reducible refine awp_label_k ?_)
           | (with_reducible refine awp_scope_k ?_)
           | (with_reducible refine awp_loop_k ?_)
           | (with_reducible refine hn _ ?_; clear hn he hr Q')
           | (with_reducible refine hr _ ?_; clear hn he hr Q')
           | (with_reducible refine he _ _ ?_; clear hn he hr Q')
           | (conv => whnf
              first
              | (with_reducible refine gtt ?_) | (with_reducible refine gft ?_) | (with_reducible refine gtf ?_) | (with_reducible refine gff ?_) | (with_reducible refine ct ?_) | (with_reducible refine cf ?_)
              | ((first | (with_reducible refine gsym (fun hb => ?_) (fun hb => ?_)) | (with_reducible refine gsymf (fun hb => ?_) (fun hb => ?_)) | (with_reducible refine csym (fun hb => ?_) (fun hb => ?_))) <;> (try simp only [decide_eq_true_eq, decide_eq_false_iff_not, Int.natCast_inj, Int.not_le, Int.not_lt, Bool.not_eq_true', Bool.not_eq_false'] at hb) <;> (try (exfalso; omega)))
              | (refine LenS.map fun hlen => ?_)
              | (refine LenS.int fun hlen => ?_)
              | (refine ArithS.in64 (by omega) ?_)
              | (refine MakeS.nat rfl (by omega) ?_)
              | (refine InS.fill (by omega) ?_)
              | (refine ElemS.fill (by omega) ?_)
              | (refine InS.nat (by omega) ?_)
              | (refine ElemS.nat (by omega) fun x hx => ?_)
              | (refine ByteS.nat (by omega) fun x hx => ?_)
              | (refine draw_k (by decide +kernel) (by decide +kernel) ?_)
              | (refine ret_pick [] rfl rfl rfl ⟨?_, rfl⟩; conv => lhs; whnf)
              | (refine he _ _ ?_; clear hn he hr Q') | (refine hn _ ?_; clear hn he hr Q') | (refine hr _ ?_; clear hn he hr Q')))
  refine loop_env (fun k : Nat => [(0,.sl 2 (a.map encNote)),(3,.h 0),(4,.int .i64 k)]) (fun k => [.row 55 2 (fill encNote zNote a k)]) (fun k => k ≤ a.length) (fun k => a.length - k) 0 (by omega) (by refine weak_to rfl rfl ?_ ?_; rw [fill_zero]; rfl; exact ⟨rfl, rfl, rfl, trivial⟩) (fun k hk Q' hn he hr => ?_)
  repeat' (first
           | (with_reducible refine awp_seq_k (fun Q' hn he hr => ?_))
           | (with_reducible refine awp_block_k (fun Q' hn he hr => ?_))
           | (with_reducible refine awp_cond_k ?_)
           | (with_reducible refine awp_region_k ?_)
           | (with_reducible refine awp_draw_k ?_)
           | (with_reducible refine awp_ret_k ?_)
           | (with_reducible refine awp_exit_k ?_)
           | (with_reducible refine awp_skip_k ?_)
           | (with_reducible refine awp_label_k ?_)
           | (with_reducible refine awp_scope_k ?_)
           | (with_reducible refine awp_loop_k ?_)
           | (with_reducible refine hn _ ?_; clear hn he hr Q')
           | (with_reducible refine hr _ ?_; clear hn he hr Q')
           | (with_reducible refine he _ _ ?_; clear hn he hr Q')
           | (conv => whnf
              first
              | (with_reducible refine gtt ?_) | (with_reducible refine gft ?_) | (with_reducible refine gtf ?_) | (with_reducible refine gff ?_) | (with_reducible refine ct ?_) | (with_reducible refine cf ?_)
              | ((first | (with_reducible refine gsym (fun hb => ?_) (fun hb => ?_)) | (with_reducible refine gsymf (fun hb => ?_) (fun hb => ?_)) | (with_reducible refine csym (fun hb => ?_) (fun hb => ?_))) <;> (try simp only [decide_eq_true_eq, decide_eq_false_iff_not, Int.natCast_inj, Int.not_le, Int.not_lt, Bool.not_eq_true', Bool.not_eq_false'] at hb) <;> (try (exfalso; omega)))
              | (refine LenS.map fun hlen => ?_)
              | (refine call_pure (c_toNote x) rfl rfl ?_)
              | (refine ret_pick [0] rfl rfl rfl ⟨rfl, ?_⟩)
              | (refine LenS.int fun hlen => ?_)
              | (refine ArithS.in64 (by omega) ?_)
              | (refine MakeS.nat rfl (by omega) ?_)
              | (refine InS.fill (by omega) ?_)
              | (refine ElemS.fill (by omega) ?_)
              | (refine InS.nat (by omega) ?_)
              | (refine ElemS.nat (by omega) fun x hx => ?_)
              | (refine ByteS.nat (by omega) fun x hx => ?_)
              | (refine draw_k (by decide +kernel) (by decide +kernel) ?_)
              | (refine ret_pick [] rfl rfl rfl ⟨?_, rfl⟩; conv => lhs; whnf)
              | (refine he _ _ ?_; clear hn he hr Q') | (refine hn _ ?_; clear hn he hr Q') | (refine hr _ ?_; clear hn he hr Q')))
  · refine ⟨k + 1, by omega, by omega, ?_⟩
    refine weak_to rfl rfl ?_ ⟨rfl, rfl, rfl, trivial⟩
    rw [← fill_set _ _ _ hx]
    rfl
  · have h2 : k = a.length := by omega
    subst h2
    rw [← fill_all encNote zNote a]
    rfl
theorem c_eqNote (a b : TNote) : FnC Try.prog 33 G0 0 [] [.agg (encNote a), .agg (encNote b)] (fun d os => d = .bool (eqTNote a b) ∧ os = []) := by
  refine fn_rule Try.func33 rfl (by decide +kernel) rfl (fun w0 F0 lent β0 => ?_)
  repeat' (first
           | (with_reducible refine awp_seq_k (fun Q' hn he hr => ?_))
           | (with_reducible refine awp_block_k (fun Q' hn he hr => ?_))
           | (with_reducible refine awp_cond_k ?_)
           | (with_reducible refine awp_region_k ?_)
           | (with_reducible refine awp_draw_k ?_)
           | (with_reducible refine awp_ret_k ?_)
           | (with_reducible refine awp_exit_k ?_)
           | (with_reducible refine awp_skip_k ?_)
           | (with_reducible refine awp_label_k ?_)
           | (with_reducible refine awp_scope_k ?_)
           | (with_reducible refine awp_loop_k ?_)
           | (with_reducible refine hn _ ?_; clear hn he hr Q')
           | (with_reducible refine hr _ ?_; clear hn he hr Q')
           | (with_reducible refine he _ _ ?_; clear hn he hr Q')
           | (conv => whnf
              first
              | (with_reducible refine gtt ?_) | (with_reducible refine gft ?_) | (with_reducible refine gtf ?_) | (with_reducible refine gff ?_) | (with_reducible refine ct ?_) | (with_reducible refine cf ?_)
              | ((first | (with_reducible refine gsym (fun hb => ?_) (fun hb => ?_)) | (with_reducible refine gsymf (fun hb => ?_) (fun hb => ?_)) | (with_reducible refine csym (fun hb => ?_) (fun hb => ?_))) <;> (try simp only [decide_eq_true_eq, decide_eq_false_iff_not, Int.natCast_inj, Int.not_le, Int.not_lt, Bool.not_eq_true', Bool.not_eq_false'] at hb) <;> (try (exfalso; omega)))
              | (refine LenS.map fun hlen => ?_)
              | (refine LenS.int fun hlen => ?_)
              | (refine ArithS.in64 (by omega) ?_)
              | (refine MakeS.nat rfl (by omega) ?_)
              | (refine InS.fill (by omega) ?_)
              | (refine ElemS.fill (by omega) ?_)
              | (refine InS.nat (by omega) ?_)
              | (refine ElemS.nat (by omega) fun x hx => ?_)
              | (refine ByteS.nat (by omega) fun x hx => ?_)
              | (refine draw_k (by decide +kernel) (by decide +kernel) ?_)
              | (refine ret_pick [] rfl rfl rfl ⟨?_, rfl⟩; conv => lhs; whnf)
              | (refine he _ _ ?_; clear hn he hr Q') | (refine hn _ ?_; clear hn he hr Q') | (refine hr _ ?_; clear hn he hr Q')))
  all_goals simp_all [eqTNote, eqI, eqStr, eqBo]
theorem c_eqNoteS (a b : List (TNote)) : FnC Try.prog 11 G0 0 [] [.sl 2 (a.map encNote), .sl 2 (b.map encNote)] (fun d os => d = .bool (eqL eqTNote a b) ∧ os = []) := by
  refine fn_rule Try.func11 rfl (by decide +kernel) rfl (fun w0 F0 lent β0 => ?_)
  repeat' (first
           | (with_reducible refine awp_seq_k (fun Q' hn he hr => ?_))
           | (with_reducible refine awp_block_k (fun Q' hn he hr => ?_))
           | (with_reducible refine awp_cond_k ?_)
           | (with_reducible refine awp_region_k ?_)
           | (with_reducible refine awp_draw_k ?_)
           | (with_reducible refine awp_ret_k ?_)
           | (with_reducible refine awp_exit_k ?_)
           | (with_reducible refine awp_skip_k ?_)
           | (with_reducible refine awp_label_k ?_)
           | (with_reducible refine awp_scope_k ?_)
           | (with_reducible refine awp_loop_k ?_)
           | (with_reducible refine hn _ ?_; clear hn he hr Q')
           | (with_reducible refine hr _ ?_; clear hn he hr Q')
           | (with_reducible refine he _ _ ?_; clear hn he hr Q')
           | (conv => whnf
              first
              | (with_reducible refine gtt ?_) | (with_reducible refine gft ?_) | (with_reducible refine gtf ?_) | (with_reducible refine gff ?_) | (with_reducible refine ct ?_) | (with_reducible refine cf ?_)
              | ((first | (with_reducible refine gsym (fun hb => ?_) (fun hb => ?_)) | (with_reducible refine gsymf (fun hb => ?_) (fun hb => ?_)) | (with_reducible refine csym (fun hb => ?_) (fun hb => ?_))) <;> (try simp only [decide_eq_true_eq, decide_eq_false_iff_not, Int.natCast_inj, Int.not_le, Int.not_lt, Bool.not_eq_true', Bool.not_eq_false'] at hb) <;> (try (exfalso; omega)))
              | (refine LenS.map fun hlen => ?_)
              | (refine LenS.int fun hlen => ?_)
              | (refine ArithS.in64 (by omega) ?_)
              | (refine MakeS.nat rfl (by omega) ?_)
              | (refine InS.fill (by omega) ?_)
              | (refine ElemS.fill (by omega) ?_)
              | (refine InS.nat (by omega) ?_)
              | (refine ElemS.nat (by omega) fun x hx => ?_)
              | (refine ByteS.nat (by omega) fun x hx => ?_)
              | (refine draw_k (by decide +kernel) (by decide +kernel) ?_)
              | (refine ret_pick [] rfl rfl rfl ⟨?_, rfl⟩; conv => lhs; whnf)
              | (refine he _ _ ?_; clear hn he hr Q') | (refine hn _ ?_; clear hn he hr Q') | (refine hr _ ?_; clear hn he hr Q')))
  · rw [eqL_len hb]
  · refine loop_env (fun k : Nat => [(0,.sl 2 (a.map encNote)),(1,.sl 2 (b.map encNote)),(5,.int .i64 k)]) (fun _ => []) (fun k => k ≤ a.length ∧ eqTo eqTNote a b k) (fun k => a.length - k) 0 ⟨by omega, eqTo_zero⟩ (by refine weak_to rfl rfl rfl ?_; ((repeat' (first | exact trivial | refine And.intro ?_ ?_)) <;> (first | rfl | (conv => rhs; whnf) <;> (first | rfl | (refine congrArg (D.int _) ?_; omega))))) (fun k hk Q' hn he hr => ?_)
    repeat' (first
             | (with_reducible refine awp_seq_k (fun Q' hn he hr => ?_))
             | (with_reducible refine awp_block_k (fun Q' hn he hr => ?_))
             | (with_reducible refine awp_cond_k ?_)
             | (with_reducible refine awp_region_k ?_)
             | (with_reducible refine awp_draw_k ?_)
             | (with_reducible refine awp_ret_k ?_)
             | (with_reducible refine awp_exit_k ?_)
             | (with_reducible refine awp_skip_k ?_)
             | (with_reducible refine awp_label_k ?_)
             | (with_reducible refine awp_scope_k ?_)
             | (with_reducible refine awp_loop_k ?_)
             | (with_reducible refine hn _ ?_; clear hn he hr Q')
             | (with_reducible refine hr _ ?_; clear hn he hr Q')
             | (with_reducible refine he _ _ ?_; clear hn he hr Q')
             | (conv => whnf
                first
                | (with_reducible refine gtt ?_) | (with_reducible refine gft ?_) | (with_reducible refine gtf ?_) | (with_reducible refine gff ?_) | (with_reducible refine ct ?_) | (with_reducible refine cf ?_)
                | ((first | (with_reducible refine gsym (fun hb => ?_) (fun hb => ?_)) | (with_reducible refine gsymf (fun hb => ?_) (fun hb => ?_)) | (with_reducible refine csym (fun hb => ?_) (fun hb => ?_))) <;> (try simp only [decide_eq_true_eq, decide_eq_false_iff_not, Int.natCast_inj, Int.not_le, Int.not_lt, Bool.not_eq_true', Bool.not_eq_false'] at hb) <;> (try (exfalso; omega)))
                | (refine LenS.map fun hlen => ?_)
                | (refine callQ_plain (.bool (eqTNote _ _)) (c_eqNote _ _) rfl (by rintro d os ⟨rfl, rfl⟩; rfl) ?_)
                | (refine LenS.int fun hlen => ?_)
                | (refine ArithS.in64 (by omega) ?_)
                | (refine MakeS.nat rfl (by omega) ?_)
                | (refine InS.fill (by omega) ?_)
                | (refine ElemS.fill (by omega) ?_)
                | (refine InS.nat (by omega) ?_)
                | (refine ElemS.nat (by omega) fun x hx => ?_)
                | (refine ByteS.nat (by omega) fun x hx => ?_)
                | (refine draw_k (by decide +kernel) (by decide +kernel) ?_)
                | (refine ret_pick [] rfl rfl rfl ⟨?_, rfl⟩; conv => lhs; whnf)
                | (refine he _ _ ?_; clear hn he hr Q') | (refine hn _ ?_; clear hn he hr Q') | (refine hr _ ?_; clear hn he hr Q')))
    · rw [eqL_at ‹a[k]? = some _› ‹b[k]? = some _› hb]
    · exact ⟨k + 1, ⟨by omega, eqTo_succ hk.2 ‹a[k]? = some _› ‹b[k]? = some _› hb⟩, by omega, (by refine weak_to rfl rfl rfl ?_; ((repeat' (first | exact trivial | refine And.intro ?_ ?_)) <;> (first | rfl | (conv => rhs; whnf) <;> (first | rfl | (refine congrArg (D.int _) ?_; omega)))))⟩
    · rw [eqL_all (by omega) (fun j x y h => hk.2 j x y (by omega))]
theorem eqd_Note (a b : TNote) : EqD Try.prog 55 (encNote a) (encNote b) (eqTNote a b) := by
  have h : EqD Try.prog 55 (encNote a) (encNote b) ((a.fId == b.fId) && ((a.fText == b.fText) && true)) := EqD.flat _ rfl (by decide +kernel) (by decide +kernel) (by rfl)
  simpa [eqTNote, eqI, eqStr, eqBo] using h
theorem c_slicesEqual_Note (a b : List (TNote)) : FnC Try.prog 32 G0 0 [] [.sl 2 (a.map encNote), .sl 2 (b.map encNote)] (fun d os => d = .bool (eqL eqTNote a b) ∧ os = []) := by
  refine fn_rule Try.func32 rfl (by decide +kernel) rfl (fun w0 F0 lent β0 => ?_)
  repeat' (first
           | (with_reducible refine awp_seq_k (fun Q' hn he hr => ?_))
           | (with_reducible refine awp_block_k (fun Q' hn he hr => ?_))
           | (with_reducible refine awp_cond_k ?_)
           | (with_reducible refine awp_region_k ?_)
           | (with_reducible refine awp_draw_k ?_)
           | (with_reducible refine awp_ret_k ?_)
           | (with_reducible refine awp_exit_k ?_)
           | (with_reducible refine awp_skip_k ?_)
           | (with_reducible refine awp_label_k ?_)
           | (with_reducible refine awp_scope_k ?_)
           | (with_reducible refine awp_loop_k ?_)
           | (with_reducible refine hn _ ?_; clear hn he hr Q')
           | (with_reducible refine hr _ ?_; clear hn he hr Q')
           | (with_reducible refine he _ _ ?_; clear hn he hr Q')
           | (conv => whnf
              first
              | (with_reducible refine gtt ?_) | (with_reducible refine gft ?_) | (with_reducible refine gtf ?_) | (with_reducible refine gff ?_) | (with_reducible refine ct ?_) | (with_reducible refine cf ?_)
              | ((first | (with_reducible refine gsym (fun hb => ?_) (fun hb => ?_)) | (with_reducible refine gsymf (fun hb => ?_) (fun hb => ?_)) | (with_reducible refine csym (fun hb => ?_) (fun hb => ?_))) <;> (try simp only [decide_eq_true_eq, decide_eq_false_iff_not, Int.natCast_inj, Int.not_le, Int.not_lt, Bool.not_eq_true', Bool.not_eq_false'] at hb) <;> (try (exfalso; omega)))
              | (refine LenS.map fun hlen => ?_)
              | (refine LenS.int fun hlen => ?_)
              | (refine ArithS.in64 (by omega) ?_)
              | (refine MakeS.nat rfl (by omega) ?_)
              | (refine InS.fill (by omega) ?_)
              | (refine ElemS.fill (by omega) ?_)
              | (refine InS.nat (by omega) ?_)
              | (refine ElemS.nat (by omega) fun x hx => ?_)
              | (refine ByteS.nat (by omega) fun x hx => ?_)
              | (refine draw_k (by decide +kernel) (by decide +kernel) ?_)
              | (refine ret_pick [] rfl rfl rfl ⟨?_, rfl⟩; conv => lhs; whnf)
              | (refine he _ _ ?_; clear hn he hr Q') | (refine hn _ ?_; clear hn he hr Q') | (refine hr _ ?_; clear hn he hr Q')))
  · rw [eqL_len hb]
  · refine loop_env (fun k : Nat => [(0,.sl 2 (a.map encNote)),(1,.sl 2 (b.map encNote)),(12,.int .i64 a.length),(13,.int .i64 k)]) (fun _ => []) (fun k => k ≤ a.length ∧ eqTo eqTNote a b k) (fun k => a.length - k) 0 ⟨by omega, eqTo_zero⟩ (by refine weak_to rfl rfl rfl ?_; ((repeat' (first | exact trivial | refine And.intro ?_ ?_)) <;> (first | rfl | (conv => rhs; whnf) <;> (first | rfl | (refine congrArg (D.int _) ?_; omega))))) (fun k hk Q' hn he hr => ?_)
    repeat' (first
             | (with_reducible refine awp_seq_k (fun Q' hn he hr => ?_))
             | (with_reducible refine awp_block_k (fun Q' hn he hr => ?_))
             | (with_reducible refine awp_cond_k ?_)
             | (with_reducible refine awp_region_k ?_)
             | (with_reducible refine awp_draw_k ?_)
             | (with_reducible refine awp_ret_k ?_)
             | (with_reducible refine awp_exit_k ?_)
             | (with_reducible refine awp_skip_k ?_)
             | (with_reducible refine awp_label_k ?_)
             | (with_reducible refine awp_scope_k ?_)
             | (with_reducible refine awp_loop_k ?_)
             | (with_reducible refine hn _ ?_; clear hn he hr Q')
             | (with_reducible refine hr _ ?_; clear hn he hr Q')
             | (with_reducible refine he _ _ ?_; clear hn he hr Q')
             | (conv => whnf
                first
                | (with_reducible refine gtt ?_) | (with_reducible refine gft ?_) | (with_reducible refine gtf ?_) | (with_reducible refine gff ?_) | (with_reducible refine ct ?_) | (with_reducible refine cf ?_)
                | ((first | (with_reducible refine gsym (fun hb => ?_) (fun hb => ?_)) | (with_reducible refine gsymf (fun hb => ?_) (fun hb => ?_)) | (with_reducible refine csym (fun hb => ?_) (fun hb => ?_))) <;> (try simp only [decide_eq_true_eq, decide_eq_false_iff_not, Int.natCast_inj, Int.not_le, Int.not_lt, Bool.not_eq_true', Bool.not_eq_false'] at hb) <;> (try (exfalso; omega)))
                | (refine LenS.map fun hlen => ?_)
                | (refine EqS.mk (eqd_Note _ _) ?_)
                | (refine LenS.int fun hlen => ?_)
                | (refine ArithS.in64 (by omega) ?_)
                | (refine MakeS.nat rfl (by omega) ?_)
                | (refine InS.fill (by omega) ?_)
                | (refine ElemS.fill (by omega) ?_)
                | (refine InS.nat (by omega) ?_)
                | (refine ElemS.nat (by omega) fun x hx => ?_)
                | (refine ByteS.nat (by omega) fun x hx => ?_)
                | (refine draw_k (by decide +kernel) (by decide +kernel) ?_)
                | (refine ret_pick [] rfl rfl rfl ⟨?_, rfl⟩; conv => lhs; whnf)
                | (refine he _ _ ?_; clear hn he hr Q') | (refine hn _ ?_; clear hn he hr Q') | (refine hr _ ?_; clear hn he hr Q')))
    · rw [eqL_at ‹a[k]? = some _› ‹b[k]? = some _› hb]
    · exact ⟨k + 1, ⟨by omega, eqTo_succ hk.2 ‹a[k]? = some _› ‹b[k]? = some _› hb⟩, by omega, (by refine weak_to rfl rfl rfl ?_; ((repeat' (first | exact trivial | refine And.intro ?_ ?_)) <;> (first | rfl | (conv => rhs; whnf) <;> (first | rfl | (refine congrArg (D.int _) ?_; omega)))))⟩
    · rw [eqL_all (by omega) (fun j x y h => hk.2 j x y (by omega))]
theorem c_spec_SameNotes (a b : List (TNote)) : FnC Try.prog 8 G0 0 [] [.sl 2 (a.map encNote), .sl 2 (b.map encNote)] (fun d os => d = .bool (eqL eqTNote a b) ∧ os = []) := by
  refine fn_rule Try.func8 rfl (by decide +kernel) rfl (fun w0 F0 lent β0 => ?_)
  repeat' (first
           | (with_reducible refine awp_seq_k (fun Q' hn he hr => ?_))
           | (with_reducible refine awp_block_k (fun Q' hn he hr => ?_))
           | (with_reducible refine awp_cond_k ?_)
           | (with_reducible refine awp_region_k ?_)
           | (with_reducible refine awp_draw_k ?_)
           | (with_reducible refine awp_ret_k ?_)
           | (with_reducible refine awp_exit_k ?_)
           | (with_reducible refine awp_skip_k ?_)
           | (with_reducible refine awp_label_k ?_)
           | (with_reducible refine awp_scope_k ?_)
           | (with_reducible refine awp_loop_k ?_)
           | (with_reducible refine hn _ ?_; clear hn he hr Q')
           | (with_reducible refine hr _ ?_; clear hn he hr Q')
           | (with_reducible refine he _ _ ?_; clear hn he hr Q')
           | (conv => whnf
              first
              | (with_reducible refine gtt ?_) | (with_reducible refine gft ?_) | (with_reducible refine gtf ?_) | (with_reducible refine gff ?_) | (with_reducible refine ct ?_) | (with_reducible refine cf ?_)
              | ((first | (with_reducible refine gsym (fun hb => ?_) (fun hb => ?_)) | (with_reducible refine gsymf (fun hb => ?_) (fun hb => ?_)) | (with_reducible refine csym (fun hb => ?_) (fun hb => ?_))) <;> (try simp only [decide_eq_true_eq, decide_eq_false_iff_not, Int.natCast_inj, Int.not_le, Int.not_lt, Bool.not_eq_true', Bool.not_eq_false'] at hb) <;> (try (exfalso; omega)))
              | (refine LenS.map fun hlen => ?_)
              | (refine LenS.int fun hlen => ?_)
              | (refine ArithS.in64 (by omega) ?_)
              | (refine MakeS.nat rfl (by omega) ?_)
              | (refine InS.fill (by omega) ?_)
              | (refine ElemS.fill (by omega) ?_)
              | (refine InS.nat (by omega) ?_)
              | (refine ElemS.nat (by omega) fun x hx => ?_)
              | (refine ByteS.nat (by omega) fun x hx => ?_)
              | (refine draw_k (by decide +kernel) (by decide +kernel) ?_)
              | (refine ret_pick [] rfl rfl rfl ⟨?_, rfl⟩; conv => lhs; whnf)
              | (refine he _ _ ?_; clear hn he hr Q') | (refine hn _ ?_; clear hn he hr Q') | (refine hr _ ?_; clear hn he hr Q')))
  · rw [eqL_len hb]
  · refine loop_env (fun k : Nat => [(0,.sl 2 (a.map encNote)),(1,.sl 2 (b.map encNote)),(5,.int .i64 k)]) (fun _ => []) (fun k => k ≤ a.length ∧ eqTo eqTNote a b k) (fun k => a.length - k) 0 ⟨by omega, eqTo_zero⟩ (by refine weak_to rfl rfl rfl ?_; ((repeat' (first | exact trivial | refine And.intro ?_ ?_)) <;> (first | rfl | (conv => rhs; whnf) <;> (first | rfl | (refine congrArg (D.int _) ?_; omega))))) (fun k hk Q' hn he hr => ?_)
    repeat' (first
             | (with_reducible refine awp_seq_k (fun Q' hn he hr => ?_))
             | (with_reducible refine awp_block_k (fun Q' hn he hr => ?_))
             | (with_reducible refine awp_cond_k ?_)
             | (with_reducible refine awp_region_k ?_)
             | (with_reducible refine awp_draw_k ?_)
             | (with_reducible refine awp_ret_k ?_)
             | (with_reducible refine awp_exit_k ?_)
             | (with_reducible refine awp_skip_k ?_)
             | (with_reducible refine awp_label_k ?_)
             | (with_reducible refine awp_scope_k ?_)
             | (with_reducible refine awp_loop_k ?_)
             | (with_reducible refine hn _ ?_; clear hn he hr Q')
             | (with_reducible refine hr _ ?_; clear hn he hr Q')
             | (with_reducible refine he _ _ ?_; clear hn he hr Q')
             | (conv => whnf
                first
                | (with_reducible refine gtt ?_) | (with_reducible refine gft ?_) | (with_reducible refine gtf ?_) | (with_reducible refine gff ?_) | (with_reducible refine ct ?_) | (with_reducible refine cf ?_)
                | ((first | (with_reducible refine gsym (fun hb => ?_) (fun hb => ?_)) | (with_reducible refine gsymf (fun hb => ?_) (fun hb => ?_)) | (with_reducible refine csym (fun hb => ?_) (fun hb => ?_))) <;> (try simp only [decide_eq_true_eq, decide_eq_false_iff_not, Int.natCast_inj, Int.not_le, Int.not_lt, Bool.not_eq_true', Bool.not_eq_false'] at hb) <;> (try (exfalso; omega)))
                | (refine LenS.map fun hlen => ?_)
                | (refine EqS.mk (eqd_Note _ _) ?_)
                | (refine LenS.int fun hlen => ?_)
                | (refine ArithS.in64 (by omega) ?_)
                | (refine MakeS.nat rfl (by omega) ?_)
                | (refine InS.fill (by omega) ?_)
                | (refine ElemS.fill (by omega) ?_)
                | (refine InS.nat (by omega) ?_)
                | (refine ElemS.nat (by omega) fun x hx => ?_)
                | (refine ByteS.nat (by omega) fun x hx => ?_)
                | (refine draw_k (by decide +kernel) (by decide +kernel) ?_)
                | (refine ret_pick [] rfl rfl rfl ⟨?_, rfl⟩; conv => lhs; whnf)
                | (refine he _ _ ?_; clear hn he hr Q') | (refine hn _ ?_; clear hn he hr Q') | (refine hr _ ?_; clear hn he hr Q')))
    · rw [eqL_at ‹a[k]? = some _› ‹b[k]? = some _› hb]
    · exact ⟨k + 1, ⟨by omega, eqTo_succ hk.2 ‹a[k]? = some _› ‹b[k]? = some _› hb⟩, by omega, (by refine weak_to rfl rfl rfl ?_; ((repeat' (first | exact trivial | refine And.intro ?_ ?_)) <;> (first | rfl | (conv => rhs; whnf) <;> (first | rfl | (refine congrArg (D.int _) ?_; omega)))))⟩
    · rw [eqL_all (by omega) (fun j x y h => hk.2 j x y (by omega))]
end Go.Eng
