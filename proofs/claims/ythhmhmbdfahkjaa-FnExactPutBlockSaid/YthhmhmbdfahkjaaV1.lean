/-
  Names, and blocks that are valid: the contracts of the program's functions and of the reference's.
  No conditions.
-/
import Derived.Test.YthhmhmbdfahkjaaEC
import Derived.Test.YthhmhmbdfahkjaaV0
import Derived.Test.YthhmhmbdfahkjaaTB
import Derived.Test.YthhmhmbdfahkjaaProg
namespace Go.Eng
open Go Go.RowKit Go.Proofs
set_option maxRecDepth 100000

/-- A text without a line's end. -/
def lineB (l : List UInt8) : Bool := l.all fun c => !decide ((c.toNat : Int) = 10)
theorem indexByte_line (l : List UInt8) : decide (0 ≤ Lib.indexByte l 10) = !lineB l := by
  induction l with
  | nil => rfl
  | cons b r ih =>
    have h1 := Lib.indexByte_ge r 10
    have h2 : (b == 10) = decide ((b.toNat : Int) = 10) := by
      rw [Bool.eq_iff_iff]
      simp only [beq_iff_eq, decide_eq_true_eq]
      constructor
      · rintro rfl; rfl
      · intro h
        apply UInt8.toNat_inj.1
        have : b.toNat = 10 := by omega
        rw [this]
        rfl
    unfold Lib.indexByte lineB
    rw [List.all_cons, h2]
    have h3 : (r.all fun c => !decide ((c.toNat : Int) = 10)) = lineB r := rfl
    rw [h3]
    by_cases h : (b.toNat : Int) = 10
    · simp [h]
    · simp only [h, decide_false, Bool.false_eq_true, if_false, Bool.not_false, Bool.true_and]
      rw [← ih]
      by_cases h4 : Lib.indexByte r 10 = -1
      · simp [h4]
      · have h5 : (Lib.indexByte r 10 == -1) = false := by simpa using h4
        rw [h5]
        simp only [Bool.false_eq_true, if_false]
        rw [decide_eq_true (by omega : 0 ≤ Lib.indexByte r 10 + 1), decide_eq_true (by omega : 0 ≤ Lib.indexByte r 10)]

theorem c_stringslite_IndexByte (l : List UInt8) (c : UInt8) : FnC Try.prog 98 G0 0 [] [.str l, .int .u8 c.toNat] (fun d os => d = .int .i64 (Lib.indexByte l c) ∧ os = []) := by
  refine fn_rule Try.func98 rfl (by decide +kernel) rfl (fun w0 F0 lent β0 => ?_)
  repeat' (first
           | (with_reducible refine awp_seq_k (fun Q' hn he hr => ?_))
           | (with_reducible refine awp_block_k (fun Q' hn he hr => ?_))
           | (with_reducible refine awp_cond_k ?_)
           | (with_reducible refine awp_region_k ?_)
           | (with_reducible refine awp_draw_k ?_)
           | (with_reducible refine awp_ret_k ?_)
           | (with_reducible refine awp_exit_k ?_)
           | (with_reducible refine awp_skip_k ?_)
           | (with_reducible refine awp_label_k ?_)
           | (with_reducible refine awp_scope_k ?_)
           | (with_reducible refine awp_loop_k ?_)
           | (with_reducible refine hn _ ?_; clear hn he hr Q')
           | (with_reducible refine hr _ ?_; clear hn he hr Q')
           | (with_reducible refine he _ _ ?_; clear hn he hr Q')
           | (conv => whnf
              first
              | ((first | (with_reducible refine br_t ?_) | (with_reducible refine br_f ?_) | (with_reducible refine br_c ?_)); repeat' (first | (with_reducible refine Br.tt ?_) | (with_reducible refine Br.ff ?_) | (with_reducible refine Br.nt ?_) | (with_reducible refine Br.nf ?_) | (with_reducible refine Br.condt ?_) | (with_reducible refine Br.condf ?_) | (with_reducible refine Br.ncondt ?_) | (with_reducible refine Br.ncondf ?_) | ((first | (with_reducible refine Br.lt (fun hb => ?_) (fun hb => ?_)) | (with_reducible refine Br.le (fun hb => ?_) (fun hb => ?_)) | (with_reducible refine Br.eqn (fun hb => ?_) (fun hb => ?_)) | (with_reducible refine Br.nlt (fun hb => ?_) (fun hb => ?_)) | (with_reducible refine Br.nle (fun hb => ?_) (fun hb => ?_)) | (with_reducible refine Br.neqn (fun hb => ?_) (fun hb => ?_)) | (with_reducible refine Br.dec (fun hb => ?_) (fun hb => ?_)) | (with_reducible refine Br.beq (fun hb => ?_) (fun hb => ?_)) | (with_reducible refine Br.ndec (fun hb => ?_) (fun hb => ?_)) | (with_reducible refine Br.nbeq (fun hb => ?_) (fun hb => ?_)) | (with_reducible refine Br.nsym (fun hb => ?_) (fun hb => ?_)) | (with_reducible refine Br.sym (fun hb => ?_) (fun hb => ?_))) <;> (try (first | exact absurd rfl hb | exact absurd (hb.symm.trans hv) (by decide) | exact absurd (hb.symm.trans hv2) (by decide) | exact absurd (hb.symm.trans hv3) (by decide) | exact absurd hb (List.cons_ne_nil _ _) | exact absurd hb (by decide) | (exfalso; omega))))))
              | (refine CallS.ext (ext_indexByte Try.func103 (by decide +kernel) rfl (by kernel_rfl) (by kernel_rfl) ?_))
              | (refine SameV.mk ?_)
              | (refine NeedS.mk (by (try simp only [cutL, List.length_map, List.length_append, List.length_cons, List.length_nil, List.length_take, List.length_drop, List.length_replicate]); omega) ?_)
              | (refine CapS.mk fun c hc hcm => ?_; try simp only [List.length_map, List.length_append, List.length_cons, List.length_nil] at hc)
              | (refine CutS.zn (by (try simp only [cutL, List.length_map, List.length_append, List.length_cons, List.length_nil, List.length_take, List.length_drop, List.length_replicate]); omega) ?_)
              | (refine CutS.nn (by omega) (by (try simp only [cutL, List.length_map, List.length_append, List.length_cons, List.length_nil, List.length_take, List.length_drop, List.length_replicate]); omega) ?_)
              | (refine CutS.at (by (try simp only [cutL, List.length_map, List.length_append, List.length_cons, List.length_nil, List.length_take, List.length_drop, List.length_replicate]); omega) fun i1 i2 hi1 hi2 hj1 hj2 => ?_; try simp only [cutL, List.length_map, List.length_append, List.length_cons, List.length_nil, List.length_take, List.length_drop, List.length_replicate] at hi1 hi2 hj2)
              | (refine SameL.mk ?_)
              | (refine LenS.nil ?_)
              | (refine LenS.one ?_)
              | (refine LenS.map fun hlen => ?_)
              | (refine LenS.int fun hlen => ?_)
              | (refine ArithS.in64 (by omega) ?_)
              | (refine MakeS.nat rfl (by omega) ?_)
              | (refine InS.fill (by omega) ?_)
              | (refine ElemS.fill (by omega) ?_)
              | (refine InS.nat (by omega) ?_)
              | (refine InS.nat (by (try simp only [List.length_map]); omega) ?_)
              | (refine ElemS.the (by assumption) ?_)
              | (refine ElemS.nat (by omega) fun x hx => ?_)
              | (refine ByteS.the (by assumption) ?_)
              | (refine ByteS.nat (by omega) fun x hx => ?_)
              | (refine ElemS.at (by omega) fun i y hi hy => ?_)
              | (refine ByteS.at (by omega) fun i y hi hy => ?_)
              | (refine InS.at (by omega) fun i hi => ?_)
              | (refine AskS.app rfl (by (try simp only [cutL, List.length_take, List.length_drop, List.length_replicate, List.length_map, List.length_append, List.length_cons, List.length_nil]); omega) ?_)
              | (refine draw_k (by decide +kernel) (by decide +kernel) ?_)
              | (refine draw_kb (by decide +kernel) (by decide +kernel) ?_)
              | (refine ret_pick [] rfl rfl rfl ⟨?_, rfl⟩; conv => lhs; whnf)
              | (refine ret_pick [0] rfl rfl rfl ⟨rfl, ?_⟩)
              | (refine he _ _ ?_; clear hn he hr Q') | (refine hn _ ?_; clear hn he hr Q') | (refine hr _ ?_; clear hn he hr Q')))
theorem c_stringslite_Index10 (l : List UInt8) : FnC Try.prog 94 G0 0 [] [.str l, .str [10]] (fun d os => d = .int .i64 (Lib.indexByte l 10) ∧ os = []) := by
  have h10 : ([10] : List UInt8).length = 1 := rfl
  refine fn_rule Try.func94 rfl (by decide +kernel) rfl (fun w0 F0 lent β0 => ?_)
  repeat' (first
           | (with_reducible refine awp_seq_k (fun Q' hn he hr => ?_))
           | (with_reducible refine awp_block_k (fun Q' hn he hr => ?_))
           | (with_reducible refine awp_cond_k ?_)
           | (with_reducible refine awp_region_k ?_)
           | (with_reducible refine awp_draw_k ?_)
           | (with_reducible refine awp_ret_k ?_)
           | (with_reducible refine awp_exit_k ?_)
           | (with_reducible refine awp_skip_k ?_)
           | (with_reducible refine awp_label_k ?_)
           | (with_reducible refine awp_scope_k ?_)
           | (with_reducible refine awp_loop_k ?_)
           | (with_reducible refine hn _ ?_; clear hn he hr Q')
           | (with_reducible refine hr _ ?_; clear hn he hr Q')
           | (with_reducible refine he _ _ ?_; clear hn he hr Q')
           | (conv => whnf
              first
              | ((first | (with_reducible refine br_t ?_) | (with_reducible refine br_f ?_) | (with_reducible refine br_c ?_)); repeat' (first | (with_reducible refine Br.tt ?_) | (with_reducible refine Br.ff ?_) | (with_reducible refine Br.nt ?_) | (with_reducible refine Br.nf ?_) | (with_reducible refine Br.condt ?_) | (with_reducible refine Br.condf ?_) | (with_reducible refine Br.ncondt ?_) | (with_reducible refine Br.ncondf ?_) | ((first | (with_reducible refine Br.lt (fun hb => ?_) (fun hb => ?_)) | (with_reducible refine Br.le (fun hb => ?_) (fun hb => ?_)) | (with_reducible refine Br.eqn (fun hb => ?_) (fun hb => ?_)) | (with_reducible refine Br.nlt (fun hb => ?_) (fun hb => ?_)) | (with_reducible refine Br.nle (fun hb => ?_) (fun hb => ?_)) | (with_reducible refine Br.neqn (fun hb => ?_) (fun hb => ?_)) | (with_reducible refine Br.dec (fun hb => ?_) (fun hb => ?_)) | (with_reducible refine Br.beq (fun hb => ?_) (fun hb => ?_)) | (with_reducible refine Br.ndec (fun hb => ?_) (fun hb => ?_)) | (with_reducible refine Br.nbeq (fun hb => ?_) (fun hb => ?_)) | (with_reducible refine Br.nsym (fun hb => ?_) (fun hb => ?_)) | (with_reducible refine Br.sym (fun hb => ?_) (fun hb => ?_))) <;> (try (first | exact absurd rfl hb | exact absurd (hb.symm.trans hv) (by decide) | exact absurd (hb.symm.trans hv2) (by decide) | exact absurd (hb.symm.trans hv3) (by decide) | exact absurd hb (List.cons_ne_nil _ _) | exact absurd hb (by decide) | (exfalso; omega))))))
              | (refine ByteS.lit 0 rfl rfl ?_)
              | ((with_reducible refine isCall ?_); first | (refine call_pure (c_stringslite_IndexByte l 10) rfl rfl ?_))
              | (refine SameV.mk ?_)
              | (refine NeedS.mk (by (try simp only [cutL, List.length_map, List.length_append, List.length_cons, List.length_nil, List.length_take, List.length_drop, List.length_replicate]); omega) ?_)
              | (refine CapS.mk fun c hc hcm => ?_; try simp only [List.length_map, List.length_append, List.length_cons, List.length_nil] at hc)
              | (refine CutS.zn (by (try simp only [cutL, List.length_map, List.length_append, List.length_cons, List.length_nil, List.length_take, List.length_drop, List.length_replicate]); omega) ?_)
              | (refine CutS.nn (by omega) (by (try simp only [cutL, List.length_map, List.length_append, List.length_cons, List.length_nil, List.length_take, List.length_drop, List.length_replicate]); omega) ?_)
              | (refine CutS.at (by (try simp only [cutL, List.length_map, List.length_append, List.length_cons, List.length_nil, List.length_take, List.length_drop, List.length_replicate]); omega) fun i1 i2 hi1 hi2 hj1 hj2 => ?_; try simp only [cutL, List.length_map, List.length_append, List.length_cons, List.length_nil, List.length_take, List.length_drop, List.length_replicate] at hi1 hi2 hj2)
              | (refine SameL.mk ?_)
              | (refine LenS.nil ?_)
              | (refine LenS.one ?_)
              | (refine LenS.map fun hlen => ?_)
              | (refine LenS.int fun hlen => ?_)
              | (refine ArithS.in64 (by omega) ?_)
              | (refine MakeS.nat rfl (by omega) ?_)
              | (refine InS.fill (by omega) ?_)
              | (refine ElemS.fill (by omega) ?_)
              | (refine InS.nat (by omega) ?_)
              | (refine InS.nat (by (try simp only [List.length_map]); omega) ?_)
              | (refine ElemS.the (by assumption) ?_)
              | (refine ElemS.nat (by omega) fun x hx => ?_)
              | (refine ByteS.the (by assumption) ?_)
              | (refine ByteS.nat (by omega) fun x hx => ?_)
              | (refine ElemS.at (by omega) fun i y hi hy => ?_)
              | (refine ByteS.at (by omega) fun i y hi hy => ?_)
              | (refine InS.at (by omega) fun i hi => ?_)
              | (refine AskS.app rfl (by (try simp only [cutL, List.length_take, List.length_drop, List.length_replicate, List.length_map, List.length_append, List.length_cons, List.length_nil]); omega) ?_)
              | (refine draw_k (by decide +kernel) (by decide +kernel) ?_)
              | (refine draw_kb (by decide +kernel) (by decide +kernel) ?_)
              | (refine ret_pick [] rfl rfl rfl ⟨?_, rfl⟩; conv => lhs; whnf)
              | (refine ret_pick [0] rfl rfl rfl ⟨rfl, ?_⟩)
              | (refine he _ _ ?_; clear hn he hr Q') | (refine hn _ ?_; clear hn he hr Q') | (refine hr _ ?_; clear hn he hr Q')))
  rw [← hb]
  rfl
theorem c_strings_Index10 (l : List UInt8) : FnC Try.prog 81 G0 0 [] [.str l, .str [10]] (fun d os => d = .int .i64 (Lib.indexByte l 10) ∧ os = []) := by
  refine fn_rule Try.func81 rfl (by decide +kernel) rfl (fun w0 F0 lent β0 => ?_)
  repeat' (first
           | (with_reducible refine awp_seq_k (fun Q' hn he hr => ?_))
           | (with_reducible refine awp_block_k (fun Q' hn he hr => ?_))
           | (with_reducible refine awp_cond_k ?_)
           | (with_reducible refine awp_region_k ?_)
           | (with_reducible refine awp_draw_k ?_)
           | (with_reducible refine awp_ret_k ?_)
           | (with_reducible refine awp_exit_k ?_)
           | (with_reducible refine awp_skip_k ?_)
           | (with_reducible refine awp_label_k ?_)
           | (with_reducible refine awp_scope_k ?_)
           | (with_reducible refine awp_loop_k ?_)
           | (with_reducible refine hn _ ?_; clear hn he hr Q')
           | (with_reducible refine hr _ ?_; clear hn he hr Q')
           | (with_reducible refine he _ _ ?_; clear hn he hr Q')
           | (conv => whnf
              first
              | ((first | (with_reducible refine br_t ?_) | (with_reducible refine br_f ?_) | (with_reducible refine br_c ?_)); repeat' (first | (with_reducible refine Br.tt ?_) | (with_reducible refine Br.ff ?_) | (with_reducible refine Br.nt ?_) | (with_reducible refine Br.nf ?_) | (with_reducible refine Br.condt ?_) | (with_reducible refine Br.condf ?_) | (with_reducible refine Br.ncondt ?_) | (with_reducible refine Br.ncondf ?_) | ((first | (with_reducible refine Br.lt (fun hb => ?_) (fun hb => ?_)) | (with_reducible refine Br.le (fun hb => ?_) (fun hb => ?_)) | (with_reducible refine Br.eqn (fun hb => ?_) (fun hb => ?_)) | (with_reducible refine Br.nlt (fun hb => ?_) (fun hb => ?_)) | (with_reducible refine Br.nle (fun hb => ?_) (fun hb => ?_)) | (with_reducible refine Br.neqn (fun hb => ?_) (fun hb => ?_)) | (with_reducible refine Br.dec (fun hb => ?_) (fun hb => ?_)) | (with_reducible refine Br.beq (fun hb => ?_) (fun hb => ?_)) | (with_reducible refine Br.ndec (fun hb => ?_) (fun hb => ?_)) | (with_reducible refine Br.nbeq (fun hb => ?_) (fun hb => ?_)) | (with_reducible refine Br.nsym (fun hb => ?_) (fun hb => ?_)) | (with_reducible refine Br.sym (fun hb => ?_) (fun hb => ?_))) <;> (try (first | exact absurd rfl hb | exact absurd (hb.symm.trans hv) (by decide) | exact absurd (hb.symm.trans hv2) (by decide) | exact absurd (hb.symm.trans hv3) (by decide) | exact absurd hb (List.cons_ne_nil _ _) | exact absurd hb (by decide) | (exfalso; omega))))))
              | ((with_reducible refine isCall ?_); first | (refine call_pure (c_stringslite_Index10 l) rfl rfl ?_))
              | (refine SameV.mk ?_)
              | (refine NeedS.mk (by (try simp only [cutL, List.length_map, List.length_append, List.length_cons, List.length_nil, List.length_take, List.length_drop, List.length_replicate]); omega) ?_)
              | (refine CapS.mk fun c hc hcm => ?_; try simp only [List.length_map, List.length_append, List.length_cons, List.length_nil] at hc)
              | (refine CutS.zn (by (try simp only [cutL, List.length_map, List.length_append, List.length_cons, List.length_nil, List.length_take, List.length_drop, List.length_replicate]); omega) ?_)
              | (refine CutS.nn (by omega) (by (try simp only [cutL, List.length_map, List.length_append, List.length_cons, List.length_nil, List.length_take, List.length_drop, List.length_replicate]); omega) ?_)
              | (refine CutS.at (by (try simp only [cutL, List.length_map, List.length_append, List.length_cons, List.length_nil, List.length_take, List.length_drop, List.length_replicate]); omega) fun i1 i2 hi1 hi2 hj1 hj2 => ?_; try simp only [cutL, List.length_map, List.length_append, List.length_cons, List.length_nil, List.length_take, List.length_drop, List.length_replicate] at hi1 hi2 hj2)
              | (refine SameL.mk ?_)
              | (refine LenS.nil ?_)
              | (refine LenS.one ?_)
              | (refine LenS.map fun hlen => ?_)
              | (refine LenS.int fun hlen => ?_)
              | (refine ArithS.in64 (by omega) ?_)
              | (refine MakeS.nat rfl (by omega) ?_)
              | (refine InS.fill (by omega) ?_)
              | (refine ElemS.fill (by omega) ?_)
              | (refine InS.nat (by omega) ?_)
              | (refine InS.nat (by (try simp only [List.length_map]); omega) ?_)
              | (refine ElemS.the (by assumption) ?_)
              | (refine ElemS.nat (by omega) fun x hx => ?_)
              | (refine ByteS.the (by assumption) ?_)
              | (refine ByteS.nat (by omega) fun x hx => ?_)
              | (refine ElemS.at (by omega) fun i y hi hy => ?_)
              | (refine ByteS.at (by omega) fun i y hi hy => ?_)
              | (refine InS.at (by omega) fun i hi => ?_)
              | (refine AskS.app rfl (by (try simp only [cutL, List.length_take, List.length_drop, List.length_replicate, List.length_map, List.length_append, List.length_cons, List.length_nil]); omega) ?_)
              | (refine draw_k (by decide +kernel) (by decide +kernel) ?_)
              | (refine draw_kb (by decide +kernel) (by decide +kernel) ?_)
              | (refine ret_pick [] rfl rfl rfl ⟨?_, rfl⟩; conv => lhs; whnf)
              | (refine ret_pick [0] rfl rfl rfl ⟨rfl, ?_⟩)
              | (refine he _ _ ?_; clear hn he hr Q') | (refine hn _ ?_; clear hn he hr Q') | (refine hr _ ?_; clear hn he hr Q')))
theorem c_strings_Contains10 (l : List UInt8) : FnC Try.prog 65 G0 0 [] [.str l, .str [10]] (fun d os => d = .bool (!lineB l) ∧ os = []) := by
  rw [← indexByte_line]
  refine fn_rule Try.func65 rfl (by decide +kernel) rfl (fun w0 F0 lent β0 => ?_)
  repeat' (first
           | (with_reducible refine awp_seq_k (fun Q' hn he hr => ?_))
           | (with_reducible refine awp_block_k (fun Q' hn he hr => ?_))
           | (with_reducible refine awp_cond_k ?_)
           | (with_reducible refine awp_region_k ?_)
           | (with_reducible refine awp_draw_k ?_)
           | (with_reducible refine awp_ret_k ?_)
           | (with_reducible refine awp_exit_k ?_)
           | (with_reducible refine awp_skip_k ?_)
           | (with_reducible refine awp_label_k ?_)
           | (with_reducible refine awp_scope_k ?_)
           | (with_reducible refine awp_loop_k ?_)
           | (with_reducible refine hn _ ?_; clear hn he hr Q')
           | (with_reducible refine hr _ ?_; clear hn he hr Q')
           | (with_reducible refine he _ _ ?_; clear hn he hr Q')
           | (conv => whnf
              first
              | ((first | (with_reducible refine br_t ?_) | (with_reducible refine br_f ?_) | (with_reducible refine br_c ?_)); repeat' (first | (with_reducible refine Br.tt ?_) | (with_reducible refine Br.ff ?_) | (with_reducible refine Br.nt ?_) | (with_reducible refine Br.nf ?_) | (with_reducible refine Br.condt ?_) | (with_reducible refine Br.condf ?_) | (with_reducible refine Br.ncondt ?_) | (with_reducible refine Br.ncondf ?_) | ((first | (with_reducible refine Br.lt (fun hb => ?_) (fun hb => ?_)) | (with_reducible refine Br.le (fun hb => ?_) (fun hb => ?_)) | (with_reducible refine Br.eqn (fun hb => ?_) (fun hb => ?_)) | (with_reducible refine Br.nlt (fun hb => ?_) (fun hb => ?_)) | (with_reducible refine Br.nle (fun hb => ?_) (fun hb => ?_)) | (with_reducible refine Br.neqn (fun hb => ?_) (fun hb => ?_)) | (with_reducible refine Br.dec (fun hb => ?_) (fun hb => ?_)) | (with_reducible refine Br.beq (fun hb => ?_) (fun hb => ?_)) | (with_reducible refine Br.ndec (fun hb => ?_) (fun hb => ?_)) | (with_reducible refine Br.nbeq (fun hb => ?_) (fun hb => ?_)) | (with_reducible refine Br.nsym (fun hb => ?_) (fun hb => ?_)) | (with_reducible refine Br.sym (fun hb => ?_) (fun hb => ?_))) <;> (try (first | exact absurd rfl hb | exact absurd (hb.symm.trans hv) (by decide) | exact absurd (hb.symm.trans hv2) (by decide) | exact absurd (hb.symm.trans hv3) (by decide) | exact absurd hb (List.cons_ne_nil _ _) | exact absurd hb (by decide) | (exfalso; omega))))))
              | ((with_reducible refine isCall ?_); first | (refine call_pure (c_strings_Index10 l) rfl rfl ?_))
              | (refine SameV.mk ?_)
              | (refine NeedS.mk (by (try simp only [cutL, List.length_map, List.length_append, List.length_cons, List.length_nil, List.length_take, List.length_drop, List.length_replicate]); omega) ?_)
              | (refine CapS.mk fun c hc hcm => ?_; try simp only [List.length_map, List.length_append, List.length_cons, List.length_nil] at hc)
              | (refine CutS.zn (by (try simp only [cutL, List.length_map, List.length_append, List.length_cons, List.length_nil, List.length_take, List.length_drop, List.length_replicate]); omega) ?_)
              | (refine CutS.nn (by omega) (by (try simp only [cutL, List.length_map, List.length_append, List.length_cons, List.length_nil, List.length_take, List.length_drop, List.length_replicate]); omega) ?_)
              | (refine CutS.at (by (try simp only [cutL, List.length_map, List.length_append, List.length_cons, List.length_nil, List.length_take, List.length_drop, List.length_replicate]); omega) fun i1 i2 hi1 hi2 hj1 hj2 => ?_; try simp only [cutL, List.length_map, List.length_append, List.length_cons, List.length_nil, List.length_take, List.length_drop, List.length_replicate] at hi1 hi2 hj2)
              | (refine SameL.mk ?_)
              | (refine LenS.nil ?_)
              | (refine LenS.one ?_)
              | (refine LenS.map fun hlen => ?_)
              | (refine LenS.int fun hlen => ?_)
              | (refine ArithS.in64 (by omega) ?_)
              | (refine MakeS.nat rfl (by omega) ?_)
              | (refine InS.fill (by omega) ?_)
              | (refine ElemS.fill (by omega) ?_)
              | (refine InS.nat (by omega) ?_)
              | (refine InS.nat (by (try simp only [List.length_map]); omega) ?_)
              | (refine ElemS.the (by assumption) ?_)
              | (refine ElemS.nat (by omega) fun x hx => ?_)
              | (refine ByteS.the (by assumption) ?_)
              | (refine ByteS.nat (by omega) fun x hx => ?_)
              | (refine ElemS.at (by omega) fun i y hi hy => ?_)
              | (refine ByteS.at (by omega) fun i y hi hy => ?_)
              | (refine InS.at (by omega) fun i hi => ?_)
              | (refine AskS.app rfl (by (try simp only [cutL, List.length_take, List.length_drop, List.length_replicate, List.length_map, List.length_append, List.length_cons, List.length_nil]); omega) ?_)
              | (refine draw_k (by decide +kernel) (by decide +kernel) ?_)
              | (refine draw_kb (by decide +kernel) (by decide +kernel) ?_)
              | (refine ret_pick [] rfl rfl rfl ⟨?_, rfl⟩; conv => lhs; whnf)
              | (refine ret_pick [0] rfl rfl rfl ⟨rfl, ?_⟩)
              | (refine he _ _ ?_; clear hn he hr Q') | (refine hn _ ?_; clear hn he hr Q') | (refine hr _ ?_; clear hn he hr Q')))
def validB (b : TBlock) : Bool := nameB b.fKind && (nameB b.fName && (decide (b.fText.length ≤ 400) && lineB b.fText))
theorem c_impl_ValidBlock (b : TBlock) : FnC Try.prog 47 G0 0 [] [.agg (encBlock b)] (fun d os => d = .bool (validB b) ∧ os = []) := by
  refine fn_rule Try.func47 rfl (by decide +kernel) rfl (fun w0 F0 lent β0 => ?_)
  repeat' (first
           | (with_reducible refine awp_seq_k (fun Q' hn he hr => ?_))
           | (with_reducible refine awp_block_k (fun Q' hn he hr => ?_))
           | (with_reducible refine awp_cond_k ?_)
           | (with_reducible refine awp_region_k ?_)
           | (with_reducible refine awp_draw_k ?_)
           | (with_reducible refine awp_ret_k ?_)
           | (with_reducible refine awp_exit_k ?_)
           | (with_reducible refine awp_skip_k ?_)
           | (with_reducible refine awp_label_k ?_)
           | (with_reducible refine awp_scope_k ?_)
           | (with_reducible refine awp_loop_k ?_)
           | (with_reducible refine hn _ ?_; clear hn he hr Q')
           | (with_reducible refine hr _ ?_; clear hn he hr Q')
           | (with_reducible refine he _ _ ?_; clear hn he hr Q')
           | (conv => whnf
              first
              | ((first | (with_reducible refine br_t ?_) | (with_reducible refine br_f ?_) | (with_reducible refine br_c ?_)); repeat' (first | (with_reducible refine Br.tt ?_) | (with_reducible refine Br.ff ?_) | (with_reducible refine Br.nt ?_) | (with_reducible refine Br.nf ?_) | (with_reducible refine Br.condt ?_) | (with_reducible refine Br.condf ?_) | (with_reducible refine Br.ncondt ?_) | (with_reducible refine Br.ncondf ?_) | ((first | (with_reducible refine Br.lt (fun hb => ?_) (fun hb => ?_)) | (with_reducible refine Br.le (fun hb => ?_) (fun hb => ?_)) | (with_reducible refine Br.eqn (fun hb => ?_) (fun hb => ?_)) | (with_reducible refine Br.nlt (fun hb => ?_) (fun hb => ?_)) | (with_reducible refine Br.nle (fun hb => ?_) (fun hb => ?_)) | (with_reducible refine Br.neqn (fun hb => ?_) (fun hb => ?_)) | (with_reducible refine Br.dec (fun hb => ?_) (fun hb => ?_)) | (with_reducible refine Br.beq (fun hb => ?_) (fun hb => ?_)) | (with_reducible refine Br.ndec (fun hb => ?_) (fun hb => ?_)) | (with_reducible refine Br.nbeq (fun hb => ?_) (fun hb => ?_)) | (with_reducible refine Br.nsym (fun hb => ?_) (fun hb => ?_)) | (with_reducible refine Br.sym (fun hb => ?_) (fun hb => ?_))) <;> (try (first | exact absurd rfl hb | exact absurd (hb.symm.trans hv) (by decide) | exact absurd (hb.symm.trans hv2) (by decide) | exact absurd (hb.symm.trans hv3) (by decide) | exact absurd hb (List.cons_ne_nil _ _) | exact absurd hb (by decide) | (exfalso; omega))))))
              | ((with_reducible refine isCall ?_); first | (refine call_pure (c_impl_IsName _) rfl rfl ?_) | (refine call_pure (c_strings_Contains10 _) rfl rfl ?_))
              | (refine SameV.mk ?_)
              | (refine NeedS.mk (by (try simp only [cutL, List.length_map, List.length_append, List.length_cons, List.length_nil, List.length_take, List.length_drop, List.length_replicate]); omega) ?_)
              | (refine CapS.mk fun c hc hcm => ?_; try simp only [List.length_map, List.length_append, List.length_cons, List.length_nil] at hc)
              | (refine CutS.zn (by (try simp only [cutL, List.length_map, List.length_append, List.length_cons, List.length_nil, List.length_take, List.length_drop, List.length_replicate]); omega) ?_)
              | (refine CutS.nn (by omega) (by (try simp only [cutL, List.length_map, List.length_append, List.length_cons, List.length_nil, List.length_take, List.length_drop, List.length_replicate]); omega) ?_)
              | (refine CutS.at (by (try simp only [cutL, List.length_map, List.length_append, List.length_cons, List.length_nil, List.length_take, List.length_drop, List.length_replicate]); omega) fun i1 i2 hi1 hi2 hj1 hj2 => ?_; try simp only [cutL, List.length_map, List.length_append, List.length_cons, List.length_nil, List.length_take, List.length_drop, List.length_replicate] at hi1 hi2 hj2)
              | (refine SameL.mk ?_)
              | (refine LenS.nil ?_)
              | (refine LenS.one ?_)
              | (refine LenS.map fun hlen => ?_)
              | (refine LenS.int fun hlen => ?_)
              | (refine ArithS.in64 (by omega) ?_)
              | (refine MakeS.nat rfl (by omega) ?_)
              | (refine InS.fill (by omega) ?_)
              | (refine ElemS.fill (by omega) ?_)
              | (refine InS.nat (by omega) ?_)
              | (refine InS.nat (by (try simp only [List.length_map]); omega) ?_)
              | (refine ElemS.the (by assumption) ?_)
              | (refine ElemS.nat (by omega) fun x hx => ?_)
              | (refine ByteS.the (by assumption) ?_)
              | (refine ByteS.nat (by omega) fun x hx => ?_)
              | (refine ElemS.at (by omega) fun i y hi hy => ?_)
              | (refine ByteS.at (by omega) fun i y hi hy => ?_)
              | (refine InS.at (by omega) fun i hi => ?_)
              | (refine AskS.app rfl (by (try simp only [cutL, List.length_take, List.length_drop, List.length_replicate, List.length_map, List.length_append, List.length_cons, List.length_nil]); omega) ?_)
              | (refine draw_k (by decide +kernel) (by decide +kernel) ?_)
              | (refine draw_kb (by decide +kernel) (by decide +kernel) ?_)
              | (refine ret_pick [] rfl rfl rfl ⟨?_, rfl⟩; conv => lhs; whnf)
              | (refine ret_pick [0] rfl rfl rfl ⟨rfl, ?_⟩)
              | (refine he _ _ ?_; clear hn he hr Q') | (refine hn _ ?_; clear hn he hr Q') | (refine hr _ ?_; clear hn he hr Q')))
  all_goals simp [validB, *]
  all_goals omega
theorem c_spec_l29One (b : TBlock) : FnC Try.prog 60 G0 0 [] [.rp (encBlock b)] (fun d os => d = .bool (validB b) ∧ os = []) := by
  refine fn_rule Try.func60 rfl (by decide +kernel) rfl (fun w0 F0 lent β0 => ?_)
  repeat' (first
           | (with_reducible refine awp_seq_k (fun Q' hn he hr => ?_))
           | (with_reducible refine awp_block_k (fun Q' hn he hr => ?_))
           | (with_reducible refine awp_cond_k ?_)
           | (with_reducible refine awp_region_k ?_)
           | (with_reducible refine awp_draw_k ?_)
           | (with_reducible refine awp_ret_k ?_)
           | (with_reducible refine awp_exit_k ?_)
           | (with_reducible refine awp_skip_k ?_)
           | (with_reducible refine awp_label_k ?_)
           | (with_reducible refine awp_scope_k ?_)
           | (with_reducible refine awp_loop_k ?_)
           | (with_reducible refine hn _ ?_; clear hn he hr Q')
           | (with_reducible refine hr _ ?_; clear hn he hr Q')
           | (with_reducible refine he _ _ ?_; clear hn he hr Q')
           | (conv => whnf
              first
              | ((first | (with_reducible refine br_t ?_) | (with_reducible refine br_f ?_) | (with_reducible refine br_c ?_)); repeat' (first | (with_reducible refine Br.tt ?_) | (with_reducible refine Br.ff ?_) | (with_reducible refine Br.nt ?_) | (with_reducible refine Br.nf ?_) | (with_reducible refine Br.condt ?_) | (with_reducible refine Br.condf ?_) | (with_reducible refine Br.ncondt ?_) | (with_reducible refine Br.ncondf ?_) | ((first | (with_reducible refine Br.lt (fun hb => ?_) (fun hb => ?_)) | (with_reducible refine Br.le (fun hb => ?_) (fun hb => ?_)) | (with_reducible refine Br.eqn (fun hb => ?_) (fun hb => ?_)) | (with_reducible refine Br.nlt (fun hb => ?_) (fun hb => ?_)) | (with_reducible refine Br.nle (fun hb => ?_) (fun hb => ?_)) | (with_reducible refine Br.neqn (fun hb => ?_) (fun hb => ?_)) | (with_reducible refine Br.dec (fun hb => ?_) (fun hb => ?_)) | (with_reducible refine Br.beq (fun hb => ?_) (fun hb => ?_)) | (with_reducible refine Br.ndec (fun hb => ?_) (fun hb => ?_)) | (with_reducible refine Br.nbeq (fun hb => ?_) (fun hb => ?_)) | (with_reducible refine Br.nsym (fun hb => ?_) (fun hb => ?_)) | (with_reducible refine Br.sym (fun hb => ?_) (fun hb => ?_))) <;> (try (first | exact absurd rfl hb | exact absurd (hb.symm.trans hv) (by decide) | exact absurd (hb.symm.trans hv2) (by decide) | exact absurd (hb.symm.trans hv3) (by decide) | exact absurd hb (List.cons_ne_nil _ _) | exact absurd hb (by decide) | (exfalso; omega))))))
              | (refine SameV.mk ?_)
              | (refine NeedS.mk (by (try simp only [cutL, List.length_map, List.length_append, List.length_cons, List.length_nil, List.length_take, List.length_drop, List.length_replicate]); omega) ?_)
              | (refine CapS.mk fun c hc hcm => ?_; try simp only [List.length_map, List.length_append, List.length_cons, List.length_nil] at hc)
              | (refine CutS.zn (by (try simp only [cutL, List.length_map, List.length_append, List.length_cons, List.length_nil, List.length_take, List.length_drop, List.length_replicate]); omega) ?_)
              | (refine CutS.nn (by omega) (by (try simp only [cutL, List.length_map, List.length_append, List.length_cons, List.length_nil, List.length_take, List.length_drop, List.length_replicate]); omega) ?_)
              | (refine CutS.at (by (try simp only [cutL, List.length_map, List.length_append, List.length_cons, List.length_nil, List.length_take, List.length_drop, List.length_replicate]); omega) fun i1 i2 hi1 hi2 hj1 hj2 => ?_; try simp only [cutL, List.length_map, List.length_append, List.length_cons, List.length_nil, List.length_take, List.length_drop, List.length_replicate] at hi1 hi2 hj2)
              | (refine SameL.mk ?_)
              | (refine LenS.nil ?_)
              | (refine LenS.one ?_)
              | (refine LenS.map fun hlen => ?_)
              | (refine LenS.int fun hlen => ?_)
              | (refine ArithS.in64 (by omega) ?_)
              | (refine MakeS.nat rfl (by omega) ?_)
              | (refine InS.fill (by omega) ?_)
              | (refine ElemS.fill (by omega) ?_)
              | (refine InS.nat (by omega) ?_)
              | (refine InS.nat (by (try simp only [List.length_map]); omega) ?_)
              | (refine ElemS.the (by assumption) ?_)
              | (refine ElemS.nat (by omega) fun x hx => ?_)
              | (refine ByteS.the (by assumption) ?_)
              | (refine ByteS.nat (by omega) fun x hx => ?_)
              | (refine ElemS.at (by omega) fun i y hi hy => ?_)
              | (refine ByteS.at (by omega) fun i y hi hy => ?_)
              | (refine InS.at (by omega) fun i hi => ?_)
              | (refine AskS.app rfl (by (try simp only [cutL, List.length_take, List.length_drop, List.length_replicate, List.length_map, List.length_append, List.length_cons, List.length_nil]); omega) ?_)
              | (refine draw_k (by decide +kernel) (by decide +kernel) ?_)
              | (refine draw_kb (by decide +kernel) (by decide +kernel) ?_)
              | (refine ret_pick [] rfl rfl rfl ⟨?_, rfl⟩; conv => lhs; whnf)
              | (refine ret_pick [0] rfl rfl rfl ⟨rfl, ?_⟩)
              | (refine he _ _ ?_; clear hn he hr Q') | (refine hn _ ?_; clear hn he hr Q') | (refine hr _ ?_; clear hn he hr Q')))
  refine loop_env (fun k : Nat => [(0,.rp (encBlock b)),(3,.int .i64 k)]) (fun _ => []) (fun k => k ≤ b.fText.length ∧ allTo (fun c => !decide ((c.toNat : Int) = 10)) b.fText k) (fun k => b.fText.length - k) 0 ⟨by omega, allTo_zero⟩ (by refine weak_to rfl rfl rfl ?_; ((repeat' (first | exact trivial | refine And.intro ?_ ?_)) <;> (first | rfl | (conv => rhs; whnf) <;> (first | rfl | (refine congrArg (D.int _) ?_; omega))))) (fun k hk Q' hn he hr => ?_)
  repeat' (first
           | (with_reducible refine awp_seq_k (fun Q' hn he hr => ?_))
           | (with_reducible refine awp_block_k (fun Q' hn he hr => ?_))
           | (with_reducible refine awp_cond_k ?_)
           | (with_reducible refine awp_region_k ?_)
           | (with_reducible refine awp_draw_k ?_)
           | (with_reducible refine awp_ret_k ?_)
           | (with_reducible refine awp_exit_k ?_)
           | (with_reducible refine awp_skip_k ?_)
           | (with_reducible refine awp_label_k ?_)
           | (with_reducible refine awp_scope_k ?_)
           | (with_reducible refine awp_loop_k ?_)
           | (with_reducible refine hn _ ?_; clear hn he hr Q')
           | (with_reducible refine hr _ ?_; clear hn he hr Q')
           | (with_reducible refine he _ _ ?_; clear hn he hr Q')
           | (conv => whnf
              first
              | ((first | (with_reducible refine br_t ?_) | (with_reducible refine br_f ?_) | (with_reducible refine br_c ?_)); repeat' (first | (with_reducible refine Br.tt ?_) | (with_reducible refine Br.ff ?_) | (with_reducible refine Br.nt ?_) | (with_reducible refine Br.nf ?_) | (with_reducible refine Br.condt ?_) | (with_reducible refine Br.condf ?_) | (with_reducible refine Br.ncondt ?_) | (with_reducible refine Br.ncondf ?_) | ((first | (with_reducible refine Br.lt (fun hb => ?_) (fun hb => ?_)) | (with_reducible refine Br.le (fun hb => ?_) (fun hb => ?_)) | (with_reducible refine Br.eqn (fun hb => ?_) (fun hb => ?_)) | (with_reducible refine Br.nlt (fun hb => ?_) (fun hb => ?_)) | (with_reducible refine Br.nle (fun hb => ?_) (fun hb => ?_)) | (with_reducible refine Br.neqn (fun hb => ?_) (fun hb => ?_)) | (with_reducible refine Br.dec (fun hb => ?_) (fun hb => ?_)) | (with_reducible refine Br.beq (fun hb => ?_) (fun hb => ?_)) | (with_reducible refine Br.ndec (fun hb => ?_) (fun hb => ?_)) | (with_reducible refine Br.nbeq (fun hb => ?_) (fun hb => ?_)) | (with_reducible refine Br.nsym (fun hb => ?_) (fun hb => ?_)) | (with_reducible refine Br.sym (fun hb => ?_) (fun hb => ?_))) <;> (try (first | exact absurd rfl hb | exact absurd (hb.symm.trans hv) (by decide) | exact absurd (hb.symm.trans hv2) (by decide) | exact absurd (hb.symm.trans hv3) (by decide) | exact absurd hb (List.cons_ne_nil _ _) | exact absurd hb (by decide) | (exfalso; omega))))))
              | ((with_reducible refine isCall ?_); first | (refine call_pure (c_spec_l01Name _) rfl rfl ?_))
              | (refine SameV.mk ?_)
              | (refine NeedS.mk (by (try simp only [cutL, List.length_map, List.length_append, List.length_cons, List.length_nil, List.length_take, List.length_drop, List.length_replicate]); omega) ?_)
              | (refine CapS.mk fun c hc hcm => ?_; try simp only [List.length_map, List.length_append, List.length_cons, List.length_nil] at hc)
              | (refine CutS.zn (by (try simp only [cutL, List.length_map, List.length_append, List.length_cons, List.length_nil, List.length_take, List.length_drop, List.length_replicate]); omega) ?_)
              | (refine CutS.nn (by omega) (by (try simp only [cutL, List.length_map, List.length_append, List.length_cons, List.length_nil, List.length_take, List.length_drop, List.length_replicate]); omega) ?_)
              | (refine CutS.at (by (try simp only [cutL, List.length_map, List.length_append, List.length_cons, List.length_nil, List.length_take, List.length_drop, List.length_replicate]); omega) fun i1 i2 hi1 hi2 hj1 hj2 => ?_; try simp only [cutL, List.length_map, List.length_append, List.length_cons, List.length_nil, List.length_take, List.length_drop, List.length_replicate] at hi1 hi2 hj2)
              | (refine SameL.mk ?_)
              | (refine LenS.nil ?_)
              | (refine LenS.one ?_)
              | (refine LenS.map fun hlen => ?_)
              | (refine LenS.int fun hlen => ?_)
              | (refine ArithS.in64 (by omega) ?_)
              | (refine MakeS.nat rfl (by omega) ?_)
              | (refine InS.fill (by omega) ?_)
              | (refine ElemS.fill (by omega) ?_)
              | (refine InS.nat (by omega) ?_)
              | (refine InS.nat (by (try simp only [List.length_map]); omega) ?_)
              | (refine ElemS.the (by assumption) ?_)
              | (refine ElemS.nat (by omega) fun x hx => ?_)
              | (refine ByteS.the (by assumption) ?_)
              | (refine ByteS.nat (by omega) fun x hx => ?_)
              | (refine ElemS.at (by omega) fun i y hi hy => ?_)
              | (refine ByteS.at (by omega) fun i y hi hy => ?_)
              | (refine InS.at (by omega) fun i hi => ?_)
              | (refine AskS.app rfl (by (try simp only [cutL, List.length_take, List.length_drop, List.length_replicate, List.length_map, List.length_append, List.length_cons, List.length_nil]); omega) ?_)
              | (refine draw_k (by decide +kernel) (by decide +kernel) ?_)
              | (refine draw_kb (by decide +kernel) (by decide +kernel) ?_)
              | (refine ret_pick [] rfl rfl rfl ⟨?_, rfl⟩; conv => lhs; whnf)
              | (refine ret_pick [0] rfl rfl rfl ⟨rfl, ?_⟩)
              | (refine he _ _ ?_; clear hn he hr Q') | (refine hn _ ?_; clear hn he hr Q') | (refine hr _ ?_; clear hn he hr Q')))
  · have h9 := all_not_at (p := fun c => !decide ((c.toNat : Int) = 10)) ‹b.fText[k]? = some _› (by simp [hb])
    have h8 : lineB b.fText = false := h9
    simp [validB, h8]
  · exact ⟨k + 1, ⟨by omega, allTo_succ hk.2 ‹b.fText[k]? = some _› (by simp [hb])⟩, by omega, (by refine weak_to rfl rfl rfl ?_; ((repeat' (first | exact trivial | refine And.intro ?_ ?_)) <;> (first | rfl | (conv => rhs; whnf) <;> (first | rfl | (refine congrArg (D.int _) ?_; omega)))))⟩
  all_goals
    have h9 := all_of_allTo hk.2 (by omega)
    have h8 : lineB b.fText = true := h9
    simp [validB, h8, *]
    try omega
end Go.Eng
