/-
  The program's FindingText returns what the reference's returns, for all arguments.
  No conditions.
-/
import Derived.Test.YtikdfigokjhdgaaDoorF1
import Derived.Test.YtikdfigokjhdgaaDoorRows
import Derived.Test.YtikdfigokjhdgaaDoorCards
import Derived.Test.YtikdfigokjhdgaaDoorTie
import Derived.Test.YtikdfigokjhdgaaDoorChecked
import Derived.ProofKit
import Derived.OpenShut
import Derived.ShutString
import Derived.ChangeOld
import Derived.LaidMore
import Derived.LaidHandle
import Derived.MakeChecks
import Derived.OpenVars
import Derived.SevenTiedAt
import Derived.Stop.Joined
namespace Go.Eng
open Go Go.RowKit Go.Proofs
set_option maxRecDepth 100000
structure TFinding where
  fKind : Int
  fWho : List UInt8
  fWhat : List UInt8
def encFinding (x : TFinding) : List D := [.int .i64 x.fKind, .str x.fWho, .str x.fWhat]
def TFinding.sz (x : TFinding) : Nat := x.fWho.length + x.fWhat.length
def eqTFinding (a b : TFinding) : Bool := eqI a.fKind b.fKind && (eqStr a.fWho b.fWho && (eqStr a.fWhat b.fWhat))
theorem eqTFinding_refl (x : TFinding) : eqTFinding x x = true := by simp [eqTFinding, eqI, eqStr, eqBo]
theorem c_szFinding (x : TFinding) (left : Int) (h0 : 0 ≤ left) (h1 : left ≤ 1048576) : FnC Tryd.prog 8 G0 0 [] [.agg (encFinding x), .int .i64 left] (fun d os => d = .int .i64 (if x.sz ≤ left then left - x.sz else -1) ∧ os = []) := by
  refine fn_rule Tryd.func8 rfl (by decide +kernel) rfl (fun w0 F0 lent β0 => ?_)
  repeat' (first
           | (with_reducible refine awp_seq_k (fun Q' hn he hr => ?_))
           | (with_reducible refine awp_block_k (fun Q' hn he hr => ?_))
           | (with_reducible refine awp_cond_k ?_)
           | (with_reducible refine awp_region_k ?_)
           | (with_reducible refine awp_draw_k ?_)
           | (with_reducible refine awp_ret_k ?_)
           | (with_reducible refine awp_exit_k ?_)
           | (with_reducible refine awp_skip_k ?_)
           | (with_reducible refine awp_label_k ?_)
           | (with_reducible refine awp_scope_k ?_)
           | (with_reducible refine awp_loop_k ?_)
           | (with_reducible refine hn _ ?_; clear hn he hr Q')
           | (with_reducible refine hr _ ?_; clear hn he hr Q')
           | (with_reducible refine he _ _ ?_; clear hn he hr Q')
           | (conv => whnf
              first
              | ((first | (with_reducible refine br_t ?_) | (with_reducible refine br_f ?_) | (with_reducible refine br_c ?_)); repeat' (first | (with_reducible refine Br.tt ?_) | (with_reducible refine Br.ff ?_) | (with_reducible refine Br.nt ?_) | (with_reducible refine Br.nf ?_) | (with_reducible refine Br.condt ?_) | (with_reducible refine Br.condf ?_) | (with_reducible refine Br.ncondt ?_) | (with_reducible refine Br.ncondf ?_) | ((first | (with_reducible refine Br.lt (fun hb => ?_) (fun hb => ?_)) | (with_reducible refine Br.le (fun hb => ?_) (fun hb => ?_)) | (with_reducible refine Br.eqn (fun hb => ?_) (fun hb => ?_)) | (with_reducible refine Br.nlt (fun hb => ?_) (fun hb => ?_)) | (with_reducible refine Br.nle (fun hb => ?_) (fun hb => ?_)) | (with_reducible refine Br.neqn (fun hb => ?_) (fun hb => ?_)) | (with_reducible refine Br.dec (fun hb => ?_) (fun hb => ?_)) | (with_reducible refine Br.beq (fun hb => ?_) (fun hb => ?_)) | (with_reducible refine Br.ndec (fun hb => ?_) (fun hb => ?_)) | (with_reducible refine Br.nbeq (fun hb => ?_) (fun hb => ?_)) | (with_reducible refine Br.nsym (fun hb => ?_) (fun hb => ?_)) | (with_reducible refine Br.sym (fun hb => ?_) (fun hb => ?_))) <;> (try (first | exact absurd rfl hb | exact absurd hb (List.cons_ne_nil _ _) | (exfalso; omega))))))
              | (refine LenS.map fun hlen => ?_)
              | (refine LenS.int fun hlen => ?_)
              | (refine ArithS.in64 (by omega) ?_)
              | (refine MakeS.nat rfl (by omega) ?_)
              | (refine InS.fill (by omega) ?_)
              | (refine ElemS.fill (by omega) ?_)
              | (refine InS.nat (by omega) ?_)
              | (refine ElemS.the (by assumption) ?_)
              | (refine ElemS.nat (by omega) fun x hx => ?_)
              | (refine ByteS.the (by assumption) ?_)
              | (refine ByteS.nat (by omega) fun x hx => ?_)
              | (refine draw_k (by decide +kernel) (by decide +kernel) ?_)
              | (refine ret_pick [] rfl rfl rfl ⟨?_, rfl⟩; conv => lhs; whnf)
              | (refine he _ _ ?_; clear hn he hr Q') | (refine hn _ ?_; clear hn he hr Q') | (refine hr _ ?_; clear hn he hr Q')))
  all_goals simp only [TFinding.sz]
  all_goals (first | rfl | (refine congrArg (D.int _) ?_; first | rfl | omega | (split <;> omega)))
theorem c_toFinding (x : TFinding) : FnC Tryd.prog 10 G0 0 [] [.agg (encFinding x)] (fun d os => d = .agg (encFinding x) ∧ os = []) := by
  refine fn_rule Tryd.func10 rfl (by decide +kernel) rfl (fun w0 F0 lent β0 => ?_)
  repeat' (first
           | (with_reducible refine awp_seq_k (fun Q' hn he hr => ?_))
           | (with_reducible refine awp_block_k (fun Q' hn he hr => ?_))
           | (with_reducible refine awp_cond_k ?_)
           | (with_reducible refine awp_region_k ?_)
           | (with_reducible refine awp_draw_k ?_)
           | (with_reducible refine awp_ret_k ?_)
           | (with_reducible refine awp_exit_k ?_)
           | (with_reducible refine awp_skip_k ?_)
           | (with_reducible refine awp_label_k ?_)
           | (with_reducible refine awp_scope_k ?_)
           | (with_reducible refine awp_loop_k ?_)
           | (with_reducible refine hn _ ?_; clear hn he hr Q')
           | (with_reducible refine hr _ ?_; clear hn he hr Q')
           | (with_reducible refine he _ _ ?_; clear hn he hr Q')
           | (conv => whnf
              first
              | ((first | (with_reducible refine br_t ?_) | (with_reducible refine br_f ?_) | (with_reducible refine br_c ?_)); repeat' (first | (with_reducible refine Br.tt ?_) | (with_reducible refine Br.ff ?_) | (with_reducible refine Br.nt ?_) | (with_reducible refine Br.nf ?_) | (with_reducible refine Br.condt ?_) | (with_reducible refine Br.condf ?_) | (with_reducible refine Br.ncondt ?_) | (with_reducible refine Br.ncondf ?_) | ((first | (with_reducible refine Br.lt (fun hb => ?_) (fun hb => ?_)) | (with_reducible refine Br.le (fun hb => ?_) (fun hb => ?_)) | (with_reducible refine Br.eqn (fun hb => ?_) (fun hb => ?_)) | (with_reducible refine Br.nlt (fun hb => ?_) (fun hb => ?_)) | (with_reducible refine Br.nle (fun hb => ?_) (fun hb => ?_)) | (with_reducible refine Br.neqn (fun hb => ?_) (fun hb => ?_)) | (with_reducible refine Br.dec (fun hb => ?_) (fun hb => ?_)) | (with_reducible refine Br.beq (fun hb => ?_) (fun hb => ?_)) | (with_reducible refine Br.ndec (fun hb => ?_) (fun hb => ?_)) | (with_reducible refine Br.nbeq (fun hb => ?_) (fun hb => ?_)) | (with_reducible refine Br.nsym (fun hb => ?_) (fun hb => ?_)) | (with_reducible refine Br.sym (fun hb => ?_) (fun hb => ?_))) <;> (try (first | exact absurd rfl hb | exact absurd hb (List.cons_ne_nil _ _) | (exfalso; omega))))))
              | (refine LenS.map fun hlen => ?_)
              | (refine LenS.int fun hlen => ?_)
              | (refine ArithS.in64 (by omega) ?_)
              | (refine MakeS.nat rfl (by omega) ?_)
              | (refine InS.fill (by omega) ?_)
              | (refine ElemS.fill (by omega) ?_)
              | (refine InS.nat (by omega) ?_)
              | (refine ElemS.the (by assumption) ?_)
              | (refine ElemS.nat (by omega) fun x hx => ?_)
              | (refine ByteS.the (by assumption) ?_)
              | (refine ByteS.nat (by omega) fun x hx => ?_)
              | (refine draw_k (by decide +kernel) (by decide +kernel) ?_)
              | (refine ret_pick [] rfl rfl rfl ⟨?_, rfl⟩; conv => lhs; whnf)
              | (refine he _ _ ?_; clear hn he hr Q') | (refine hn _ ?_; clear hn he hr Q') | (refine hr _ ?_; clear hn he hr Q')))
  all_goals rfl
def okFinding (x : TFinding) : Prop := (fun n : Int => (Lit.int .i64 n).wf = true) x.fKind ∧ (fun l : List UInt8 => l.length ≤ maxLen) x.fWho ∧ (fun l : List UInt8 => l.length ≤ maxLen) x.fWhat
def findingText (f : TFinding) : List UInt8 := if kindName f.fKind = [] then [] else kindName f.fKind ++ [32] ++ f.fWho ++ [32] ++ f.fWhat
theorem kindName_len (n : Int) : (kindName n).length ≤ 6 := by
  unfold kindName
  split
  · rename_i h
    have h7 : n = 1 ∨ n = 2 ∨ n = 3 ∨ n = 4 ∨ n = 5 ∨ n = 6 := by omega
    rcases h7 with rfl | rfl | rfl | rfl | rfl | rfl <;> decide
  · simp
theorem c_impl_FindingText (f : TFinding) (h : -9223372036854775808 ≤ f.fKind ∧ f.fKind ≤ 9223372036854775807) (hz : f.sz ≤ 1048576) : FnC Tryd.prog 11 GN 0 [] [.agg (encFinding f)] (fun d os => d = .str (findingText f) ∧ os = []) := by
  have h6 := kindName_len f.fKind
  have hz' : f.fWho.length + f.fWhat.length ≤ 1048576 := hz
  refine fn_rule Tryd.func11 rfl (by decide +kernel) rfl (fun w0 F0 lent β0 => ?_)
  repeat' (first
           | (with_reducible refine awp_seq_k (fun Q' hn he hr => ?_))
           | (with_reducible refine awp_block_k (fun Q' hn he hr => ?_))
           | (with_reducible refine awp_cond_k ?_)
           | (with_reducible refine awp_region_k ?_)
           | (with_reducible refine awp_draw_k ?_)
           | (with_reducible refine awp_ret_k ?_)
           | (with_reducible refine awp_exit_k ?_)
           | (with_reducible refine awp_skip_k ?_)
           | (with_reducible refine awp_label_k ?_)
           | (with_reducible refine awp_scope_k ?_)
           | (with_reducible refine awp_loop_k ?_)
           | (with_reducible refine hn _ ?_; clear hn he hr Q')
           | (with_reducible refine hr _ ?_; clear hn he hr Q')
           | (with_reducible refine he _ _ ?_; clear hn he hr Q')
           | (conv => whnf
              first
              | ((first | (with_reducible refine br_t ?_) | (with_reducible refine br_f ?_) | (with_reducible refine br_c ?_)); repeat' (first | (with_reducible refine Br.tt ?_) | (with_reducible refine Br.ff ?_) | (with_reducible refine Br.nt ?_) | (with_reducible refine Br.nf ?_) | (with_reducible refine Br.condt ?_) | (with_reducible refine Br.condf ?_) | (with_reducible refine Br.ncondt ?_) | (with_reducible refine Br.ncondf ?_) | ((first | (with_reducible refine Br.lt (fun hb => ?_) (fun hb => ?_)) | (with_reducible refine Br.le (fun hb => ?_) (fun hb => ?_)) | (with_reducible refine Br.eqn (fun hb => ?_) (fun hb => ?_)) | (with_reducible refine Br.nlt (fun hb => ?_) (fun hb => ?_)) | (with_reducible refine Br.nle (fun hb => ?_) (fun hb => ?_)) | (with_reducible refine Br.neqn (fun hb => ?_) (fun hb => ?_)) | (with_reducible refine Br.dec (fun hb => ?_) (fun hb => ?_)) | (with_reducible refine Br.beq (fun hb => ?_) (fun hb => ?_)) | (with_reducible refine Br.ndec (fun hb => ?_) (fun hb => ?_)) | (with_reducible refine Br.nbeq (fun hb => ?_) (fun hb => ?_)) | (with_reducible refine Br.nsym (fun hb => ?_) (fun hb => ?_)) | (with_reducible refine Br.sym (fun hb => ?_) (fun hb => ?_))) <;> (try (first | exact absurd rfl hb | exact absurd hb (List.cons_ne_nil _ _) | (exfalso; omega))))))
              | (refine AskS.mk ⟨by simp only [List.length_append, List.length_cons, List.length_nil, maxLen]; omega, ?_⟩)
              | ((with_reducible refine isCall ?_); first | (refine call_pure (c_impl_FindingName _ (by omega)) rfl rfl ?_))
              | (refine LenS.map fun hlen => ?_)
              | (refine LenS.int fun hlen => ?_)
              | (refine ArithS.in64 (by omega) ?_)
              | (refine MakeS.nat rfl (by omega) ?_)
              | (refine InS.fill (by omega) ?_)
              | (refine ElemS.fill (by omega) ?_)
              | (refine InS.nat (by omega) ?_)
              | (refine ElemS.the (by assumption) ?_)
              | (refine ElemS.nat (by omega) fun x hx => ?_)
              | (refine ByteS.the (by assumption) ?_)
              | (refine ByteS.nat (by omega) fun x hx => ?_)
              | (refine draw_k (by decide +kernel) (by decide +kernel) ?_)
              | (refine ret_pick [] rfl rfl rfl ⟨?_, rfl⟩; conv => lhs; whnf)
              | (refine he _ _ ?_; clear hn he hr Q') | (refine hn _ ?_; clear hn he hr Q') | (refine hr _ ?_; clear hn he hr Q')))
  all_goals simp [findingText, *]
theorem c_spec_FindingText (f : TFinding) (h : -9223372036854775808 ≤ f.fKind ∧ f.fKind ≤ 9223372036854775807) (hz : f.sz ≤ 1048576) : FnC Tryd.prog 9 GN 0 [] [.agg (encFinding f)] (fun d os => d = .str (findingText f) ∧ os = []) := by
  obtain ⟨n, who, what⟩ := f
  have hz' : who.length + what.length ≤ 1048576 := hz
  simp only at h
  by_cases h6 : 1 ≤ n ∧ n ≤ 6
  · have h7 : n = 1 ∨ n = 2 ∨ n = 3 ∨ n = 4 ∨ n = 5 ∨ n = 6 := by omega
    rcases h7 with rfl | rfl | rfl | rfl | rfl | rfl
    all_goals
      refine fn_rule Tryd.func9 rfl (by decide +kernel) rfl (fun w0 F0 lent β0 => ?_)
      repeat' (first
               | (with_reducible refine awp_seq_k (fun Q' hn he hr => ?_))
               | (with_reducible refine awp_block_k (fun Q' hn he hr => ?_))
               | (with_reducible refine awp_cond_k ?_)
               | (with_reducible refine awp_region_k ?_)
               | (with_reducible refine awp_draw_k ?_)
               | (with_reducible refine awp_ret_k ?_)
               | (with_reducible refine awp_exit_k ?_)
               | (with_reducible refine awp_skip_k ?_)
               | (with_reducible refine awp_label_k ?_)
               | (with_reducible refine awp_scope_k ?_)
               | (with_reducible refine awp_loop_k ?_)
               | (with_reducible refine hn _ ?_; clear hn he hr Q')
               | (with_reducible refine hr _ ?_; clear hn he hr Q')
               | (with_reducible refine he _ _ ?_; clear hn he hr Q')
               | (conv => whnf
                  first
                  | ((first | (with_reducible refine br_t ?_) | (with_reducible refine br_f ?_) | (with_reducible refine br_c ?_)); repeat' (first | (with_reducible refine Br.tt ?_) | (with_reducible refine Br.ff ?_) | (with_reducible refine Br.nt ?_) | (with_reducible refine Br.nf ?_) | (with_reducible refine Br.condt ?_) | (with_reducible refine Br.condf ?_) | (with_reducible refine Br.ncondt ?_) | (with_reducible refine Br.ncondf ?_) | ((first | (with_reducible refine Br.lt (fun hb => ?_) (fun hb => ?_)) | (with_reducible refine Br.le (fun hb => ?_) (fun hb => ?_)) | (with_reducible refine Br.eqn (fun hb => ?_) (fun hb => ?_)) | (with_reducible refine Br.nlt (fun hb => ?_) (fun hb => ?_)) | (with_reducible refine Br.nle (fun hb => ?_) (fun hb => ?_)) | (with_reducible refine Br.neqn (fun hb => ?_) (fun hb => ?_)) | (with_reducible refine Br.dec (fun hb => ?_) (fun hb => ?_)) | (with_reducible refine Br.beq (fun hb => ?_) (fun hb => ?_)) | (with_reducible refine Br.ndec (fun hb => ?_) (fun hb => ?_)) | (with_reducible refine Br.nbeq (fun hb => ?_) (fun hb => ?_)) | (with_reducible refine Br.nsym (fun hb => ?_) (fun hb => ?_)) | (with_reducible refine Br.sym (fun hb => ?_) (fun hb => ?_))) <;> (try (first | exact absurd rfl hb | exact absurd hb (List.cons_ne_nil _ _) | (exfalso; omega))))))
                  | (refine InS.lit 1 rfl rfl ?_)
                  | (refine InS.lit 2 rfl rfl ?_)
                  | (refine InS.lit 3 rfl rfl ?_)
                  | (refine InS.lit 4 rfl rfl ?_)
                  | (refine InS.lit 5 rfl rfl ?_)
                  | (refine InS.lit 6 rfl rfl ?_)
                  | (refine ElemS.lit 1 rfl rfl ?_)
                  | (refine ElemS.lit 2 rfl rfl ?_)
                  | (refine ElemS.lit 3 rfl rfl ?_)
                  | (refine ElemS.lit 4 rfl rfl ?_)
                  | (refine ElemS.lit 5 rfl rfl ?_)
                  | (refine ElemS.lit 6 rfl rfl ?_)
                  | (refine AskS.mk ⟨by simp only [List.length_append, List.length_cons, List.length_nil, maxLen]; omega, ?_⟩)
                  | ((with_reducible refine isCall ?_); first | (refine call_pure (FnC.anyG (c_l31Kind _)) rfl rfl ?_))
                  | ((with_reducible refine isCallQ ?_); first | (refine callQ_plain (.sl 1 (names7.map encS)) c_spec_l31Names rfl (by rintro d os ⟨rfl, rfl⟩; rfl) ?_))
                  | (refine LenS.map fun hlen => ?_)
                  | (refine LenS.int fun hlen => ?_)
                  | (refine ArithS.in64 (by omega) ?_)
                  | (refine MakeS.nat rfl (by omega) ?_)
                  | (refine InS.fill (by omega) ?_)
                  | (refine ElemS.fill (by omega) ?_)
                  | (refine InS.nat (by omega) ?_)
                  | (refine ElemS.the (by assumption) ?_)
                  | (refine ElemS.nat (by omega) fun x hx => ?_)
                  | (refine ByteS.the (by assumption) ?_)
                  | (refine ByteS.nat (by omega) fun x hx => ?_)
                  | (refine draw_k (by decide +kernel) (by decide +kernel) ?_)
                  | (refine ret_pick [] rfl rfl rfl ⟨?_, rfl⟩; conv => lhs; whnf)
                  | (refine he _ _ ?_; clear hn he hr Q') | (refine hn _ ?_; clear hn he hr Q') | (refine hr _ ?_; clear hn he hr Q')))
    all_goals first
      | (exfalso; simp only at hb; omega)
      | (simp [findingText, kindName, kindNames, names7, encS]; done)
  · refine fn_rule Tryd.func9 rfl (by decide +kernel) rfl (fun w0 F0 lent β0 => ?_)
    repeat' (first
             | (with_reducible refine awp_seq_k (fun Q' hn he hr => ?_))
             | (with_reducible refine awp_block_k (fun Q' hn he hr => ?_))
             | (with_reducible refine awp_cond_k ?_)
             | (with_reducible refine awp_region_k ?_)
             | (with_reducible refine awp_draw_k ?_)
             | (with_reducible refine awp_ret_k ?_)
             | (with_reducible refine awp_exit_k ?_)
             | (with_reducible refine awp_skip_k ?_)
             | (with_reducible refine awp_label_k ?_)
             | (with_reducible refine awp_scope_k ?_)
             | (with_reducible refine awp_loop_k ?_)
             | (with_reducible refine hn _ ?_; clear hn he hr Q')
             | (with_reducible refine hr _ ?_; clear hn he hr Q')
             | (with_reducible refine he _ _ ?_; clear hn he hr Q')
             | (conv => whnf
                first
                | ((first | (with_reducible refine br_t ?_) | (with_reducible refine br_f ?_) | (with_reducible refine br_c ?_)); repeat' (first | (with_reducible refine Br.tt ?_) | (with_reducible refine Br.ff ?_) | (with_reducible refine Br.nt ?_) | (with_reducible refine Br.nf ?_) | (with_reducible refine Br.condt ?_) | (with_reducible refine Br.condf ?_) | (with_reducible refine Br.ncondt ?_) | (with_reducible refine Br.ncondf ?_) | ((first | (with_reducible refine Br.lt (fun hb => ?_) (fun hb => ?_)) | (with_reducible refine Br.le (fun hb => ?_) (fun hb => ?_)) | (with_reducible refine Br.eqn (fun hb => ?_) (fun hb => ?_)) | (with_reducible refine Br.nlt (fun hb => ?_) (fun hb => ?_)) | (with_reducible refine Br.nle (fun hb => ?_) (fun hb => ?_)) | (with_reducible refine Br.neqn (fun hb => ?_) (fun hb => ?_)) | (with_reducible refine Br.dec (fun hb => ?_) (fun hb => ?_)) | (with_reducible refine Br.beq (fun hb => ?_) (fun hb => ?_)) | (with_reducible refine Br.ndec (fun hb => ?_) (fun hb => ?_)) | (with_reducible refine Br.nbeq (fun hb => ?_) (fun hb => ?_)) | (with_reducible refine Br.nsym (fun hb => ?_) (fun hb => ?_)) | (with_reducible refine Br.sym (fun hb => ?_) (fun hb => ?_))) <;> (try (first | exact absurd rfl hb | exact absurd hb (List.cons_ne_nil _ _) | (exfalso; omega))))))
                | ((with_reducible refine isCall ?_); first | (refine call_pure (FnC.anyG (c_l31Kind _)) rfl rfl ?_))
                | (refine LenS.map fun hlen => ?_)
                | (refine LenS.int fun hlen => ?_)
                | (refine ArithS.in64 (by omega) ?_)
                | (refine MakeS.nat rfl (by omega) ?_)
                | (refine InS.fill (by omega) ?_)
                | (refine ElemS.fill (by omega) ?_)
                | (refine InS.nat (by omega) ?_)
                | (refine ElemS.the (by assumption) ?_)
                | (refine ElemS.nat (by omega) fun x hx => ?_)
                | (refine ByteS.the (by assumption) ?_)
                | (refine ByteS.nat (by omega) fun x hx => ?_)
                | (refine draw_k (by decide +kernel) (by decide +kernel) ?_)
                | (refine ret_pick [] rfl rfl rfl ⟨?_, rfl⟩; conv => lhs; whnf)
                | (refine he _ _ ?_; clear hn he hr Q') | (refine hn _ ?_; clear hn he hr Q') | (refine hr _ ?_; clear hn he hr Q')))
    all_goals first
      | (exfalso; simp only at hb; omega)
      | (simp [findingText, kindName, h6]; done)
theorem c_FnExactFindingText (f : TFinding) (k : okFinding f) : FnC Tryd.prog 4 GN 0 [] [.agg (encFinding f)] (fun d os => d = .bool true ∧ os = []) := by
  have h := bounds_i64 k.1
  refine fn_rule Tryd.func4 rfl (by decide +kernel) rfl (fun w0 F0 lent β0 => ?_)
  repeat' (first
           | (with_reducible refine awp_seq_k (fun Q' hn he hr => ?_))
           | (with_reducible refine awp_block_k (fun Q' hn he hr => ?_))
           | (with_reducible refine awp_cond_k ?_)
           | (with_reducible refine awp_region_k ?_)
           | (with_reducible refine awp_draw_k ?_)
           | (with_reducible refine awp_ret_k ?_)
           | (with_reducible refine awp_exit_k ?_)
           | (with_reducible refine awp_skip_k ?_)
           | (with_reducible refine awp_label_k ?_)
           | (with_reducible refine awp_scope_k ?_)
           | (with_reducible refine awp_loop_k ?_)
           | (with_reducible refine hn _ ?_; clear hn he hr Q')
           | (with_reducible refine hr _ ?_; clear hn he hr Q')
           | (with_reducible refine he _ _ ?_; clear hn he hr Q')
           | (conv => whnf
              first
              | ((first | (with_reducible refine br_t ?_) | (with_reducible refine br_f ?_) | (with_reducible refine br_c ?_)); repeat' (first | (with_reducible refine Br.tt ?_) | (with_reducible refine Br.ff ?_) | (with_reducible refine Br.nt ?_) | (with_reducible refine Br.nf ?_) | (with_reducible refine Br.condt ?_) | (with_reducible refine Br.condf ?_) | (with_reducible refine Br.ncondt ?_) | (with_reducible refine Br.ncondf ?_) | ((first | (with_reducible refine Br.lt (fun hb => ?_) (fun hb => ?_)) | (with_reducible refine Br.le (fun hb => ?_) (fun hb => ?_)) | (with_reducible refine Br.eqn (fun hb => ?_) (fun hb => ?_)) | (with_reducible refine Br.nlt (fun hb => ?_) (fun hb => ?_)) | (with_reducible refine Br.nle (fun hb => ?_) (fun hb => ?_)) | (with_reducible refine Br.neqn (fun hb => ?_) (fun hb => ?_)) | (with_reducible refine Br.dec (fun hb => ?_) (fun hb => ?_)) | (with_reducible refine Br.beq (fun hb => ?_) (fun hb => ?_)) | (with_reducible refine Br.ndec (fun hb => ?_) (fun hb => ?_)) | (with_reducible refine Br.nbeq (fun hb => ?_) (fun hb => ?_)) | (with_reducible refine Br.nsym (fun hb => ?_) (fun hb => ?_)) | (with_reducible refine Br.sym (fun hb => ?_) (fun hb => ?_))) <;> (try (first | exact absurd rfl hb | exact absurd hb (List.cons_ne_nil _ _) | (exfalso; omega))))))
              | ((with_reducible refine isCall ?_); first | (refine call_pure (FnC.anyG (c_szFinding _ _ (by omega) (by omega))) rfl rfl ?_) | (refine call_pure (FnC.anyG (c_toFinding _)) rfl rfl ?_) | (refine call_pure (c_spec_FindingText f (by omega) (by omega)) rfl rfl ?_) | (refine call_pure (c_impl_FindingText f (by omega) (by omega)) rfl rfl ?_))
              | (refine LenS.map fun hlen => ?_)
              | (refine LenS.int fun hlen => ?_)
              | (refine ArithS.in64 (by omega) ?_)
              | (refine MakeS.nat rfl (by omega) ?_)
              | (refine InS.fill (by omega) ?_)
              | (refine ElemS.fill (by omega) ?_)
              | (refine InS.nat (by omega) ?_)
              | (refine ElemS.the (by assumption) ?_)
              | (refine ElemS.nat (by omega) fun x hx => ?_)
              | (refine ByteS.the (by assumption) ?_)
              | (refine ByteS.nat (by omega) fun x hx => ?_)
              | (refine draw_k (by decide +kernel) (by decide +kernel) ?_)
              | (refine ret_pick [] rfl rfl rfl ⟨?_, rfl⟩; conv => lhs; whnf)
              | (refine he _ _ ?_; clear hn he hr Q') | (refine hn _ ?_; clear hn he hr Q') | (refine hr _ ?_; clear hn he hr Q')))
end Go.Eng

namespace Go.Proofs.YtikdfigokjhdgaaDoor
open Go Go.ChangeShapes Go.WideShapes Go.ChangeAt Go.WideMaps Go.WideElems Go.RowKit Go.Eng

theorem own : ownKnob Tryd.prog.godebug = none := by kernel_rfl
theorem laidOut : laidOutB Tryd.prog = true := by kernel_rfl
theorem gV0 : Tryd.prog.globalNamed "loop.example/g00955/impl.findingNames" = some 0 := by kernel_rfl
theorem opens_Int64 : Opens Tryd.prog 2 (fun n : Int => [.int .i64 n]) (fun n : Int => (Lit.int .i64 n).wf = true) := Opens.int Tryd.underlying2
theorem opens_String : Opens Tryd.prog 9 (fun l : List UInt8 => [.str l]) (fun l : List UInt8 => l.length ≤ maxLen) := Opens.string Tryd.underlying9
theorem opens_Finding : Opens Tryd.prog 25 encFinding okFinding :=
  Opens.turn (fun x : Int × List UInt8 × List UInt8 × Unit => TFinding.mk x.1 x.2.1 x.2.2.1) (fun _ => rfl) (fun x h => ⟨h.1, h.2.1, h.2.2.1⟩)
    (Opens.struct 3 Tryd.underlying25 (by kernel_rfl) (fun _ => rfl) (OpensF.cons (k := 1) rfl (fun _ => rfl) opens_Int64 (OpensF.cons (k := 1) rfl (fun _ => rfl) opens_String (OpensF.cons (k := 1) rfl (fun _ => rfl) opens_String OpensF.nil))))
theorem door_met (os : Os) (args : Array Value) : laidMetH Tryd.prog [("loop.example/g00955/impl.findingNames", Rows.laid_loop_example_g00955_impl_findingNames)] ((World.doorLaid Tryd.prog 400 os).forCall (fun _ _ => 0) ⟨#[], args, []⟩).memory :=
  laidMetH_of_parts3 (fuel := 8) (laidMet_of_run' 8 (by kernel_rfl) (by kernel_rfl)) (by kernel_rfl) (by kernel_rfl)
theorem of_laid {W : World} (h : laidMetH Tryd.prog [("loop.example/g00955/impl.findingNames", Rows.laid_loop_example_g00955_impl_findingNames)] W) : ∀ g cs, GN g = some cs → RO (fun b => b < W.heap.size) W (.pointer (some ⟨g, 0, none⟩)) (.rp cs) := by
  rw [MakeChecks.laidMetH_plain _ _ _ (by kernel_rfl)] at h
  obtain ⟨ps, hA, _⟩ := h
  obtain ⟨g0, t0, cs0, f0, p0, q0, hg0, ht0, hv0, hd0, hA0, _⟩ := hA
  obtain rfl := Option.some.inj (gV0.symm.trans hg0)
  intro g cs hG
  simp only [GN, G1] at hG
  split at hG
  · rename_i he
    subst he
    cases hG
    obtain rfl : t0 = 37 := Option.some.inj (ht0.symm.trans (show (Tryd.prog.globals[0]?).map (·.type) = some 37 by kernel_rfl))
    have e := strs_of_array (ls := kindNames) (p := p0) Tryd.underlying37 Tryd.underlying9 (by kernel_rfl) (by kernel_rfl) hd0
    exact ro_table gV0 hv0 e.1 e.2 (by decide)
  · cases hG

set_option maxRecDepth 100000 in
theorem lifted (os : Os) (started : os.Started) (H : Type) (enc : TypeId × Value → H) :
    ReturnsInHanded {} Tryd.checked os 4 .any (fun w args => (Rows.fnExactFindingTextSpec.pre enc Tryd.prog Tryd.f4 [] false w args ∧ laidMetH Tryd.prog [("loop.example/g00955/impl.findingNames", Rows.laid_loop_example_g00955_impl_findingNames)] w) ∧ sizedMet enc Tryd.prog Tryd.f4 (OpenSpec.ofChange Rows.fnExactFindingTextSpec) false w args)
      (Rows.fnExactFindingTextSpec.post enc Tryd.prog Tryd.f4 false true false false) := by
  refine returnsInHanded_of_change_and (C := Tryd.checked) (X := fun w _ => laidMetH Tryd.prog [("loop.example/g00955/impl.findingNames", Rows.laid_loop_example_g00955_impl_findingNames)] w) (fun _ _ _ hh h => h.of_heap hh) own started (by kernel_rfl) Tryd.func4
    (ChangeSpec.witness_shaped (enc := enc) (C := Tryd.checked) (os := os) (X := fun w _ => laidMetH Tryd.prog [("loop.example/g00955/impl.findingNames", Rows.laid_loop_example_g00955_impl_findingNames)] w) false (World.doorLaid Tryd.prog 400 os) #[.agg #[.int .i64 0, .string ⟨#[]⟩, .string ⟨#[]⟩]] 8 rfl (World.shaped_of_RefB (by kernel_rfl) (by kernel_rfl)) (by kernel_rfl) (by kernel_rfl) (by kernel_rfl) (door_met os _)) ?_
  intro W base args ds gs before hval0 hW _ _ hL _
  have hval : ∀ (j : Nat) t v, Tryd.f4.params[j]? = some t → args[j]? = some v → Value.okWide Tryd.prog W .any base t v := hval0
  have hW' := hW
  obtain ⟨p, q, hA0, hV, rfl, hfz, hnd⟩ := hW
  have hA : DataW.TrodAll enc Tryd.prog W 0 (fun _ => true) true Tryd.f4.params.toList args.toList ds p := hA0
  rw [Tryd.params4] at hA hval
  have hlaid := of_laid hL
  obtain ⟨v0, vs0, d0, ds0, p0, q0, hargs, rfl, rfl, h0, r0⟩ := trodAll_cons hA
  obtain ⟨rfl, rfl, rfl⟩ := trodAll_nil r0
  obtain rfl : args = #[v0] := by cases args; simp_all
  obtain ⟨gq, tq, csq, fq, dq, pq, rfl, hgq, htq, hvq, hdq, hqq⟩ := trodVars_one hV
  have lt0 : ∀ x ∈ p0, x.block < W.heap.size := by obtain ⟨m, hm⟩ := h0; exact DataW.trod_lt m _ _ _ hm
  obtain ⟨s0, rfl, _⟩ := okWide_struct Tryd.underlying25 (hval 0 25 v0 rfl rfl)
  obtain ⟨x0, k0, w0⟩ := opens_Finding.many h0
  clear hA0 hval0
  refine ((c_FnExactFindingText x0 k0).truthG (w := W) (vs := [_]) rfl hlaid (fun i hi => ?_)).mono fun e W' ⟨he, bel⟩ => ?_
  · match i, hi with
    | 0, _ => exact w0
  subst he
  exact ⟨_, rfl, _, _, _, [], _, _, hW', trodAll_mk1 (shut_bool Tryd.underlying4 _), (trodAll_cons_mk (Below.trod laidOut (by kernel_rfl) (of_decide_eq_true (by kernel_rfl)) h0 bel lt0) trodAll_mk0), Below.trodVars laidOut bel (by kernel_rfl) hV, bel.frame _, fun h => by cases h⟩

theorem over : Rows.FnExactFindingTextSaid :=
  OpenClaim.holds_of_wide 4 Tryd.f4 rfl rfl rfl rfl rfl rfl rfl ⟨rfl, rfl, rfl, rfl, rfl⟩ rfl rfl rfl rfl rfl (by kernel_rfl) Tryd.func4 (by kernel_rfl)
    (of_decide_eq_true (by kernel_rfl)) (by unfold Func.isWrapper; first | (rw [if_pos (by decide +kernel)]; kernel_rfl) | (rw [if_neg (by decide +kernel)]; exact ⟨rfl, rfl⟩))
    (fun os started H enc _ => lifted os started H enc)

theorem findingText : Rows.FnExactFindingTextCardSaid :=
  Claim7.holds_tied_plain_at .later [] _ true _ false
    over (fun _ h => by cases h) (by kernel_rfl) (fun _ h => by cases h) fnExactFindingText_row_tie rfl ⟨rfl, rfl⟩ (by kernel_rfl) rfl
    (fun f fn hf hfn => by
      obtain rfl : f = 4 := Option.some.inj ((show Tryd.prog.funcNamed "loop.example/g00955/laws.FnExactFindingText" = some 4 by kernel_rfl).symm.trans hf) |>.symm
      obtain rfl : fn = Tryd.f4 := (Option.some.inj (Tryd.func4.symm.trans hfn)).symm
      exact ⟨by kernel_rfl, fun j t ht => by
        rw [Tryd.params4] at ht
        have hall : (#[25] : Array TypeId).toList.all (fun t => !Tryd.prog.wantsStandIn t) = true := by kernel_rfl
        have hm : t ∈ (#[25] : Array TypeId).toList := by
          rw [← Array.getElem?_toList] at ht
          exact List.mem_of_getElem? ht
        have h := List.all_eq_true.1 hall t hm
        show Tryd.prog.wantsStandIn t = false
        simpa using h⟩)
    (by kernel_rfl)
#print axioms findingText
end Go.Proofs.YtikdfigokjhdgaaDoor
