/-
  Sessions as data, and what a law's scaffolding function does with them.
  No conditions.
-/
import Derived.Test.YtlmekceabmannaaDoorED
import Derived.Test.YtlmekceabmannaaDoorProg
set_option linter.unusedVariables false
set_option linter.unusedSimpArgs false
namespace Go.Eng
open Go Go.RowKit Go.Proofs
set_option maxRecDepth 100000
structure TSession where
  fDay : Int
  fTurn : Int
  fLift : Int
  fError : Int
def encSession (x : TSession) : List D := [.int .i64 x.fDay, .int .i64 x.fTurn, .int .i64 x.fLift, .int .i64 x.fError]
def eqTSession (a b : TSession) : Bool := eqI a.fDay b.fDay && (eqI a.fTurn b.fTurn && (eqI a.fLift b.fLift && (eqI a.fError b.fError)))
theorem eqTSession_refl (x : TSession) : eqTSession x x = true := by simp [eqTSession, eqI, eqStr, eqBo]
theorem c_eqSession (a b : TSession) : FnC Tryd.prog 28 G0 0 [] [.agg (encSession a), .agg (encSession b)] (fun d os => d = .bool (eqTSession a b) ∧ os = []) := by
  refine fn_rule Tryd.func28 rfl (by decide +kernel) rfl (fun w0 F0 lent β0 => ?_)
  repeat' (first | (with_reducible first | refine awp_seq_k (fun Q' hn he hr => ?_) | refine awp_block_k (fun Q' hn he hr => ?_) | refine awp_cond_k ?_ | refine awp_region_k ?_ | refine awp_draw_k ?_ | refine awp_ret_k ?_ | refine awp_exit_k ?_ | refine awp_skip_k ?_ | refine awp_label_k ?_ | refine awp_scope_k ?_ | refine awp_loop_k ?_) | (with_reducible refine hn _ ?_; clear hn he hr Q') | (with_reducible refine hr _ ?_; clear hn he hr Q') | (with_reducible refine he _ _ ?_; clear hn he hr Q') | ((conv => whnf); first | ((with_reducible first | refine br_t ?_ | refine br_f ?_ | refine br_c ?_); repeat' (first | (with_reducible first | refine Br.tt ?_ | refine Br.ff ?_ | refine Br.nt ?_ | refine Br.nf ?_ | refine Br.condt ?_ | refine Br.condf ?_ | refine Br.ncondt ?_ | refine Br.ncondf ?_) | ((with_reducible first | refine Br.lt (fun hb => ?_) (fun hb => ?_) | refine Br.le (fun hb => ?_) (fun hb => ?_) | refine Br.eqn (fun hb => ?_) (fun hb => ?_) | refine Br.nlt (fun hb => ?_) (fun hb => ?_) | refine Br.nle (fun hb => ?_) (fun hb => ?_) | refine Br.neqn (fun hb => ?_) (fun hb => ?_) | refine Br.dec (fun hb => ?_) (fun hb => ?_) | refine Br.beq (fun hb => ?_) (fun hb => ?_) | refine Br.ndec (fun hb => ?_) (fun hb => ?_) | refine Br.nbeq (fun hb => ?_) (fun hb => ?_) | refine Br.nsym (fun hb => ?_) (fun hb => ?_) | refine Br.sym (fun hb => ?_) (fun hb => ?_)) <;> (try (first | exact absurd rfl hb | exact absurd (hb.symm.trans hv) (by decide) | exact absurd (hb.symm.trans hv2) (by decide) | exact absurd (hb.symm.trans hv3) (by decide) | exact absurd hb (List.cons_ne_nil _ _) | exact absurd hb (by decide) | (exfalso; omega)))))) | (refine SameV.mk ?_) | (refine NeedS.mk (by (try simp only [cutL, lnM, lnA, lnC, lnN, lnT, lnD, lnR]); omega) ?_) | (refine CapS.mk fun c hc hcm => ?_; try simp only [lnM, lnA, lnC, lnN] at hc) | (refine CutS.zn (by (try simp only [cutL, lnM, lnA, lnC, lnN, lnT, lnD, lnR]); omega) ?_) | (refine CutS.nn (by omega) (by (try simp only [cutL, lnM, lnA, lnC, lnN, lnT, lnD, lnR]); omega) ?_) | (refine CutS.at (by (try simp only [cutL, lnM, lnA, lnC, lnN, lnT, lnD, lnR]); omega) fun i1 i2 hi1 hi2 hj1 hj2 => ?_; try simp only [cutL, lnM, lnA, lnC, lnN, lnT, lnD, lnR] at hi1 hi2 hj2) | (refine SameL.mk ?_) | (refine LenS.nil ?_) | (refine LenS.one ?_) | (refine LenS.map fun hlen => ?_) | (refine LenS.int fun hlen => ?_) | (refine ArithS.in64 (by omega) ?_) | (refine MakeS.nat rfl (by omega) ?_) | (refine InS.fill (by omega) ?_) | (refine ElemS.fill (by omega) ?_) | (refine InS.nat (by omega) ?_) | (refine InS.nat (by (try simp only [lnM]); omega) ?_) | (refine ElemS.the (by assumption) ?_) | (refine ElemS.nat (by omega) fun x hx => ?_) | (refine ByteS.the (by assumption) ?_) | (refine ByteS.nat (by omega) fun x hx => ?_) | (refine ElemS.at (by omega) fun i y hi hy => ?_) | (refine ByteS.at (by omega) fun i y hi hy => ?_) | (refine InS.at (by omega) fun i hi => ?_) | (refine AskS.app rfl (by (try simp only [cutL, lnT, lnD, lnR, lnM, lnA, lnC, lnN]); omega) ?_) | (refine draw_k (by decide +kernel) (by decide +kernel) ?_) | (refine draw_kb (by decide +kernel) (by decide +kernel) ?_) | (refine ret_pick [] rfl rfl rfl ⟨?_, rfl⟩; conv => lhs; whnf) | (refine ret_pick [0] rfl rfl rfl ⟨rfl, ?_⟩) | (refine he _ _ ?_; clear hn he hr Q') | (refine hn _ ?_; clear hn he hr Q') | (refine hr _ ?_; clear hn he hr Q')))
  all_goals simp_all [eqTSession, eqI, eqStr, eqBo]
end Go.Eng
