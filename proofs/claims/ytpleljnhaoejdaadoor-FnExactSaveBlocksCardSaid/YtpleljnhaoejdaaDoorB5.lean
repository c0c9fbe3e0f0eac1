/-
  Blocks put into an ordered list.
  No conditions.
-/
import Derived.Test.YtpleljnhaoejdaaDoorED
import Derived.Test.YtpleljnhaoejdaaDoorIns1
import Derived.Test.YtpleljnhaoejdaaDoorB4
set_option linter.unusedVariables false
set_option linter.unusedSimpArgs false
set_option maxHeartbeats 4000000
namespace Go.Eng
open Go Go.RowKit Go.Proofs
set_option maxRecDepth 100000
def eqkB (t b : TBlock) : Bool := isBlk t.fKind t.fName b
def insB (a : List TBlock) (t : TBlock) : List TBlock := insL ltBlk eqkB a t
theorem insB_tot (x t : TBlock) (h1 : ltBlk x t = false) (h2 : eqkB t x = false) : ltBlk t x = true := by
  simp only [ltBlk, eqkB, isBlk, Bool.or_eq_false_iff, Bool.and_eq_false_iff, beq_eq_false_iff_ne, Bool.or_eq_true, Bool.and_eq_true, beq_iff_eq] at *
  by_cases e : x.fKind = t.fKind
  · refine .inr ⟨e.symm, ?_⟩
    have h3 := h1.2.resolve_left (fun h => h e)
    exact less_tri h3 (h2.resolve_left (fun h => h e))
  · exact .inl (less_tri h1.1 e)
theorem insB_con (t x y : TBlock) (h1 : eqkB t x = true) (h2 : ltBlk x y = true) : ltBlk t y = true := by
  simp only [ltBlk, eqkB, isBlk, Bool.or_eq_true, Bool.and_eq_true, beq_iff_eq] at *
  rw [← h1.1, ← h1.2]
  exact h2
theorem insB_chain {a : List TBlock} (h : chain ltBlk a = true) (t : TBlock) : chain ltBlk (insB a t) = true :=
  insL_chain (lt := ltBlk) (eqk := eqkB) ltBlk_trans (fun x => insB_tot x t) (fun x y => insB_con t x y) h
theorem insB_step {a : List TBlock} (t : TBlock) (h : chain ltBlk a = true) {k : Nat} {x : TBlock} (hx : a[k]? = some x) :
    insP ltBlk eqkB a t (k + 1) = insP ltBlk eqkB a t k ++ ((if insAt ltBlk a t < k ∨ ltBlk x t = true then [] else [t]) ++ (if eqkB t x = true then [] else [x])) := by
  refine insP_step (lt := ltBlk) (eqk := eqkB) ltBlk_trans (fun x => insB_tot x t) (fun x y => insB_con t x y) (fun x hl => ?_) (fun x hl => ?_) h hx
  · cases he : eqkB t x with
    | false => rfl
    | true => simp only [eqkB, isBlk, Bool.and_eq_true, beq_iff_eq] at he; exact absurd he (ltBlk_irrefl hl)
  · cases he : eqkB t x with
    | false => rfl
    | true => simp only [eqkB, isBlk, Bool.and_eq_true, beq_iff_eq] at he; exact absurd ⟨he.1.symm, he.2.symm⟩ (ltBlk_irrefl hl)
theorem c_spec_l29Put (a : List TBlock) (t : TBlock) (hs : chain ltBlk a = true) (hl : a.length ≤ 1048576) : FnC Tryd.prog 157 G0 0 [] [.sl 3 (a.map encBlock), .agg (encBlock t)] (fun d os => d = .h 0 ∧ os = [.row 78 3 ((insB a t).map encBlock)]) := by
  refine fn_rule Tryd.func157 rfl (by decide +kernel) rfl (fun w0 F0 lent β0 => ?_)
  repeat' (first | refine sC ?_ | ((with_reducible refine isAwp ?_); first | (refine sS ?_; intro Q' hn he hr) | refine sA ?_) | (refine sH ?_; clear hn he hr Q') | refine sO ?_ | ((conv => whnf); first | refine sK ?_ | (refine sB ?_; repeat' (first | refine sb0 ?_ | (refine sb2 ?_ ?_ <;> intro hb <;> try exact cls))) | refine sP ?_ | (refine sE ?_; intro x hx) | (refine sF ?_; intro i y hi hy) | (refine sI ?_; intro i hi) | (refine sL ?_; intro hlen) | (refine sQ ?_; intro c hc hcm; try simp only [lnM, lnA, lnC, lnN] at hc) | (refine sX ?_; intro i1 i2 hi1 hi2 hj1 hj2; try simp only [cutL, lnM, lnA, lnC, lnN, lnT, lnD, lnR] at hi1 hi2 hj2) | refine sD ?_ | (refine ret_pick [] rfl rfl rfl ⟨?_, rfl⟩; conv => lhs; whnf) | (refine ret_pick [0] rfl rfl rfl ⟨rfl, ?_⟩) | (refine sH ?_; clear hn he hr Q')))
  refine loop_env (fun k : Nat => [(0,.sl 3 (a.map encBlock)),(3,.hp 0 0),(5,.h 1),(6,.bool (decide (insAt ltBlk a t < k))),(7,.int .i64 k)]) (fun k => [.box (encBlock t), .row 78 3 ((insP ltBlk eqkB a t k).map encBlock)]) (fun k => k ≤ a.length) (fun k => a.length - k) 0 (by omega) (by refine weak_to rfl rfl rfl ?_; exact ⟨rfl, rfl, rfl, rfl, rfl, trivial⟩) (fun k hk Q' hn he hr => ?_)
  have h8 := insP_length (lt := ltBlk) (eqk := eqkB) a t k
  repeat' (first | refine sC ?_ | ((with_reducible refine isAwp ?_); first | (refine sS ?_; intro Q' hn he hr) | refine sA ?_) | (refine sH ?_; clear hn he hr Q') | refine sO ?_ | ((conv => whnf); first | refine sK ?_ | (refine sB ?_; repeat' (first | refine sb0 ?_ | (refine sb2 ?_ ?_ <;> intro hb <;> try exact cls))) | ((with_reducible refine isCall ?_); first | (refine call_look (c_spec_l29Before _ _) rfl ?_)) | ((with_reducible refine isCallQ ?_); first | (refine callQ_look (c_spec_l29Before _ _) rfl ?_)) | ((with_reducible refine isRet ?_); first | (refine ret_pick [1] rfl rfl rfl ⟨rfl, ?_⟩)) | refine sP ?_ | (refine sE ?_; intro x hx) | (refine sF ?_; intro i y hi hy) | (refine sI ?_; intro i hi) | (refine sL ?_; intro hlen) | (refine sQ ?_; intro c hc hcm; try simp only [lnM, lnA, lnC, lnN] at hc) | (refine sX ?_; intro i1 i2 hi1 hi2 hj1 hj2; try simp only [cutL, lnM, lnA, lnC, lnN, lnT, lnD, lnR] at hi1 hi2 hj2) | refine sD ?_ | (refine ret_pick [] rfl rfl rfl ⟨?_, rfl⟩; conv => lhs; whnf) | (refine ret_pick [0] rfl rfl rfl ⟨rfl, ?_⟩) | (refine sH ?_; clear hn he hr Q')))
  all_goals first
    | (have hst := insAt_step (lt := ltBlk) (t := t) hx
       rw [decide_eq_true ‹insAt ltBlk a t < k›] at hst ⊢
       refine ⟨k + 1, by omega, by omega, ?_⟩
       rw [hst]
       exact (by refine weak_to rfl rfl (by rw [insB_step t hs hx]; refine congrArg (fun l => [Obj.box (encBlock t), Obj.row 78 3 l]) ?_; simp [eqkB, isBlk, encBlock, *]) ?_; ((repeat' (first | exact trivial | refine And.intro ?_ ?_)) <;> (first | rfl | (conv => rhs; whnf) <;> (first | rfl | (refine congrArg (D.int _) ?_; omega))))))
    | (have hst := insAt_step (lt := ltBlk) (t := t) hx
       rw [decide_eq_false ‹¬ insAt ltBlk a t < k›, ‹ltBlk x t = _›] at hst
       refine ⟨k + 1, by omega, by omega, ?_⟩
       rw [hst]
       try rw [decide_eq_false ‹¬ insAt ltBlk a t < k›]
       exact (by refine weak_to rfl rfl (by rw [insB_step t hs hx]; refine congrArg (fun l => [Obj.box (encBlock t), Obj.row 78 3 l]) ?_; simp [eqkB, isBlk, encBlock, *]) ?_; ((repeat' (first | exact trivial | refine And.intro ?_ ?_)) <;> (first | rfl | (conv => rhs; whnf) <;> (first | rfl | (refine congrArg (D.int _) ?_; omega))))))
    | skip
  all_goals
    obtain rfl : k = a.length := by omega
    have hla := insP_last (lt := ltBlk) (eqk := eqkB) a t
    refine congrArg (fun l => [Obj.row 78 3 l]) ?_
    show _ = (insL ltBlk eqkB a t).map encBlock
  · rw [← hla, if_pos (by omega), List.map_append]
    rfl
  · rw [← hla, if_neg (by omega)]
end Go.Eng
