/-
  slices.Insert of one note, by the library's text.
  No conditions.
-/
import Derived.Test.YtbpbhjlochijdaaGreatDoorED
import Derived.Test.YtbpbhjlochijdaaGreatDoorBA
import Derived.Test.YtbpbhjlochijdaaGreatDoorP1
set_option linter.unusedVariables false
set_option linter.unusedSimpArgs false
set_option maxHeartbeats 4000000
namespace Go.Eng
open Go Go.RowKit Go.Proofs
set_option maxRecDepth 100000
set_option maxHeartbeats 4000000 in
theorem c_slicesInsert_Note (L : List (List D)) (c : List D) (i : Nat) (hi : i ≤ L.length) (hLl : L.length ≤ 1048576) : FnC Tryz.prog 51 G0 0 [.row 39 2 L] [.h 0, .int .i64 i, .sl 2 [c]] (fun d os => d = .h 0 ∧ os = [.row 39 2 (L.take i ++ c :: L.drop i)]) := by
  refine fn_rule Tryz.func51 rfl (by decide +kernel) rfl (fun w0 F0 lent β0 => ?_)
  repeat' (first | refine sC ?_ | ((with_reducible refine isAwp ?_); first | (refine sS ?_; intro Q' hn he hr) | refine sA ?_) | (refine sH ?_; clear hn he hr Q') | refine sO ?_ | ((conv => whnf); first | refine sK ?_ | (refine sB ?_; repeat' (first | refine sb0 ?_ | (refine sb2 ?_ ?_ <;> intro hb <;> try exact cls))) | (refine draw_e (by decide +kernel) (by decide +kernel) ?_) | (refine draw_eb (by decide +kernel) (by decide +kernel) ?_) | (refine SameL.any fun l hl hll => ?_; simp only [List.length_append, List.length_take, List.length_drop, List.length_replicate, List.length_cons, List.length_nil] at hll; have hlq : l.length = L.length + 1 := (by omega); clear hll) | (refine ret_trim ?_) | ((with_reducible refine isCall ?_); first | (refine call_overlaps_ro (tS := 24) (tR := 4) (e := 39) Tryz.func93 (by decide +kernel) rfl (by kernel_rfl) (by kernel_rfl) rfl rfl rfl rfl (by simp) (by omega) rfl ?_)) | ((with_reducible refine isRet ?_); first | (refine ret_pick [1] rfl rfl rfl ⟨rfl, ?_⟩)) | refine sP ?_ | (refine sE ?_; intro x hx) | (refine sF ?_; intro i y hi hy) | (refine sI ?_; intro i hi) | (refine sL ?_; intro hlen) | (refine sQ ?_; intro c hc hcm; try simp only [lnM, lnA, lnC, lnN] at hc) | (refine sX ?_; intro i1 i2 hi1 hi2 hj1 hj2; try simp only [cutL, lnM, lnA, lnC, lnN, lnT, lnD, lnR] at hi1 hi2 hj2) | refine sD ?_ | (refine ret_pick [] rfl rfl rfl ⟨?_, rfl⟩; conv => lhs; whnf) | (refine ret_pick [0] rfl rfl rfl ⟨rfl, ?_⟩) | (refine sH ?_; clear hn he hr Q')))
  · subst hb
    refine congrArg (fun l => [Obj.row 39 2 l]) ?_
    rw [List.take_length, List.drop_length]
  · rename_i l1 h1 q1 l2 h2 q2
    refine congrArg (fun l => [Obj.row 39 2 l]) ?_
    obtain rfl : i1 = i + 1 := by omega
    rw [show ((L.length : Int) + 1 - (i : Int)).toNat = L.length + 1 - i by omega] at h1
    simp only [Nat.zero_add, Nat.sub_zero] at h1 h2 hl
    exact ins_road2 hi h1 q1 h2 q2 hl
  · rename_i l1 h1 q1
    refine congrArg (fun l => [Obj.row 39 2 l]) ?_
    simp only [Nat.zero_add, Nat.sub_zero] at h1 hl ⊢
    exact ins_road3 hi h1 q1 hl hlq
end Go.Eng
