/-
  Blocks put into an ordered list, by the program; what the reference makes of it.
  No conditions.
-/
import Derived.Test.YtpleljnhaoejdaaDoorED
import Derived.Test.YtpleljnhaoejdaaDoorIns1
import Derived.Test.YtpleljnhaoejdaaDoorB5
import Derived.Test.YtpleljnhaoejdaaDoorB6
set_option linter.unusedVariables false
set_option linter.unusedSimpArgs false
set_option maxHeartbeats 4000000
namespace Go.Eng
open Go Go.RowKit Go.Proofs
set_option maxRecDepth 100000
theorem c_slicesInsert_Blk (a : List TBlock) (i : Nat) (t : TBlock) (hi : i ≤ a.length) (hl : a.length ≤ 1048576) : FnC Tryd.prog 134 G0 0 [.row 78 3 (a.map encBlock)] [.h 0, .int .i64 i, .sl 3 [encBlock t]] (fun d os => d = .h 0 ∧ os = [.row 78 3 ((a.take i ++ t :: a.drop i).map encBlock)]) := by
  rw [show ((a.take i ++ t :: a.drop i).map encBlock) = (a.map encBlock).take i ++ encBlock t :: (a.map encBlock).drop i by simp]
  exact c_slicesInsert_Block _ _ i (by simpa using hi) (by simpa using hl)
/-- Is there room for the block? -/
def roomB (a : List TBlock) (t : TBlock) : Bool := insF ltBlk eqkB a t || decide (a.length < 32)
def putB (a : List TBlock) (t : TBlock) : List TBlock := if roomB a t = true then insB a t else a
set_option maxHeartbeats 4000000 in
theorem c_impl_putBlock (a : List TBlock) (t : TBlock) (hs : chain ltBlk a = true) (hl : a.length ≤ 32) : FnC Tryd.prog 87 G0 0 [.row 78 3 (a.map encBlock)] [.h 0, .agg (encBlock t)] (fun d os => d = .tup [.h 0, .bool (roomB a t)] ∧ os = [.row 78 3 ((putB a t).map encBlock)]) := by
  have hle := blkAt_le a t
  cases hv2 : ((a[blkAt a t]?).any fun b => isBlk t.fKind t.fName b) with
  | true =>
    have hlt := any_lt hv2
    have hr : roomB a t = true := by
      have : insF ltBlk eqkB a t = true := hv2
      simp [roomB, this]
    have hN : insN ltBlk eqkB a t = blkAt a t + 1 := by unfold insN; rw [if_pos (show insF ltBlk eqkB a t = true from hv2)]; rfl
    have hset : a.set (blkAt a t) t = insB a t := by
      unfold insB insL
      rw [hN, List.set_eq_take_append_cons_drop, if_pos hlt]; rfl
    have hp : putB a t = insB a t := by unfold putB; rw [if_pos hr]
    refine fn_rule Tryd.func87 rfl (by decide +kernel) rfl (fun w0 F0 lent β0 => ?_)
    repeat' (first | refine sC ?_ | ((with_reducible refine isAwp ?_); first | (refine sS ?_; intro Q' hn he hr) | refine sA ?_) | (refine sH ?_; clear hn he hr Q') | refine sO ?_ | ((conv => whnf); first | refine sK ?_ | (refine sB ?_; repeat' (first | refine sb0 ?_ | (refine sb2 ?_ ?_ <;> intro hb <;> try exact cls))) | ((with_reducible refine isCall ?_); first | (refine call_look (c_impl_blockPlace a t hs (by omega)) rfl ?_)) | ((with_reducible refine isCallQ ?_); first | (refine callQ_look (c_impl_blockPlace a t hs (by omega)) rfl ?_)) | ((with_reducible refine isRet ?_); first | (refine ret_pick [0] rfl rfl rfl ⟨?_, ?_⟩)) | refine sP ?_ | (refine sE ?_; intro x hx) | (refine sF ?_; intro i y hi hy) | (refine sI ?_; intro i hi) | (refine sL ?_; intro hlen) | (refine sQ ?_; intro c hc hcm; try simp only [lnM, lnA, lnC, lnN] at hc) | (refine sX ?_; intro i1 i2 hi1 hi2 hj1 hj2; try simp only [cutL, lnM, lnA, lnC, lnN, lnT, lnD, lnR] at hi1 hi2 hj2) | refine sD ?_ | (refine ret_pick [] rfl rfl rfl ⟨?_, rfl⟩; conv => lhs; whnf) | (refine ret_pick [0] rfl rfl rfl ⟨rfl, ?_⟩) | (refine sH ?_; clear hn he hr Q')))
    · rw [hr]; rfl
    · rw [hp, ← hset, List.map_set]; rfl
  | false =>
    have hF : insF ltBlk eqkB a t = false := hv2
    have hN : insN ltBlk eqkB a t = blkAt a t := by unfold insN; rw [if_neg (by rw [hF]; simp)]; rfl
    have hput : a.take (blkAt a t) ++ t :: a.drop (blkAt a t) = insB a t := by
      unfold insB insL
      rw [hN]; rfl
    refine fn_rule Tryd.func87 rfl (by decide +kernel) rfl (fun w0 F0 lent β0 => ?_)
    repeat' (first | refine sC ?_ | ((with_reducible refine isAwp ?_); first | (refine sS ?_; intro Q' hn he hr) | refine sA ?_) | (refine sH ?_; clear hn he hr Q') | refine sO ?_ | ((conv => whnf); first | refine sK ?_ | (refine sB ?_; repeat' (first | refine sb0 ?_ | (refine sb2 ?_ ?_ <;> intro hb <;> try exact cls))) | ((with_reducible refine isCall ?_); first | (refine call_look (c_impl_blockPlace a t hs (by omega)) rfl ?_) | (refine call_mv 0 rfl (c_slicesInsert_Blk a (blkAt a t) t hle (by omega)) rfl (flat_one (FlatO.map fun _ => rfl)) (by first | exact (rfl : _ = 0) | exact (rfl : _ = 1) | exact (rfl : _ = 2) | exact (rfl : _ = 3) | exact (rfl : _ = 4) | exact (rfl : _ = 5) | exact (rfl : _ = 6) | exact (rfl : _ = 7) | exact (rfl : _ = 8) | exact (rfl : _ = 9) | exact (rfl : _ = 10) | exact (rfl : _ = 11) | exact (rfl : _ = 12) | exact (rfl : _ = 13) | exact (rfl : _ = 14) | exact (rfl : _ = 15) | exact (rfl : _ = 16) | exact (rfl : _ = 17) | exact (rfl : _ = 18) | exact (rfl : _ = 19) | exact (rfl : _ = 20) | exact (rfl : _ = 21) | exact (rfl : _ = 22) | exact (rfl : _ = 23) | exact (rfl : _ = 24) | exact (rfl : _ = 25) | exact (rfl : _ = 26) | exact (rfl : _ = 27) | exact (rfl : _ = 28) | exact (rfl : _ = 29) | exact (rfl : _ = 30) | exact (rfl : _ = 31) | exact (rfl : _ = 32) | exact (rfl : _ = 33) | exact (rfl : _ = 34) | exact (rfl : _ = 35) | exact (rfl : _ = 36) | exact (rfl : _ = 37) | exact (rfl : _ = 38) | exact (rfl : _ = 39)) ?_)) | ((with_reducible refine isCallQ ?_); first | (refine callQ_look (c_impl_blockPlace a t hs (by omega)) rfl ?_)) | ((with_reducible refine isRet ?_); first | (refine ret_pick [3] rfl rfl rfl ⟨?_, ?_⟩) | (refine ret_pick [0] rfl rfl rfl ⟨?_, ?_⟩)) | refine sP ?_ | (refine sE ?_; intro x hx) | (refine sF ?_; intro i y hi hy) | (refine sI ?_; intro i hi) | (refine sL ?_; intro hlen) | (refine sQ ?_; intro c hc hcm; try simp only [lnM, lnA, lnC, lnN] at hc) | (refine sX ?_; intro i1 i2 hi1 hi2 hj1 hj2; try simp only [cutL, lnM, lnA, lnC, lnN, lnT, lnD, lnR] at hi1 hi2 hj2) | refine sD ?_ | (refine ret_pick [] rfl rfl rfl ⟨?_, rfl⟩; conv => lhs; whnf) | (refine ret_pick [0] rfl rfl rfl ⟨rfl, ?_⟩) | (refine sH ?_; clear hn he hr Q')))
    · have hr : roomB a t = false := by unfold roomB; rw [hF, decide_eq_false (by omega)]; rfl
      rw [hr]; rfl
    · have hr : roomB a t = false := by unfold roomB; rw [hF, decide_eq_false (by omega)]; rfl
      have hp : putB a t = a := by unfold putB; rw [if_neg (by rw [hr]; simp)]
      rw [hp]; rfl
    · have hr : roomB a t = true := by unfold roomB; rw [hF, decide_eq_true (by omega)]; rfl
      rw [hr]; rfl
    · have hr : roomB a t = true := by unfold roomB; rw [hF, decide_eq_true (by omega)]; rfl
      have hp : putB a t = insB a t := by unfold putB; rw [if_pos hr]
      rw [hp, ← hput]; rfl
end Go.Eng
