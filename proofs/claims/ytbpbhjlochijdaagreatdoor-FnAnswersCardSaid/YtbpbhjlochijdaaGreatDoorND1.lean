/-
  Notes dropped, by the program and by the reference.
  No conditions.
-/
import Derived.Test.YtbpbhjlochijdaaGreatDoorED
import Derived.Test.YtbpbhjlochijdaaGreatDoorNV
import Derived.Test.YtbpbhjlochijdaaGreatDoorEC
set_option linter.unusedVariables false
set_option linter.unusedSimpArgs false
set_option maxHeartbeats 4000000
namespace Go.Eng
open Go Go.RowKit Go.Proofs
set_option maxRecDepth 100000
def isNt (id : List UInt8) (x : TNote) : Bool := x.fId == id
def dropN (id : List UInt8) (a : List TNote) : List TNote := a.filter fun x => !isNt id x
theorem dropN_take {id : List UInt8} {a : List TNote} {k : Nat} {x : TNote} (h : a[k]? = some x) : dropN id (a.take (k + 1)) = dropN id (a.take k) ++ (if x.fId = id then [] else [x]) := by
  unfold dropN
  rw [List.take_add_one, h, List.filter_append]
  congr 1
  show List.filter _ [x] = _
  rw [List.filter_cons, List.filter_nil]
  by_cases e : x.fId = id
  · rw [if_pos e, if_neg (by simp [isNt, e])]
  · rw [if_neg e, if_pos (by simp [isNt, e])]
theorem dropN_len (id : List UInt8) (a : List TNote) : (dropN id a).length ≤ a.length := List.length_filter_le _ _
theorem ltNote_trans {a b c : TNote} (h : ltNote a b = true) (k : ltNote b c = true) : ltNote a c = true := less_trans h k
theorem validNs_pw {a : List TNote} (h : validNs a = true) : a.Pairwise fun x y => ltNote x y = true := (chain_pairwise (lt := ltNote) ltNote_trans).1 (validNs_iff.1 h).2.2
theorem dropN_none {id : List UInt8} {a : List TNote} (h : firstAt (isNt id) a = a.length) : dropN id a = a := by
  unfold dropN
  rw [List.filter_eq_self]
  intro x hx
  obtain ⟨j, hj⟩ := List.getElem?_of_mem hx
  have hl := (List.getElem?_eq_some_iff.1 hj).1
  rw [(firstAt_spec (isNt id) a).1 j x (by omega) hj]
  rfl
theorem dropN_some {id : List UInt8} {a : List TNote} (hp : a.Pairwise fun x y => ltNote x y = true) (h : firstAt (isNt id) a < a.length) : dropN id a = a.take (firstAt (isNt id) a) ++ a.drop (firstAt (isNt id) a + 1) := by
  have hs := firstAt_spec (isNt id) a
  generalize hi : firstAt (isNt id) a = i at *
  have hx := hs.2 a[i] (List.getElem?_eq_getElem h)
  have e : a = a.take i ++ a[i] :: a.drop (i + 1) := by rw [← List.drop_eq_getElem_cons h, List.take_append_drop]
  have h1 : dropN id (a.take i) = a.take i := by
    unfold dropN
    rw [List.filter_eq_self]
    intro x hx
    obtain ⟨j, hj⟩ := List.getElem?_of_mem hx
    have hl := (List.getElem?_eq_some_iff.1 hj).1
    rw [List.length_take] at hl
    rw [List.getElem?_take_of_lt (by omega)] at hj
    rw [hs.1 j x (by omega) hj]
    rfl
  have h2 : dropN id (a.drop (i + 1)) = a.drop (i + 1) := by
    unfold dropN
    rw [List.filter_eq_self]
    intro y hy
    have hp2 := hp
    rw [e, List.pairwise_append, List.pairwise_cons] at hp2
    have h3 := hp2.2.1.1 y hy
    cases hq : isNt id y with
    | false => rfl
    | true =>
      simp only [isNt, beq_iff_eq] at hx hq
      unfold ltNote at h3
      rw [hx, hq, less_irrefl] at h3
      cases h3
  have h3 : dropN id a = dropN id (a.take i) ++ dropN id (a[i] :: a.drop (i + 1)) := by
    unfold dropN
    rw [← List.filter_append, ← e]
  rw [h3, h1]
  unfold dropN at h2 ⊢
  rw [List.filter_cons, if_neg (by rw [hx]; simp), h2]
theorem c_impl_DropNote1 (x : TNote) (id : List UInt8) : FnC Tryz.prog 54 G0 0 [] [.agg (encNote x), .rp [.str id]] (fun d os => d = .bool (isNt id x) ∧ os = []) := by
  refine fn_rule Tryz.func54 rfl (by decide +kernel) rfl (fun w0 F0 lent β0 => ?_)
  repeat' (first | refine sC ?_ | ((with_reducible refine isAwp ?_); first | (refine sS ?_; intro Q' hn he hr) | refine sA ?_) | (refine sH ?_; clear hn he hr Q') | refine sO ?_ | ((conv => whnf); first | refine sK ?_ | (refine sB ?_; repeat' (first | refine sb0 ?_ | (refine sb2 ?_ ?_ <;> intro hb <;> try exact cls))) | refine sP ?_ | (refine sE ?_; intro x hx) | (refine sF ?_; intro i y hi hy) | (refine sI ?_; intro i hi) | (refine sL ?_; intro hlen) | (refine sQ ?_; intro c hc hcm; try simp only [lnM, lnA, lnC, lnN] at hc) | (refine sX ?_; intro i1 i2 hi1 hi2 hj1 hj2; try simp only [cutL, lnM, lnA, lnC, lnN, lnT, lnD, lnR] at hi1 hi2 hj2) | refine sD ?_ | (refine ret_pick [] rfl rfl rfl ⟨?_, rfl⟩; conv => lhs; whnf) | (refine ret_pick [0] rfl rfl rfl ⟨rfl, ?_⟩) | (refine sH ?_; clear hn he hr Q')))
  all_goals (refine congrArg D.bool ?_; simp [isNt, *])
theorem c_slices_IndexNote (a : List TNote) (id : List UInt8) : FnC Tryz.prog 53 G0 0 [] [.sl 2 (a.map encNote), .clo (.func 54) [.rp [.str id]]] (fun d os => d = .int .i64 (if firstAt (isNt id) a < a.length then (firstAt (isNt id) a : Int) else -1) ∧ os = []) := by
  refine fn_rule Tryz.func53 rfl (by decide +kernel) rfl (fun w0 F0 lent β0 => ?_)
  repeat' (first | refine sC ?_ | ((with_reducible refine isAwp ?_); first | (refine sS ?_; intro Q' hn he hr) | refine sA ?_) | (refine sH ?_; clear hn he hr Q') | refine sO ?_ | ((conv => whnf); first | refine sK ?_ | (refine sB ?_; repeat' (first | refine sb0 ?_ | (refine sb2 ?_ ?_ <;> intro hb <;> try exact cls))) | refine sP ?_ | (refine sE ?_; intro x hx) | (refine sF ?_; intro i y hi hy) | (refine sI ?_; intro i hi) | (refine sL ?_; intro hlen) | (refine sQ ?_; intro c hc hcm; try simp only [lnM, lnA, lnC, lnN] at hc) | (refine sX ?_; intro i1 i2 hi1 hi2 hj1 hj2; try simp only [cutL, lnM, lnA, lnC, lnN, lnT, lnD, lnR] at hi1 hi2 hj2) | refine sD ?_ | (refine ret_pick [] rfl rfl rfl ⟨?_, rfl⟩; conv => lhs; whnf) | (refine ret_pick [0] rfl rfl rfl ⟨rfl, ?_⟩) | (refine sH ?_; clear hn he hr Q')))
  refine loop_env (fun k : Nat => [(0,.sl 2 (a.map encNote)),(1,.clo (.func 54) [.rp [.str id]]),(7,.int .i64 a.length),(8,.int .i64 k)]) (fun _ => []) (fun k => k ≤ a.length ∧ noneTo (isNt id) a k) (fun k => a.length - k) 0 ⟨by omega, noneTo_zero⟩ (by refine weak_to rfl rfl rfl ?_; ((repeat' (first | exact trivial | refine And.intro ?_ ?_)) <;> (first | rfl | (conv => rhs; whnf) <;> (first | rfl | (refine congrArg (D.int _) ?_; omega))))) (fun k hk Q' hn he hr => ?_)
  repeat' (first | refine sC ?_ | ((with_reducible refine isAwp ?_); first | (refine sS ?_; intro Q' hn he hr) | refine sA ?_) | (refine sH ?_; clear hn he hr Q') | refine sO ?_ | ((conv => whnf); first | refine sK ?_ | (refine sB ?_; repeat' (first | refine sb0 ?_ | (refine sb2 ?_ ?_ <;> intro hb <;> try exact cls))) | ((with_reducible refine isCall ?_); first | (refine call_pure (c_impl_DropNote1 _ id) rfl rfl ?_)) | ((with_reducible refine isCallQ ?_); first | (refine callQ_pure (c_impl_DropNote1 _ id) rfl rfl ?_)) | refine sP ?_ | (refine sE ?_; intro x hx) | (refine sF ?_; intro i y hi hy) | (refine sI ?_; intro i hi) | (refine sL ?_; intro hlen) | (refine sQ ?_; intro c hc hcm; try simp only [lnM, lnA, lnC, lnN] at hc) | (refine sX ?_; intro i1 i2 hi1 hi2 hj1 hj2; try simp only [cutL, lnM, lnA, lnC, lnN, lnT, lnD, lnR] at hi1 hi2 hj2) | refine sD ?_ | (refine ret_pick [] rfl rfl rfl ⟨?_, rfl⟩; conv => lhs; whnf) | (refine ret_pick [0] rfl rfl rfl ⟨rfl, ?_⟩) | (refine sH ?_; clear hn he hr Q')))
  · rw [firstAt_here hk.2 hx (by assumption), if_pos (by omega)]
  · exact ⟨k + 1, ⟨by omega, noneTo_succ hk.2 hx (by assumption)⟩, by omega, (by refine weak_to rfl rfl rfl ?_; ((repeat' (first | exact trivial | refine And.intro ?_ ?_)) <;> (first | rfl | (conv => rhs; whnf) <;> (first | rfl | (refine congrArg (D.int _) ?_; omega)))))⟩
  · rw [firstAt_none hk.2 (by omega), if_neg (by omega)]
theorem c_slices_CloneNote (a : List TNote) (hl : a.length ≤ 1048576) : FnC Tryz.prog 52 G0 0 [] [.sl 2 (a.map encNote)] (fun d os => d = .h 0 ∧ os = [.row 39 2 (a.map encNote)]) := by
  refine fn_rule Tryz.func52 rfl (by decide +kernel) rfl (fun w0 F0 lent β0 => ?_)
  repeat' (first | refine sC ?_ | ((with_reducible refine isAwp ?_); first | (refine sS ?_; intro Q' hn he hr) | refine sA ?_) | (refine sH ?_; clear hn he hr Q') | refine sO ?_ | ((conv => whnf); first | refine sK ?_ | (refine sB ?_; repeat' (first | refine sb0 ?_ | (refine sb2 ?_ ?_ <;> intro hb <;> try exact cls))) | (refine NilS.mk (fun hnil => ?_) ?_) | ((with_reducible refine isRet ?_); first | (refine ret_adopt 39 2 ?_; refine ret_pick [0] rfl rfl rfl ⟨rfl, ?_⟩)) | refine sP ?_ | (refine sE ?_; intro x hx) | (refine sF ?_; intro i y hi hy) | (refine sI ?_; intro i hi) | (refine sL ?_; intro hlen) | (refine sQ ?_; intro c hc hcm; try simp only [lnM, lnA, lnC, lnN] at hc) | (refine sX ?_; intro i1 i2 hi1 hi2 hj1 hj2; try simp only [cutL, lnM, lnA, lnC, lnN, lnT, lnD, lnR] at hi1 hi2 hj2) | refine sD ?_ | (refine ret_pick [] rfl rfl rfl ⟨?_, rfl⟩; conv => lhs; whnf) | (refine ret_pick [0] rfl rfl rfl ⟨rfl, ?_⟩) | (refine sH ?_; clear hn he hr Q')))
  · rw [hnil]; rfl
  · rfl
theorem c_impl_DropNote_ok (a : List TNote) (id : List UInt8) (hv : validNs a = true) (hf : firstAt (isNt id) a < a.length) : FnC Tryz.prog 16 G0 0 [] [.sl 2 (a.map encNote), .str id] (fun d os => d = .tup [.h 0, .int .i64 0] ∧ os = [.row 39 2 ((dropN id a).map encNote)]) := by
  have hl := (validNs_iff.1 hv).1
  have hC := c_slices_IndexNote a id
  rw [if_pos hf] at hC
  rw [dropN_some (validNs_pw hv) hf]
  refine fn_rule Tryz.func16 rfl (by decide +kernel) rfl (fun w0 F0 lent β0 => ?_)
  repeat' (first | refine sC ?_ | ((with_reducible refine isAwp ?_); first | (refine sS ?_; intro Q' hn he hr) | refine sA ?_) | (refine sH ?_; clear hn he hr Q') | refine sO ?_ | ((conv => whnf); first | refine sK ?_ | (refine sB ?_; repeat' (first | refine sb0 ?_ | (refine sb2 ?_ ?_ <;> intro hb <;> try exact cls))) | ((with_reducible refine isCall ?_); first | (refine call_pure (c_impl_ValidNotes _) rfl rfl ?_) | (refine call_look (hC) rfl ?_) | (refine call_mk_look (c_slices_CloneNote a (by omega)) rfl (flat_one (FlatO.map fun _ => rfl)) (by first | exact (rfl : _ = 0) | exact (rfl : _ = 1) | exact (rfl : _ = 2) | exact (rfl : _ = 3) | exact (rfl : _ = 4) | exact (rfl : _ = 5) | exact (rfl : _ = 6) | exact (rfl : _ = 7) | exact (rfl : _ = 8) | exact (rfl : _ = 9) | exact (rfl : _ = 10) | exact (rfl : _ = 11) | exact (rfl : _ = 12) | exact (rfl : _ = 13) | exact (rfl : _ = 14) | exact (rfl : _ = 15) | exact (rfl : _ = 16) | exact (rfl : _ = 17) | exact (rfl : _ = 18) | exact (rfl : _ = 19) | exact (rfl : _ = 20) | exact (rfl : _ = 21) | exact (rfl : _ = 22) | exact (rfl : _ = 23) | exact (rfl : _ = 24) | exact (rfl : _ = 25) | exact (rfl : _ = 26) | exact (rfl : _ = 27) | exact (rfl : _ = 28) | exact (rfl : _ = 29) | exact (rfl : _ = 30) | exact (rfl : _ = 31) | exact (rfl : _ = 32) | exact (rfl : _ = 33) | exact (rfl : _ = 34) | exact (rfl : _ = 35) | exact (rfl : _ = 36) | exact (rfl : _ = 37) | exact (rfl : _ = 38) | exact (rfl : _ = 39)) ?_) | (refine call_inl Tryz.func55 rfl (by decide +kernel) rfl (by first | exact (rfl : _ = 0) | exact (rfl : _ = 1) | exact (rfl : _ = 2) | exact (rfl : _ = 3) | exact (rfl : _ = 4) | exact (rfl : _ = 5) | exact (rfl : _ = 6) | exact (rfl : _ = 7) | exact (rfl : _ = 8) | exact (rfl : _ = 9) | exact (rfl : _ = 10) | exact (rfl : _ = 11) | exact (rfl : _ = 12) | exact (rfl : _ = 13) | exact (rfl : _ = 14) | exact (rfl : _ = 15) | exact (rfl : _ = 16) | exact (rfl : _ = 17) | exact (rfl : _ = 18) | exact (rfl : _ = 19) | exact (rfl : _ = 20) | exact (rfl : _ = 21) | exact (rfl : _ = 22) | exact (rfl : _ = 23) | exact (rfl : _ = 24) | exact (rfl : _ = 25) | exact (rfl : _ = 26) | exact (rfl : _ = 27) | exact (rfl : _ = 28) | exact (rfl : _ = 29) | exact (rfl : _ = 30) | exact (rfl : _ = 31) | exact (rfl : _ = 32) | exact (rfl : _ = 33) | exact (rfl : _ = 34) | exact (rfl : _ = 35) | exact (rfl : _ = 36) | exact (rfl : _ = 37) | exact (rfl : _ = 38) | exact (rfl : _ = 39)) (fun vs0 => ?_))) | ((with_reducible refine isCallQ ?_); first | (refine callQ_pure (c_impl_ValidNotes _) rfl rfl ?_) | (refine callQ_look (hC) rfl ?_)) | ((with_reducible refine isRet ?_); first | (refine ret_pick [1] rfl rfl rfl ⟨rfl, ?_⟩)) | refine sP ?_ | (refine sE ?_; intro x hx) | (refine sF ?_; intro i y hi hy) | (refine sI ?_; intro i hi) | (refine sL ?_; intro hlen) | (refine sQ ?_; intro c hc hcm; try simp only [lnM, lnA, lnC, lnN] at hc) | (refine sX ?_; intro i1 i2 hi1 hi2 hj1 hj2; try simp only [cutL, lnM, lnA, lnC, lnN, lnT, lnD, lnR] at hi1 hi2 hj2) | refine sD ?_ | (refine ret_pick [] rfl rfl rfl ⟨?_, rfl⟩; conv => lhs; whnf) | (refine ret_pick [0] rfl rfl rfl ⟨rfl, ?_⟩) | (refine sH ?_; clear hn he hr Q')))
  refine congrArg (fun l => [Obj.row 39 2 l]) ?_
  rw [List.map_append, List.map_take, List.map_drop]
  rename_i j1 j2 q1 q2 q3 q4
  refine seg_del (List.take_of_length_le ?_) (by omega) (by rw [List.length_map]; omega) (by simp only [List.length_take, List.length_drop, List.length_map]; omega)
  rw [List.length_drop, List.length_map]
  exact Nat.le_refl _
theorem c_impl_DropNote_none (a : List TNote) (id : List UInt8) (hv : validNs a = true) (hf : ¬ firstAt (isNt id) a < a.length) : FnC Tryz.prog 16 G0 0 [] [.sl 2 (a.map encNote), .str id] (fun d os => d = .tup [.sl 2 [], .int .i64 3] ∧ os = []) := by
  have hC := c_slices_IndexNote a id
  rw [if_neg hf] at hC
  refine fn_rule Tryz.func16 rfl (by decide +kernel) rfl (fun w0 F0 lent β0 => ?_)
  repeat' (first | refine sC ?_ | ((with_reducible refine isAwp ?_); first | (refine sS ?_; intro Q' hn he hr) | refine sA ?_) | (refine sH ?_; clear hn he hr Q') | refine sO ?_ | ((conv => whnf); first | refine sK ?_ | (refine sB ?_; repeat' (first | refine sb0 ?_ | (refine sb2 ?_ ?_ <;> intro hb <;> try exact cls))) | ((with_reducible refine isCall ?_); first | (refine call_pure (c_impl_ValidNotes _) rfl rfl ?_) | (refine call_look (hC) rfl ?_)) | ((with_reducible refine isCallQ ?_); first | (refine callQ_pure (c_impl_ValidNotes _) rfl rfl ?_) | (refine callQ_look (hC) rfl ?_)) | ((with_reducible refine isRet ?_); first | (refine ret_nil 2 ?_; refine ret_pick [] rfl rfl rfl ⟨?_, rfl⟩)) | refine sP ?_ | (refine sE ?_; intro x hx) | (refine sF ?_; intro i y hi hy) | (refine sI ?_; intro i hi) | (refine sL ?_; intro hlen) | (refine sQ ?_; intro c hc hcm; try simp only [lnM, lnA, lnC, lnN] at hc) | (refine sX ?_; intro i1 i2 hi1 hi2 hj1 hj2; try simp only [cutL, lnM, lnA, lnC, lnN, lnT, lnD, lnR] at hi1 hi2 hj2) | refine sD ?_ | (refine ret_pick [] rfl rfl rfl ⟨?_, rfl⟩; conv => lhs; whnf) | (refine ret_pick [0] rfl rfl rfl ⟨rfl, ?_⟩) | (refine sH ?_; clear hn he hr Q')))
  all_goals rfl
theorem c_impl_DropNote_bad (a : List TNote) (id : List UInt8) (hv : validNs a = false) : FnC Tryz.prog 16 G0 0 [] [.sl 2 (a.map encNote), .str id] (fun d os => d = .tup [.sl 2 [], .int .i64 1] ∧ os = []) := by
  refine fn_rule Tryz.func16 rfl (by decide +kernel) rfl (fun w0 F0 lent β0 => ?_)
  repeat' (first | refine sC ?_ | ((with_reducible refine isAwp ?_); first | (refine sS ?_; intro Q' hn he hr) | refine sA ?_) | (refine sH ?_; clear hn he hr Q') | refine sO ?_ | ((conv => whnf); first | refine sK ?_ | (refine sB ?_; repeat' (first | refine sb0 ?_ | (refine sb2 ?_ ?_ <;> intro hb <;> try exact cls))) | ((with_reducible refine isCall ?_); first | (refine call_pure (c_impl_ValidNotes _) rfl rfl ?_)) | ((with_reducible refine isCallQ ?_); first | (refine callQ_pure (c_impl_ValidNotes _) rfl rfl ?_)) | ((with_reducible refine isRet ?_); first | (refine ret_nil 2 ?_; refine ret_pick [] rfl rfl rfl ⟨?_, rfl⟩)) | refine sP ?_ | (refine sE ?_; intro x hx) | (refine sF ?_; intro i y hi hy) | (refine sI ?_; intro i hi) | (refine sL ?_; intro hlen) | (refine sQ ?_; intro c hc hcm; try simp only [lnM, lnA, lnC, lnN] at hc) | (refine sX ?_; intro i1 i2 hi1 hi2 hj1 hj2; try simp only [cutL, lnM, lnA, lnC, lnN, lnT, lnD, lnR] at hi1 hi2 hj2) | refine sD ?_ | (refine ret_pick [] rfl rfl rfl ⟨?_, rfl⟩; conv => lhs; whnf) | (refine ret_pick [0] rfl rfl rfl ⟨rfl, ?_⟩) | (refine sH ?_; clear hn he hr Q')))
  all_goals rfl
end Go.Eng
