/-
  The program's stable sort of a few numbers by scores and sizes.
  No conditions.
-/
import Derived.Test.YtbpbhjlochijdaaGreatDoorED
import Derived.Test.YtbpbhjlochijdaaGreatDoorNX
import Derived.Test.YtbpbhjlochijdaaGreatDoorBA
import Derived.Test.YtbpbhjlochijdaaGreatDoorLV
import Derived.Test.YtbpbhjlochijdaaGreatDoorDT
import Derived.Test.YtbpbhjlochijdaaGreatDoorPK
set_option linter.unusedVariables false
set_option linter.unusedSimpArgs false
set_option maxHeartbeats 4000000
namespace Go.Eng
open Go Go.RowKit Go.Proofs
set_option maxRecDepth 100000
def cmpI (x y : Int) : Int := if x < y then -1 else if y < x then 1 else 0
theorem c_isNaN64 (x : Int) : FnC Tryz.prog 89 G0 0 [] [.int .i64 x] (fun d os => d = .bool false ∧ os = []) := by
  refine fn_rule Tryz.func89 rfl (by decide +kernel) rfl (fun w0 F0 lent β0 => ?_)
  repeat' (first | refine sC ?_ | ((with_reducible refine isAwp ?_); first | (refine sS ?_; intro Q' hn he hr) | refine sA ?_) | (refine sH ?_; clear hn he hr Q') | refine sO ?_ | ((conv => whnf); first | refine sK ?_ | (refine sB ?_; repeat' (first | refine sb0 ?_ | (refine sb2 ?_ ?_ <;> intro hb <;> try exact cls))) | refine sP ?_ | (refine sE ?_; intro x hx) | (refine sF ?_; intro i y hi hy) | (refine sI ?_; intro i hi) | (refine sL ?_; intro hlen) | (refine sQ ?_; intro c hc hcm; try simp only [lnM, lnA, lnC, lnN] at hc) | (refine sX ?_; intro i1 i2 hi1 hi2 hj1 hj2; try simp only [cutL, lnM, lnA, lnC, lnN, lnT, lnD, lnR] at hi1 hi2 hj2) | refine sD ?_ | (refine ret_pick [] rfl rfl rfl ⟨?_, rfl⟩; conv => lhs; whnf) | (refine ret_pick [0] rfl rfl rfl ⟨rfl, ?_⟩) | (refine sH ?_; clear hn he hr Q')))
  all_goals first | rfl | simp_all
theorem c_isNaNi (x : Int) : FnC Tryz.prog 90 G0 0 [] [.int .i64 x] (fun d os => d = .bool false ∧ os = []) := by
  refine fn_rule Tryz.func90 rfl (by decide +kernel) rfl (fun w0 F0 lent β0 => ?_)
  repeat' (first | refine sC ?_ | ((with_reducible refine isAwp ?_); first | (refine sS ?_; intro Q' hn he hr) | refine sA ?_) | (refine sH ?_; clear hn he hr Q') | refine sO ?_ | ((conv => whnf); first | refine sK ?_ | (refine sB ?_; repeat' (first | refine sb0 ?_ | (refine sb2 ?_ ?_ <;> intro hb <;> try exact cls))) | refine sP ?_ | (refine sE ?_; intro x hx) | (refine sF ?_; intro i y hi hy) | (refine sI ?_; intro i hi) | (refine sL ?_; intro hlen) | (refine sQ ?_; intro c hc hcm; try simp only [lnM, lnA, lnC, lnN] at hc) | (refine sX ?_; intro i1 i2 hi1 hi2 hj1 hj2; try simp only [cutL, lnM, lnA, lnC, lnN, lnT, lnD, lnR] at hi1 hi2 hj2) | refine sD ?_ | (refine ret_pick [] rfl rfl rfl ⟨?_, rfl⟩; conv => lhs; whnf) | (refine ret_pick [0] rfl rfl rfl ⟨rfl, ?_⟩) | (refine sH ?_; clear hn he hr Q')))
  all_goals first | rfl | simp_all
theorem c_cmp_Compare64 (x y : Int) : FnC Tryz.prog 44 G0 0 [] [.int .i64 x, .int .i64 y] (fun d os => d = .int .i64 (cmpI x y) ∧ os = []) := by
  refine fn_rule Tryz.func44 rfl (by decide +kernel) rfl (fun w0 F0 lent β0 => ?_)
  repeat' (first | refine sC ?_ | ((with_reducible refine isAwp ?_); first | (refine sS ?_; intro Q' hn he hr) | refine sA ?_) | (refine sH ?_; clear hn he hr Q') | refine sO ?_ | ((conv => whnf); first | refine sK ?_ | (refine sB ?_; repeat' (first | refine sb0 ?_ | (refine sb2 ?_ ?_ <;> intro hb <;> try exact cls))) | ((with_reducible refine isCall ?_); first | (refine call_pure (c_isNaN64 _) rfl rfl ?_)) | ((with_reducible refine isCallQ ?_); first | (refine callQ_pure (c_isNaN64 _) rfl rfl ?_)) | refine sP ?_ | (refine sE ?_; intro x hx) | (refine sF ?_; intro i y hi hy) | (refine sI ?_; intro i hi) | (refine sL ?_; intro hlen) | (refine sQ ?_; intro c hc hcm; try simp only [lnM, lnA, lnC, lnN] at hc) | (refine sX ?_; intro i1 i2 hi1 hi2 hj1 hj2; try simp only [cutL, lnM, lnA, lnC, lnN, lnT, lnD, lnR] at hi1 hi2 hj2) | refine sD ?_ | (refine ret_pick [] rfl rfl rfl ⟨?_, rfl⟩; conv => lhs; whnf) | (refine ret_pick [0] rfl rfl rfl ⟨rfl, ?_⟩) | (refine sH ?_; clear hn he hr Q')))
  all_goals (refine congrArg (D.int _) ?_; unfold cmpI; (repeat' split) <;> omega)
theorem c_cmp_Comparei (x y : Int) : FnC Tryz.prog 45 G0 0 [] [.int .i64 x, .int .i64 y] (fun d os => d = .int .i64 (cmpI x y) ∧ os = []) := by
  refine fn_rule Tryz.func45 rfl (by decide +kernel) rfl (fun w0 F0 lent β0 => ?_)
  repeat' (first | refine sC ?_ | ((with_reducible refine isAwp ?_); first | (refine sS ?_; intro Q' hn he hr) | refine sA ?_) | (refine sH ?_; clear hn he hr Q') | refine sO ?_ | ((conv => whnf); first | refine sK ?_ | (refine sB ?_; repeat' (first | refine sb0 ?_ | (refine sb2 ?_ ?_ <;> intro hb <;> try exact cls))) | ((with_reducible refine isCall ?_); first | (refine call_pure (c_isNaNi _) rfl rfl ?_)) | ((with_reducible refine isCallQ ?_); first | (refine callQ_pure (c_isNaNi _) rfl rfl ?_)) | refine sP ?_ | (refine sE ?_; intro x hx) | (refine sF ?_; intro i y hi hy) | (refine sI ?_; intro i hi) | (refine sL ?_; intro hlen) | (refine sQ ?_; intro c hc hcm; try simp only [lnM, lnA, lnC, lnN] at hc) | (refine sX ?_; intro i1 i2 hi1 hi2 hj1 hj2; try simp only [cutL, lnM, lnA, lnC, lnN, lnT, lnD, lnR] at hi1 hi2 hj2) | refine sD ?_ | (refine ret_pick [] rfl rfl rfl ⟨?_, rfl⟩; conv => lhs; whnf) | (refine ret_pick [0] rfl rfl rfl ⟨rfl, ?_⟩) | (refine sH ?_; clear hn he hr Q')))
  all_goals (refine congrArg (D.int _) ?_; unfold cmpI; (repeat' split) <;> omega)
theorem getD_of {α : Type} {l : List α} {i : Nat} {x z : α} (h : l[i]? = some x) : l.getD i z = x := by
  rw [List.getD_eq_getElem?_getD, h]; rfl
theorem befN_cmp {S : List Int} {Z : List Nat} {i k : Nat} {si sk : Int} {zi zk : Nat} (h1 : S[i]? = some si) (h2 : S[k]? = some sk) (h3 : Z[i]? = some zi) (h4 : Z[k]? = some zk) : decide (orI [cmpI sk si, cmpI (zi : Int) (zk : Int)] < 0) = befN S Z i k := by
  unfold befN
  rw [getD_of h1, getD_of h2, getD_of h3, getD_of h4]
  have o1 : ∀ x y : Int, orI [x, y] = if x = 0 then (if y = 0 then 0 else y) else x := fun x y => rfl
  rw [o1]
  by_cases a1 : sk < si
  · have : cmpI sk si = -1 := by unfold cmpI; rw [if_pos a1]
    rw [this]
    simp [a1]
  · by_cases a2 : si < sk
    · have : cmpI sk si = 1 := by unfold cmpI; rw [if_neg a1, if_pos a2]
      rw [this]
      have a3 : ¬ sk = si := by omega
      simp [a1, a3]
    · have : cmpI sk si = 0 := by unfold cmpI; rw [if_neg a1, if_neg a2]
      rw [this]
      have a3 : sk = si := by omega
      by_cases b1 : zi < zk
      · have : cmpI (zi : Int) zk = -1 := by unfold cmpI; rw [if_pos (by omega)]
        rw [this]
        simp [a3, b1]
      · by_cases b2 : zk < zi
        · have : cmpI (zi : Int) zk = 1 := by unfold cmpI; rw [if_neg (by omega), if_pos (by omega)]
          rw [this]
          simp [a3, b1]
        · have : cmpI (zi : Int) zk = 0 := by unfold cmpI; rw [if_neg (by omega), if_neg (by omega)]
          rw [this]
          simp [a3, b1]
/-- What the program's comparison of notes i and k comes to. -/
def cmpN (S : List Int) (Z : List Nat) (i k : Nat) : Int := orI [cmpI (S.getD k 0) (S.getD i 0), cmpI ((Z.getD i 0 : Nat) : Int) ((Z.getD k 0 : Nat) : Int)]
theorem c_impl_RankNotes1 (S : List Int) (Z : List Nat) (i k : Nat) (h1 : i < S.length) (h2 : k < S.length) (h3 : Z.length = S.length) : FnC Tryz.prog 42 G0 0 [] [.int .i64 i, .int .i64 k, .rp [.sl 1 (S.map encI)], .rp [.sl 1 ((natI Z).map encI)]] (fun d os => d = .int .i64 (cmpN S Z i k) ∧ os = []) := by
  obtain ⟨si, e1⟩ : ∃ x, S[i]? = some x := ⟨_, List.getElem?_eq_getElem h1⟩
  obtain ⟨sk, e2⟩ : ∃ x, S[k]? = some x := ⟨_, List.getElem?_eq_getElem h2⟩
  obtain ⟨zi, e3⟩ : ∃ x, Z[i]? = some x := ⟨_, List.getElem?_eq_getElem (by omega)⟩
  obtain ⟨zk, e4⟩ : ∃ x, Z[k]? = some x := ⟨_, List.getElem?_eq_getElem (by omega)⟩
  unfold cmpN
  rw [getD_of e1, getD_of e2, getD_of e3, getD_of e4]
  refine fn_rule Tryz.func42 rfl (by decide +kernel) rfl (fun w0 F0 lent β0 => ?_)
  repeat' (first | refine sC ?_ | ((with_reducible refine isAwp ?_); first | (refine sS ?_; intro Q' hn he hr) | refine sA ?_) | (refine sH ?_; clear hn he hr Q') | refine sO ?_ | ((conv => whnf); first | refine sK ?_ | (refine sB ?_; repeat' (first | refine sb0 ?_ | (refine sb2 ?_ ?_ <;> intro hb <;> try exact cls))) | (refine ElemS.the e1 ?_) | (refine ElemS.the e2 ?_) | (refine ElemS.the (natI_at e3) ?_) | (refine ElemS.the (natI_at e4) ?_) | ((with_reducible refine isCall ?_); first | (refine call_pure (c_cmp_Compare64 _ _) rfl rfl ?_) | (refine call_pure (c_cmp_Comparei _ _) rfl rfl ?_) | (refine call_look (c_cmp_Or [_, _]) rfl ?_)) | ((with_reducible refine isCallQ ?_); first | (refine callQ_pure (c_cmp_Compare64 _ _) rfl rfl ?_) | (refine callQ_pure (c_cmp_Comparei _ _) rfl rfl ?_) | (refine callQ_look (c_cmp_Or [_, _]) rfl ?_)) | refine sP ?_ | (refine sE ?_; intro x hx) | (refine sF ?_; intro i y hi hy) | (refine sI ?_; intro i hi) | (refine sL ?_; intro hlen) | (refine sQ ?_; intro c hc hcm; try simp only [lnM, lnA, lnC, lnN] at hc) | (refine sX ?_; intro i1 i2 hi1 hi2 hj1 hj2; try simp only [cutL, lnM, lnA, lnC, lnN, lnT, lnD, lnR] at hi1 hi2 hj2) | refine sD ?_ | (refine ret_pick [] rfl rfl rfl ⟨?_, rfl⟩; conv => lhs; whnf) | (refine ret_pick [0] rfl rfl rfl ⟨rfl, ?_⟩) | (refine sH ?_; clear hn he hr Q')))
  all_goals rfl
theorem cmpN_bef (S : List Int) (Z : List Nat) (i k : Nat) (h1 : i < S.length) (h2 : k < S.length) (h3 : Z.length = S.length) : decide (cmpN S Z i k < 0) = befN S Z i k := by
  obtain ⟨si, e1⟩ : ∃ x, S[i]? = some x := ⟨_, List.getElem?_eq_getElem h1⟩
  obtain ⟨sk, e2⟩ : ∃ x, S[k]? = some x := ⟨_, List.getElem?_eq_getElem h2⟩
  obtain ⟨zi, e3⟩ : ∃ x, Z[i]? = some x := ⟨_, List.getElem?_eq_getElem (by omega)⟩
  obtain ⟨zk, e4⟩ : ∃ x, Z[k]? = some x := ⟨_, List.getElem?_eq_getElem (by omega)⟩
  unfold cmpN
  rw [getD_of e1, getD_of e2, getD_of e3, getD_of e4]
  exact befN_cmp e1 e2 e3 e4

/-! ### The library's insertion sort -/
def rowOf (P R : List Nat) (x j : Nat) : List Nat := P.take j ++ x :: (P.drop j ++ R)
theorem rowOf_x {P R : List Nat} {x j : Nat} (h : j ≤ P.length) : (rowOf P R x j)[j]? = some x := by
  unfold rowOf
  rw [List.getElem?_append_right (by simp; omega)]
  simp [Nat.min_eq_left h]
theorem rowOf_p {P R : List Nat} {x j p : Nat} (h : P[j]? = some p) : (rowOf P R x (j + 1))[j]? = some p := by
  have hl := (List.getElem?_eq_some_iff.1 h).1
  unfold rowOf
  rw [List.getElem?_append_left (by simp; omega), List.getElem?_take_of_lt (by omega), h]
theorem rowOf_len (P R : List Nat) (x j : Nat) : (rowOf P R x j).length = P.length + R.length + 1 := by
  unfold rowOf
  have h : (P.take j ++ P.drop j).length = P.length := by rw [List.take_append_drop]
  simp only [List.length_append, List.length_cons] at h ⊢
  omega
theorem rowOf_swap {P R : List Nat} {x j p : Nat} (h : P[j]? = some p) : ((rowOf P R x (j + 1)).set (j + 1) p).set j x = rowOf P R x j := by
  have hl := (List.getElem?_eq_some_iff.1 h).1
  have e1 : P.take (j + 1) = P.take j ++ [p] := by rw [List.take_add_one, h]; rfl
  have e2 : P.drop j = p :: P.drop (j + 1) := by rw [List.drop_eq_getElem_cons hl, (List.getElem?_eq_some_iff.1 h).2]
  have l1 : (P.take j).length = j := by simp; omega
  unfold rowOf
  rw [e1, e2, List.append_assoc, List.set_append_right _ _ (by omega), l1, show j + 1 - j = 1 by omega]
  simp only [List.singleton_append, List.cons_append, List.set_cons_succ, List.set_cons_zero]
  rw [List.set_append_right _ _ (by omega), l1, Nat.sub_self]
  rfl
theorem natI_set (l : List Nat) (i x : Nat) : (natI l).set i (x : Int) = natI (l.set i x) := by
  simp [natI, List.map_set]
theorem rowOf_start {P R : List Nat} {x : Nat} : rowOf P R x P.length = P ++ x :: R := by
  unfold rowOf
  rw [List.take_length, List.drop_length, List.nil_append]
theorem rowOf_end (bef : Nat → Nat → Bool) {P R : List Nat} {x : Nat} : rowOf P R x (slotF (bef x) P P.length) = insR bef P x ++ R := by
  unfold rowOf insR
  rw [List.append_assoc, List.cons_append]
theorem rank_one (bef : Nat → Nat → Bool) (Q : List Nat) : rankR bef (Q.take 1) ++ Q.drop 1 = Q := by
  cases Q <;> rfl
theorem take_mem {Q : List Nat} {i : Nat} (bef : Nat → Nat → Bool) {p : Nat} (h : p ∈ rankR bef (Q.take i)) : p ∈ Q := List.mem_of_mem_take (rankR_mem.1 h)
def cloR (S : List Int) (Z : List Nat) : D := .clo (.func 42) [.rp [.sl 1 (S.map encI)], .rp [.sl 1 ((natI Z).map encI)]]
set_option maxHeartbeats 8000000 in
theorem c_insertion (S : List Int) (Z : List Nat) (Q : List Nat) (hQ : Q.length ≤ 20) (hm : ∀ i ∈ Q, i < S.length) (hZ : Z.length = S.length) : FnC Tryz.prog 125 G0 1 [.row 2 1 ((natI Q).map encI)] [.h 0, .int .i64 0, .int .i64 Q.length, cloR S Z] (fun d os => d = .tup [] ∧ os = [.row 2 1 ((natI (rankR (befN S Z) Q)).map encI)]) := by
  refine fn_rule Tryz.func125 rfl (by decide +kernel) rfl (fun w0 F0 lent β0 => ?_)
  unfold cloR
  repeat' (first | refine sC ?_ | ((with_reducible refine isAwp ?_); first | (refine sS ?_; intro Q' hn he hr) | refine sA ?_) | (refine sH ?_; clear hn he hr Q') | refine sO ?_ | ((conv => whnf); first | refine sK ?_ | (refine sB ?_; repeat' (first | refine sb0 ?_ | (refine sb2 ?_ ?_ <;> intro hb <;> try exact cls))) | refine sP ?_ | (refine sE ?_; intro x hx) | (refine sF ?_; intro i y hi hy) | (refine sI ?_; intro i hi) | (refine sL ?_; intro hlen) | (refine sQ ?_; intro c hc hcm; try simp only [lnM, lnA, lnC, lnN] at hc) | (refine sX ?_; intro i1 i2 hi1 hi2 hj1 hj2; try simp only [cutL, lnM, lnA, lnC, lnN, lnT, lnD, lnR] at hi1 hi2 hj2) | refine sD ?_ | (refine ret_pick [] rfl rfl rfl ⟨?_, rfl⟩; conv => lhs; whnf) | (refine ret_pick [0] rfl rfl rfl ⟨rfl, ?_⟩) | (refine sH ?_; clear hn he hr Q')))
  refine loop_env (fun i : Nat => [(0,.h 0),(1,.int .i64 0),(2,.int .i64 Q.length),(3,cloR S Z),(8,.int .i64 i)]) (fun i => [.row 2 1 ((natI (rankR (befN S Z) (Q.take i) ++ Q.drop i)).map encI)]) (fun i => 1 ≤ i ∧ (i ≤ 1 ∨ i ≤ Q.length)) (fun i => Q.length - i) 1 ⟨by omega, by omega⟩ (by refine weak_to rfl rfl (by rw [rank_one]; rfl) ?_; ((repeat' (first | exact trivial | refine And.intro ?_ ?_)) <;> (first | rfl | (conv => rhs; whnf) <;> (first | rfl | (refine congrArg (D.int _) ?_; omega))))) (fun i hi Q' hn he hr => ?_)
  obtain ⟨hi1, hi2⟩ := hi
  by_cases hil : i < Q.length
  · obtain ⟨x, hQx⟩ : ∃ x, Q[i]? = some x := ⟨_, List.getElem?_eq_getElem hil⟩
    have hxS := hm x (List.mem_of_getElem? hQx)
    have hstep := rankR_take (bef := befN S Z) hQx
    have hPl := rankR_len (befN S Z) (Q.take i)
    rw [List.length_take] at hPl
    have hPm : ∀ p ∈ rankR (befN S Z) (Q.take i), p < S.length := fun p hp => hm p (take_mem (befN S Z) hp)
    have hdrop : Q.drop i = x :: Q.drop (i + 1) := by rw [List.drop_eq_getElem_cons hil, (List.getElem?_eq_some_iff.1 hQx).2]
    have hRl : (Q.drop (i + 1)).length = Q.length - (i + 1) := List.length_drop
    rw [hdrop]
    generalize hP : rankR (befN S Z) (Q.take i) = P at *
    generalize hR : Q.drop (i + 1) = R at *
    have hst0 : P ++ x :: R = rowOf P R x P.length := rowOf_start.symm
    rw [hst0]
    repeat' (first | refine sC ?_ | ((with_reducible refine isAwp ?_); first | (refine sS ?_; intro Q' hn he hr) | refine sA ?_) | (refine sH ?_; clear hn he hr Q') | refine sO ?_ | ((conv => whnf); first | refine sK ?_ | (refine sB ?_; repeat' (first | refine sb0 ?_ | (refine sb2 ?_ ?_ <;> intro hb <;> try exact cls))) | refine sP ?_ | (refine sE ?_; intro x hx) | (refine sF ?_; intro i y hi hy) | (refine sI ?_; intro i hi) | (refine sL ?_; intro hlen) | (refine sQ ?_; intro c hc hcm; try simp only [lnM, lnA, lnC, lnN] at hc) | (refine sX ?_; intro i1 i2 hi1 hi2 hj1 hj2; try simp only [cutL, lnM, lnA, lnC, lnN, lnT, lnD, lnR] at hi1 hi2 hj2) | refine sD ?_ | (refine ret_pick [] rfl rfl rfl ⟨?_, rfl⟩; conv => lhs; whnf) | (refine ret_pick [0] rfl rfl rfl ⟨rfl, ?_⟩) | (refine sH ?_; clear hn he hr Q')))
    refine loop_env (fun j : Nat => [(0,.h 0),(1,.int .i64 0),(2,.int .i64 Q.length),(3,cloR S Z),(8,.int .i64 i),(9,.int .i64 j)]) (fun j => [.row 2 1 ((natI (rowOf P R x j)).map encI)]) (fun j => j ≤ i ∧ slotF (befN S Z x) P j = slotF (befN S Z x) P P.length) (fun j => j) i ⟨by omega, by rw [hPl]; congr 1; omega⟩ (by refine weak_to rfl rfl (by rw [show P.length = i by omega]; rfl) ?_; ((repeat' (first | exact trivial | refine And.intro ?_ ?_)) <;> (first | rfl | (conv => rhs; whnf) <;> (first | rfl | (refine congrArg (D.int _) ?_; omega))))) (fun j hj Q' hn he hr => ?_)
    obtain ⟨hj1, hj2⟩ := hj
    have hlx := rowOf_x (R := R) (x := x) (show j ≤ P.length by omega)
    have hrl := rowOf_len P R x j
    have hnl := natI_len (rowOf P R x j)
    cases j with
    | zero =>
      repeat' (first | refine sC ?_ | ((with_reducible refine isAwp ?_); first | (refine sS ?_; intro Q' hn he hr) | refine sA ?_) | (refine sH ?_; clear hn he hr Q') | refine sO ?_ | ((conv => whnf); first | refine sK ?_ | (refine sB ?_; repeat' (first | refine sb0 ?_ | (refine sb2 ?_ ?_ <;> intro hb <;> try exact cls))) | refine sP ?_ | (refine sE ?_; intro x hx) | (refine sF ?_; intro i y hi hy) | (refine sI ?_; intro i hi) | (refine sL ?_; intro hlen) | (refine sQ ?_; intro c hc hcm; try simp only [lnM, lnA, lnC, lnN] at hc) | (refine sX ?_; intro i1 i2 hi1 hi2 hj1 hj2; try simp only [cutL, lnM, lnA, lnC, lnN, lnT, lnD, lnR] at hi1 hi2 hj2) | refine sD ?_ | (refine ret_pick [] rfl rfl rfl ⟨?_, rfl⟩; conv => lhs; whnf) | (refine ret_pick [0] rfl rfl rfl ⟨rfl, ?_⟩) | (refine sH ?_; clear hn he hr Q')))
      refine ⟨i + 1, ⟨by omega, by omega⟩, by omega, ?_⟩
      exact (by refine weak_to rfl rfl (by rw [hstep, hR, ← rowOf_end (befN S Z), ← hj2]; rfl) ?_; ((repeat' (first | exact trivial | refine And.intro ?_ ?_)) <;> (first | rfl | (conv => rhs; whnf) <;> (first | rfl | (refine congrArg (D.int _) ?_; omega)))))
    | succ j =>
      obtain ⟨p, hPp⟩ : ∃ p, P[j]? = some p := ⟨_, List.getElem?_eq_getElem (by omega)⟩
      have hpS := hPm p (List.mem_of_getElem? hPp)
      have hlp := rowOf_p (R := R) (x := x) hPp
      have hsw := rowOf_swap (R := R) (x := x) hPp
      have hC := c_impl_RankNotes1 S Z x p hxS hpS hZ
      have hcb := cmpN_bef S Z x p hxS hpS hZ
      unfold cloR
      repeat' (first | refine sC ?_ | ((with_reducible refine isAwp ?_); first | (refine sS ?_; intro Q' hn he hr) | refine sA ?_) | (refine sH ?_; clear hn he hr Q') | refine sO ?_ | ((conv => whnf); first | refine sK ?_ | (refine sB ?_; repeat' (first | refine sb0 ?_ | (refine sb2 ?_ ?_ <;> intro hb <;> try exact cls))) | (refine ElemS.the (natI_at hlx) ?_) | (refine ElemS.the (natI_at hlp) ?_) | (refine InS.lit j (by omega) (by rw [Nat.blt_eq]; simp only [List.length_map, List.length_set]; omega) ?_) | ((with_reducible refine isCall ?_); first | (refine call_pure (hC) rfl rfl ?_)) | ((with_reducible refine isCallQ ?_); first | (refine callQ_pure (hC) rfl rfl ?_)) | refine sP ?_ | (refine sE ?_; intro x hx) | (refine sF ?_; intro i y hi hy) | (refine sI ?_; intro i hi) | (refine sL ?_; intro hlen) | (refine sQ ?_; intro c hc hcm; try simp only [lnM, lnA, lnC, lnN] at hc) | (refine sX ?_; intro i1 i2 hi1 hi2 hj1 hj2; try simp only [cutL, lnM, lnA, lnC, lnN, lnT, lnD, lnR] at hi1 hi2 hj2) | refine sD ?_ | (refine ret_pick [] rfl rfl rfl ⟨?_, rfl⟩; conv => lhs; whnf) | (refine ret_pick [0] rfl rfl rfl ⟨rfl, ?_⟩) | (refine sH ?_; clear hn he hr Q')))
      · refine draw_cut (γ := Unit) (fun _ => [(0,.h 0),(1,.int .i64 0),(2,.int .i64 Q.length),(3,cloR S Z),(8,.int .i64 i),(9,.int .i64 (j + 1 : Nat))]) (fun _ => [.row 2 1 ((natI (rowOf P R x j)).map encI)]) (fun _ => True) ?_ (fun _ _ => ?_)
        · refine draw_tree3 (.ins [0,1,2,3,4,5,6,7,10,11] (.fork 8 (.fork 9 (.line [12,13,14,15,16,17]) (.cons 12 (.fork 9 (.line [13,14,15,16,17]) (.line [13,9,14,15,16,17])))) (.cons 12 (.fork 8 (.fork 9 (.line [13,14,15,16,17]) (.line [13,9,14,15,16,17])) (.line [13,8,9,14,15,16,17]))))) (by decide +kernel) (by decide +kernel) (by decide +kernel) ?_
          repeat' (first | refine sC ?_ | ((with_reducible refine isAwp ?_); first | (refine sS ?_; intro Q' hn he hr) | refine sA ?_) | (refine sH ?_; clear hn he hr Q') | refine sO ?_ | ((conv => whnf); first | refine sK ?_ | (refine sB ?_; repeat' (first | refine sb0 ?_ | (refine sb2 ?_ ?_ <;> intro hb <;> try exact cls))) | (refine ElemS.lit j rfl (by rw [List.getElem?_set_ne (by omega), List.getElem?_map, natI_at hlp]; rfl) ?_) | (refine ElemS.the (natI_at hlx) ?_) | (refine ElemS.the (natI_at hlp) ?_) | (refine InS.lit j (by omega) (by rw [Nat.blt_eq]; simp only [List.length_map, List.length_set]; omega) ?_) | ((with_reducible refine isTree ?_); first | refine treeK_cons rfl ?_ | refine treeK_fork rfl ?_ ?_ | refine treeK_nil ?_) | refine sP ?_ | (refine sE ?_; intro x hx) | (refine sF ?_; intro i y hi hy) | (refine sI ?_; intro i hi) | (refine sL ?_; intro hlen) | (refine sQ ?_; intro c hc hcm; try simp only [lnM, lnA, lnC, lnN] at hc) | (refine sX ?_; intro i1 i2 hi1 hi2 hj1 hj2; try simp only [cutL, lnM, lnA, lnC, lnN, lnT, lnD, lnR] at hi1 hi2 hj2) | refine sD ?_ | (refine ret_pick [] rfl rfl rfl ⟨?_, rfl⟩; conv => lhs; whnf) | (refine ret_pick [0] rfl rfl rfl ⟨rfl, ?_⟩) | (refine sH ?_; clear hn he hr Q')))
          all_goals refine ⟨(), trivial, ?_⟩
          all_goals exact (by refine weak_to rfl rfl (by rw [← hsw, ← natI_set, ← natI_set, List.map_set, List.map_set]; rfl) ?_; ((repeat' (first | exact trivial | refine And.intro ?_ ?_)) <;> (first | rfl | (conv => rhs; whnf) <;> (first | rfl | (refine congrArg (D.int _) ?_; omega)))))
        · repeat' (first | refine sC ?_ | ((with_reducible refine isAwp ?_); first | (refine sS ?_; intro Q' hn he hr) | refine sA ?_) | (refine sH ?_; clear hn he hr Q') | refine sO ?_ | ((conv => whnf); first | refine sK ?_ | (refine sB ?_; repeat' (first | refine sb0 ?_ | (refine sb2 ?_ ?_ <;> intro hb <;> try exact cls))) | refine sP ?_ | (refine sE ?_; intro x hx) | (refine sF ?_; intro i y hi hy) | (refine sI ?_; intro i hi) | (refine sL ?_; intro hlen) | (refine sQ ?_; intro c hc hcm; try simp only [lnM, lnA, lnC, lnN] at hc) | (refine sX ?_; intro i1 i2 hi1 hi2 hj1 hj2; try simp only [cutL, lnM, lnA, lnC, lnN, lnT, lnD, lnR] at hi1 hi2 hj2) | refine sD ?_ | (refine ret_pick [] rfl rfl rfl ⟨?_, rfl⟩; conv => lhs; whnf) | (refine ret_pick [0] rfl rfl rfl ⟨rfl, ?_⟩) | (refine sH ?_; clear hn he hr Q')))
          have hbt : befN S Z x p = true := by rw [← hcb]; exact decide_eq_true hb
          exact ⟨j, ⟨by omega, by rw [← slotF_by hPp hbt]; exact hj2⟩, by omega, (by refine weak_to rfl rfl rfl ?_; ((repeat' (first | exact trivial | refine And.intro ?_ ?_)) <;> (first | rfl | (conv => rhs; whnf) <;> (first | rfl | (refine congrArg (D.int _) ?_; omega)))))⟩
      · have hbt : ¬ befN S Z x p = true := by rw [← hcb]; simpa using hb
        rw [slotF_stop hPp hbt] at hj2
        refine ⟨i + 1, ⟨by omega, by omega⟩, by omega, ?_⟩
        exact (by refine weak_to rfl rfl (by rw [hstep, hR, ← rowOf_end (befN S Z), ← hj2]; rfl) ?_; ((repeat' (first | exact trivial | refine And.intro ?_ ?_)) <;> (first | rfl | (conv => rhs; whnf) <;> (first | rfl | (refine congrArg (D.int _) ?_; omega)))))
  · repeat' (first | refine sC ?_ | ((with_reducible refine isAwp ?_); first | (refine sS ?_; intro Q' hn he hr) | refine sA ?_) | (refine sH ?_; clear hn he hr Q') | refine sO ?_ | ((conv => whnf); first | refine sK ?_ | (refine sB ?_; repeat' (first | refine sb0 ?_ | (refine sb2 ?_ ?_ <;> intro hb <;> try exact cls))) | refine sP ?_ | (refine sE ?_; intro x hx) | (refine sF ?_; intro i y hi hy) | (refine sI ?_; intro i hi) | (refine sL ?_; intro hlen) | (refine sQ ?_; intro c hc hcm; try simp only [lnM, lnA, lnC, lnN] at hc) | (refine sX ?_; intro i1 i2 hi1 hi2 hj1 hj2; try simp only [cutL, lnM, lnA, lnC, lnN, lnT, lnD, lnR] at hi1 hi2 hj2) | refine sD ?_ | (refine ret_pick [] rfl rfl rfl ⟨?_, rfl⟩; conv => lhs; whnf) | (refine ret_pick [0] rfl rfl rfl ⟨rfl, ?_⟩) | (refine sH ?_; clear hn he hr Q')))
    rw [List.take_of_length_le (by omega), List.drop_of_length_le (by omega), List.append_nil]
    rfl
end Go.Eng
