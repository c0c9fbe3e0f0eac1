/-
  Lists of numbers and sessions, read from their texts by the program and by the reference.
  No conditions.
-/
import Derived.Test.YtlkjechbejfnhaaGreatDoorED
import Derived.Test.YtlkjechbejfnhaaGreatDoorRD
import Derived.Test.YtlkjechbejfnhaaGreatDoorSP1
import Derived.Test.YtlkjechbejfnhaaGreatDoorAR0
import Derived.Test.YtlkjechbejfnhaaGreatDoorW1
import Derived.Test.YtlkjechbejfnhaaGreatDoorLT
import Derived.Test.YtlkjechbejfnhaaGreatDoorTE
set_option linter.unusedVariables false
set_option linter.unusedSimpArgs false
set_option maxHeartbeats 4000000
namespace Go.Eng
open Go Go.RowKit Go.Proofs
set_option maxRecDepth 100000
def goodN (p : List UInt8) : Bool := (readN p).2 && inB (readN p).1 (-1000000000000) 1000000000000
/-- The numbers of a text, and whether there are any such. -/
def readL (s : List UInt8) : List Int × Bool :=
  if s = [45] then ([], true) else if (splitC 44 s).length ≤ 64 ∧ (splitC 44 s).all goodN = true then ((splitC 44 s).map fun p => (readN p).1, true) else ([], false)
theorem readL_dash {s : List UInt8} (h : s = [45]) : readL s = ([], true) := by unfold readL; rw [if_pos h]
theorem readL_long {s : List UInt8} (h : s ≠ [45]) (h2 : ¬ (splitC 44 s).length ≤ 64) : readL s = ([], false) := by unfold readL; rw [if_neg h, if_neg (fun x => h2 x.1)]
theorem readL_bad {s : List UInt8} (h : s ≠ [45]) {k : Nat} {p : List UInt8} (hp : (splitC 44 s)[k]? = some p) (hg : goodN p = false) : readL s = ([], false) := by
  unfold readL
  rw [if_neg h, if_neg]
  rintro ⟨_, h2⟩
  rw [List.all_eq_true.1 h2 p (List.mem_of_getElem? hp)] at hg
  cases hg
theorem readL_good {s : List UInt8} (h : s ≠ [45]) (h2 : (splitC 44 s).length ≤ 64) (h3 : (splitC 44 s).all goodN = true) : readL s = ((splitC 44 s).map fun p => (readN p).1, true) := by
  unfold readL
  rw [if_neg h, if_pos ⟨h2, h3⟩]
theorem map_take_succ {α β : Type} {f : α → β} {l : List α} {k : Nat} {x : α} (h : l[k]? = some x) : (l.take (k + 1)).map f = (l.take k).map f ++ [f x] := by
  rw [List.take_add_one, h]
  simp
theorem all_take_step {α : Type} {f : α → Bool} {l : List α} {k : Nat} {x : α} (h0 : (l.take k).all f = true) (h : l[k]? = some x) (hx : f x = true) : (l.take (k + 1)).all f = true := by
  rw [List.take_add_one, h, List.all_append, h0]
  simp [hx]
theorem c_impl_ReadList (e1 e2 : Value) (hif : isIfc e1) (s : List UInt8) (hs : s.length ≤ 1048576) : FnC Tryz.prog 98 (GE e1 e2) 0 [] [.str s] (fun d os => d = .tup [.sl 1 ((readL s).1.map encI), .bool (readL s).2] ∧ os = []) := by
  by_cases hd : s = [45]
  · rw [readL_dash hd]
    subst hd
    refine fn_rule Tryz.func98 rfl (by decide +kernel) rfl (fun w0 F0 lent β0 => ?_)
    repeat' (first | refine sC ?_ | ((with_reducible refine isAwp ?_); first | (refine sS ?_; intro Q' hn he hr) | refine sA ?_) | (refine sH ?_; clear hn he hr Q') | refine sO ?_ | ((conv => whnf); first | refine sK ?_ | (refine sB ?_; repeat' (first | refine sb0 ?_ | (refine sb2 ?_ ?_ <;> intro hb <;> try exact cls))) | ((with_reducible refine isRet ?_); first | (refine ret_nil 1 ?_; refine ret_pick [] rfl rfl rfl ⟨?_, rfl⟩)) | refine sP ?_ | (refine sE ?_; intro x hx) | (refine sF ?_; intro i y hi hy) | (refine sI ?_; intro i hi) | (refine sL ?_; intro hlen) | (refine sQ ?_; intro c hc hcm; try simp only [lnM, lnA, lnC, lnN] at hc) | (refine sX ?_; intro i1 i2 hi1 hi2 hj1 hj2; try simp only [cutL, lnM, lnA, lnC, lnN, lnT, lnD, lnR] at hi1 hi2 hj2) | refine sD ?_ | (refine ret_pick [] rfl rfl rfl ⟨?_, rfl⟩; conv => lhs; whnf) | (refine ret_pick [0] rfl rfl rfl ⟨rfl, ?_⟩) | (refine sH ?_; clear hn he hr Q')))
    all_goals first | rfl | exact absurd rfl hb
  · have hsp := c_strings_Split s 44 (by omega)
    have hle := splitC_le 44 s
    refine fn_rule Tryz.func98 rfl (by decide +kernel) rfl (fun w0 F0 lent β0 => ?_)
    repeat' (first | refine sC ?_ | ((with_reducible refine isAwp ?_); first | (refine sS ?_; intro Q' hn he hr) | refine sA ?_) | (refine sH ?_; clear hn he hr Q') | refine sO ?_ | ((conv => whnf); first | refine sK ?_ | (refine sB ?_; repeat' (first | refine sb0 ?_ | (refine sb2 ?_ ?_ <;> intro hb <;> try exact cls))) | ((with_reducible refine isCall ?_); first | (refine call_pure (FnC.anyG (hsp)) rfl rfl ?_)) | ((with_reducible refine isCallQ ?_); first | (refine callQ_pure (FnC.anyG (hsp)) rfl rfl ?_)) | refine sP ?_ | (refine sE ?_; intro x hx) | (refine sF ?_; intro i y hi hy) | (refine sI ?_; intro i hi) | (refine sL ?_; intro hlen) | (refine sQ ?_; intro c hc hcm; try simp only [lnM, lnA, lnC, lnN] at hc) | (refine sX ?_; intro i1 i2 hi1 hi2 hj1 hj2; try simp only [cutL, lnM, lnA, lnC, lnN, lnT, lnD, lnR] at hi1 hi2 hj2) | refine sD ?_ | (refine ret_pick [] rfl rfl rfl ⟨?_, rfl⟩; conv => lhs; whnf) | (refine ret_pick [0] rfl rfl rfl ⟨rfl, ?_⟩) | (refine sH ?_; clear hn he hr Q')))
    all_goals first | exact absurd (by assumption) hd | skip
    refine loop_env (fun k : Nat => [(0,.str s),(12,.sl 1 ((splitC 44 s).map encS)),(13,.int .i64 (splitC 44 s).length),(14,.int .i64 k),(4,.h 0)]) (fun k => [.row 2 1 ((((splitC 44 s).take k).map fun p => (readN p).1).map encI)]) (fun k => k ≤ (splitC 44 s).length ∧ k ≤ 64 ∧ ((splitC 44 s).take k).all goodN = true) (fun k => (splitC 44 s).length - k) 0 ⟨by omega, by omega, rfl⟩ (by refine Weak.trans (weak_adopt 4 2 1 rfl rfl) (weak_to rfl rfl rfl ?_); exact ⟨rfl, rfl, rfl, rfl, rfl, trivial⟩) (fun k hk Q' hn he hr => ?_)
    obtain ⟨hk1, hk2, hk3⟩ := hk
    have hlk : ((((splitC 44 s).take k).map fun p => (readN p).1)).length = k := by rw [List.length_map, List.length_take]; omega
    by_cases hkl : k < (splitC 44 s).length
    · obtain ⟨p, hp⟩ : ∃ p, (splitC 44 s)[k]? = some p := ⟨_, List.getElem?_eq_getElem hkl⟩
      have hpl : p.length ≤ 1048576 := Nat.le_trans (hle p (List.mem_of_getElem? hp)) hs
      have hrd := c_impl_ReadDecimal e1 e2 hif p hpl
      cases hg : (readN p).2 with
      | false =>
        have hbad := readL_bad hd hp (by unfold goodN; rw [hg]; rfl)
        rw [hg] at hrd
        repeat' (first | refine sC ?_ | ((with_reducible refine isAwp ?_); first | (refine sS ?_; intro Q' hn he hr) | refine sA ?_) | (refine sH ?_; clear hn he hr Q') | refine sO ?_ | ((conv => whnf); first | refine sK ?_ | (refine sB ?_; repeat' (first | refine sb0 ?_ | (refine sb2 ?_ ?_ <;> intro hb <;> try exact cls))) | (refine ElemS.the hp ?_) | ((with_reducible refine isCall ?_); first | (refine call_pure (hrd) rfl rfl ?_) | (refine call_pure (FnC.anyG (c_within _ _ _)) rfl rfl ?_)) | ((with_reducible refine isCallQ ?_); first | (refine callQ_pure (hrd) rfl rfl ?_) | (refine callQ_pure (FnC.anyG (c_within _ _ _)) rfl rfl ?_)) | ((with_reducible refine isRet ?_); first | (refine ret_nil 1 ?_; refine ret_pick [] rfl rfl rfl ⟨?_, rfl⟩)) | refine sP ?_ | (refine sE ?_; intro x hx) | (refine sF ?_; intro i y hi hy) | (refine sI ?_; intro i hi) | (refine sL ?_; intro hlen) | (refine sQ ?_; intro c hc hcm; try simp only [lnM, lnA, lnC, lnN] at hc) | (refine sX ?_; intro i1 i2 hi1 hi2 hj1 hj2; try simp only [cutL, lnM, lnA, lnC, lnN, lnT, lnD, lnR] at hi1 hi2 hj2) | refine sD ?_ | (refine ret_pick [] rfl rfl rfl ⟨?_, rfl⟩; conv => lhs; whnf) | (refine ret_pick [0] rfl rfl rfl ⟨rfl, ?_⟩) | (refine sH ?_; clear hn he hr Q')))
        all_goals (rw [hbad]; rfl)
      | true =>
        rw [hg] at hrd
        cases hv : inB (readN p).1 (-1000000000000) 1000000000000 with
        | false =>
          have hbad := readL_bad hd hp (by unfold goodN; rw [hg, hv]; rfl)
          repeat' (first | refine sC ?_ | ((with_reducible refine isAwp ?_); first | (refine sS ?_; intro Q' hn he hr) | refine sA ?_) | (refine sH ?_; clear hn he hr Q') | refine sO ?_ | ((conv => whnf); first | refine sK ?_ | (refine sB ?_; repeat' (first | refine sb0 ?_ | (refine sb2 ?_ ?_ <;> intro hb <;> try exact cls))) | (refine ElemS.the hp ?_) | ((with_reducible refine isCall ?_); first | (refine call_pure (hrd) rfl rfl ?_) | (refine call_pure (FnC.anyG (c_within _ _ _)) rfl rfl ?_)) | ((with_reducible refine isCallQ ?_); first | (refine callQ_pure (hrd) rfl rfl ?_) | (refine callQ_pure (FnC.anyG (c_within _ _ _)) rfl rfl ?_)) | ((with_reducible refine isRet ?_); first | (refine ret_nil 1 ?_; refine ret_pick [] rfl rfl rfl ⟨?_, rfl⟩)) | refine sP ?_ | (refine sE ?_; intro x hx) | (refine sF ?_; intro i y hi hy) | (refine sI ?_; intro i hi) | (refine sL ?_; intro hlen) | (refine sQ ?_; intro c hc hcm; try simp only [lnM, lnA, lnC, lnN] at hc) | (refine sX ?_; intro i1 i2 hi1 hi2 hj1 hj2; try simp only [cutL, lnM, lnA, lnC, lnN, lnT, lnD, lnR] at hi1 hi2 hj2) | refine sD ?_ | (refine ret_pick [] rfl rfl rfl ⟨?_, rfl⟩; conv => lhs; whnf) | (refine ret_pick [0] rfl rfl rfl ⟨rfl, ?_⟩) | (refine sH ?_; clear hn he hr Q')))
          all_goals (rw [hbad]; rfl)
        | true =>
          have hgood : goodN p = true := by unfold goodN; rw [hg, hv]; rfl
          repeat' (first | refine sC ?_ | ((with_reducible refine isAwp ?_); first | (refine sS ?_; intro Q' hn he hr) | refine sA ?_) | (refine sH ?_; clear hn he hr Q') | refine sO ?_ | ((conv => whnf); first | refine sK ?_ | (refine sB ?_; repeat' (first | refine sb0 ?_ | (refine sb2 ?_ ?_ <;> intro hb <;> try exact cls))) | (refine ElemS.the hp ?_) | ((with_reducible refine isCall ?_); first | (refine call_pure (hrd) rfl rfl ?_) | (refine call_pure (FnC.anyG (c_within _ _ _)) rfl rfl ?_)) | ((with_reducible refine isCallQ ?_); first | (refine callQ_pure (hrd) rfl rfl ?_) | (refine callQ_pure (FnC.anyG (c_within _ _ _)) rfl rfl ?_)) | ((with_reducible refine isRet ?_); first | (refine ret_nil 1 ?_; refine ret_pick [] rfl rfl rfl ⟨?_, rfl⟩)) | refine sP ?_ | (refine sE ?_; intro x hx) | (refine sF ?_; intro i y hi hy) | (refine sI ?_; intro i hi) | (refine sL ?_; intro hlen) | (refine sQ ?_; intro c hc hcm; try simp only [lnM, lnA, lnC, lnN] at hc) | (refine sX ?_; intro i1 i2 hi1 hi2 hj1 hj2; try simp only [cutL, lnM, lnA, lnC, lnN, lnT, lnD, lnR] at hi1 hi2 hj2) | refine sD ?_ | (refine ret_pick [] rfl rfl rfl ⟨?_, rfl⟩; conv => lhs; whnf) | (refine ret_pick [0] rfl rfl rfl ⟨rfl, ?_⟩) | (refine sH ?_; clear hn he hr Q')))
          all_goals first
            | (rw [readL_long hd (by omega)]; rfl)
            | (refine ⟨k + 1, ⟨by omega, by omega, all_take_step hk3 hp hgood⟩, by omega, ?_⟩; exact (by refine weak_to rfl rfl (by rw [map_take_succ hp, List.map_append]; rfl) ?_; ((repeat' (first | exact trivial | refine And.intro ?_ ?_)) <;> (first | rfl | (conv => rhs; whnf) <;> (first | rfl | (refine congrArg (D.int _) ?_; omega))))))
    · obtain rfl : k = (splitC 44 s).length := by omega
      rw [List.take_length] at hk3
      have hfin := readL_good hd hk2 hk3
      repeat' (first | refine sC ?_ | ((with_reducible refine isAwp ?_); first | (refine sS ?_; intro Q' hn he hr) | refine sA ?_) | (refine sH ?_; clear hn he hr Q') | refine sO ?_ | ((conv => whnf); first | refine sK ?_ | (refine sB ?_; repeat' (first | refine sb0 ?_ | (refine sb2 ?_ ?_ <;> intro hb <;> try exact cls))) | ((with_reducible refine isRet ?_); first | (refine ret_freeze 0 rfl (Nat.zero_le _) ?_; refine ret_pick [] rfl rfl rfl ⟨?_, rfl⟩)) | refine sP ?_ | (refine sE ?_; intro x hx) | (refine sF ?_; intro i y hi hy) | (refine sI ?_; intro i hi) | (refine sL ?_; intro hlen) | (refine sQ ?_; intro c hc hcm; try simp only [lnM, lnA, lnC, lnN] at hc) | (refine sX ?_; intro i1 i2 hi1 hi2 hj1 hj2; try simp only [cutL, lnM, lnA, lnC, lnN, lnT, lnD, lnR] at hi1 hi2 hj2) | refine sD ?_ | (refine ret_pick [] rfl rfl rfl ⟨?_, rfl⟩; conv => lhs; whnf) | (refine ret_pick [0] rfl rfl rfl ⟨rfl, ?_⟩) | (refine sH ?_; clear hn he hr Q')))
      all_goals (rw [hfin, List.take_length]; rfl)
/-! ### Sessions -/
def sessB (x : TSession) : Bool := inB x.fDay 0 100000 && (inB x.fTurn (-5000) 5000 && (inB x.fLift (-5000) 5000 && inB x.fError 0 180000))
def noSess : TSession := ⟨0, 0, 0, 0⟩
/-- The session of a text, and whether there is one. -/
def readS (s : List UInt8) : TSession × Bool := match (readL s).1 with
  | [a, b, c, d] => if sessB ⟨a, b, c, d⟩ = true then (⟨a, b, c, d⟩, true) else (noSess, false)
  | _ => (noSess, false)
theorem readS_bad {s : List UInt8} (h : (readL s).1.length ≠ 4) : readS s = (noSess, false) := by
  unfold readS
  split
  · rename_i a b c d hh
    rw [hh] at h
    exact absurd rfl h
  · rfl
theorem readL_false {s : List UInt8} (h : (readL s).2 = false) : (readL s).1 = [] := by
  unfold readL at *
  split
  · rfl
  · split
    · rename_i h1 h2
      rw [if_neg h1, if_pos h2] at h
      cases h
    · rfl
end Go.Eng
