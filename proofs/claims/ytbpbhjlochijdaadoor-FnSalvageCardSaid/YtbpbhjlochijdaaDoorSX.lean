/-
  If a byte of a line changes, just the block of this line is lost: the function of the law on both sides.
  No conditions.
-/
import Derived.Test.YtbpbhjlochijdaaDoorED
import Derived.Test.YtbpbhjlochijdaaDoorDR3
import Derived.Test.YtbpbhjlochijdaaDoorR8
import Derived.Test.YtbpbhjlochijdaaDoorFS0
import Derived.Test.YtbpbhjlochijdaaDoorSV
import Derived.Test.YtbpbhjlochijdaaDoorSW
import Derived.Test.YtbpbhjlochijdaaDoorRX
import Derived.Test.YtbpbhjlochijdaaDoorAR3
import Derived.Test.YtbpbhjlochijdaaDoorDT
set_option linter.unusedVariables false
set_option linter.unusedSimpArgs false
set_option maxHeartbeats 4000000
namespace Go.Eng
open Go Go.RowKit Go.Proofs
set_option maxRecDepth 100000
theorem saveTo_pos (L : List TBlock) (k : Nat) : 9 ≤ (saveTo L k).length := by
  simp [saveTo, headL]
  omega
theorem take_count {S : List UInt8} {k : Nat} {c : UInt8} (h : S[k]? = some c) : (S.take (k + 1)).count 10 = (S.take k).count 10 + if c = 10 then 1 else 0 := by
  rw [List.take_add_one, h, List.count_append]
  by_cases e : c = 10
  · subst e; simp
  · simp [e]
theorem c_same_cut (m : Nat) (L : List TBlock) (i1 i2 : Nat) (h1 : i1 = m) (h2 : i2 = m + 1) : FnC Tryd.prog 13 G0 0 [] [.sl 3 ((L.take m ++ L.drop (m + 1)).map encBlock), .sl 3 ([] ++ cutL (L.map encBlock) none (some i1) ++ cutL (L.map encBlock) (some i2) none)] (fun d os => d = .bool true ∧ os = []) := by
  have e : [] ++ cutL (L.map encBlock) none (some i1) ++ cutL (L.map encBlock) (some i2) none = (L.take m ++ L.drop (m + 1)).map encBlock := by
    subst h1
    subst h2
    simp [cutL]
  rw [e]
  exact c_spec_SameBlocks_eq _
set_option maxHeartbeats 8000000 in
theorem c_FnSalvage (code more : List UInt8) (_ : ∀ x ∈ code, True) (_ : ∀ x ∈ more, True) : FnC Tryd.prog 3 GP 0 [] [.sl 1 (code.map byteE), .sl 1 (more.map byteE)] (fun d os => d = .bool true ∧ os = []) := by
  obtain ⟨z2, hz1, hz2, hz3⟩ := c_r8At_at more 2 255 (by omega) (by omega)
  refine fn_rule Tryd.func3 rfl (by decide +kernel) rfl (fun w0 F0 lent β0 => ?_)
  repeat' (first | refine sC ?_ | ((with_reducible refine isAwp ?_); first | (refine sS ?_; intro Q' hn he hr) | refine sA ?_) | (refine sH ?_; clear hn he hr Q') | refine sO ?_ | ((conv => whnf); first | refine sK ?_ | (refine sB ?_; repeat' (first | refine sb0 ?_ | (refine sb2 ?_ ?_ <;> intro hb <;> try exact cls))) | (refine ElemS.the hSy ?_) | (refine ArithS.u8in (by omega) ?_) | (refine InS.nat (by rw [List.length_map]; omega) ?_) | ((with_reducible refine isCall ?_); first | (refine call_some (c_r8Long code more).anyG rfl ?_; rintro d ⟨b9, rfl⟩; refine ⟨rfl, ?_⟩) | (refine call_some (c_R8Blocks code).anyG rfl ?_; rintro d ⟨LS, rfl, hL, hL5, hLk⟩; have hS9 := saveTo_pos LS LS.length; have hS8 := saveTo_len hL LS.length; refine ⟨rfl, ?_⟩) | (refine call_pure ((c_spec_SaveBlocks_ok LS hL).anyG) rfl rfl ?_) | (refine call_some (c_r8Wide more 0 ((saveTo LS LS.length).length : Nat) (by omega) (by omega)).anyG rfl ?_; rintro d ⟨at0, rfl, hat1, hat2⟩; obtain ⟨n, rfl⟩ : ∃ n : Nat, at0 = n := ⟨at0.toNat, by omega⟩; obtain ⟨y, hSy⟩ : ∃ y, (saveTo LS LS.length)[n]? = some y := ⟨_, List.getElem?_eq_getElem (by omega)⟩; refine ⟨rfl, ?_⟩) | (refine call_pure (hz3.anyG) rfl rfl ?_)) | ((with_reducible refine isCallQ ?_); first | (refine callQ_pure ((c_spec_SaveBlocks_ok LS hL).anyG) rfl rfl ?_) | (refine callQ_pure (hz3.anyG) rfl rfl ?_)) | refine sP ?_ | (refine sE ?_; intro x hx) | (refine sF ?_; intro i y hi hy) | (refine sI ?_; intro i hi) | (refine sL ?_; intro hlen) | (refine sQ ?_; intro c hc hcm; try simp only [lnM, lnA, lnC, lnN] at hc) | (refine sX ?_; intro i1 i2 hi1 hi2 hj1 hj2; try simp only [cutL, lnM, lnA, lnC, lnN, lnT, lnD, lnR] at hi1 hi2 hj2) | refine sD ?_ | (refine ret_pick [] rfl rfl rfl ⟨?_, rfl⟩; conv => lhs; whnf) | (refine ret_pick [0] rfl rfl rfl ⟨rfl, ?_⟩) | (refine sH ?_; clear hn he hr Q')))
  generalize hSe : saveTo LS LS.length = S at *
  generalize hxe : y ^^^ UInt8.ofNat (1 + z2).toNat = x
  have hrs := raw_set S n y (v := 1 + z2) (by omega)
  rw [hxe] at hrs
  have hxy : x ≠ y := by rw [← hxe]; exact xor_ne (byte_pos (by omega))
  refine loop_env (fun k : Nat => [(5,.sl 3 (LS.map encBlock)),(6,.str S),(8,.h 0),(9,.int .i64 n),(10,.int .u8 y.toNat),(11,.int .i64 (1 + ((S.take k).count 10 : Nat))),(12,.int .i64 k)]) (fun _ => [.raw 5 1 ((S.set n x).map byteE)]) (fun k => k ≤ n) (fun k => n - k) 0 (Nat.zero_le _) (by refine weak_to rfl rfl (by first | exact congrArg (fun l => [Obj.raw 5 1 l]) hrs | exact (congrArg (fun l => [Obj.raw 5 1 l]) hrs).symm) ?_; ((repeat' (first | exact trivial | refine And.intro ?_ ?_)) <;> (first | rfl | (conv => rhs; whnf) <;> (first | rfl | (refine congrArg (D.int _) ?_; omega))))) (fun k hk Q' hn he hr => ?_)
  by_cases hkn : k < n
  · obtain ⟨c, hSk⟩ : ∃ c, S[k]? = some c := ⟨_, List.getElem?_eq_getElem (by omega)⟩
    have htc := take_count hSk
    have hcb : (S.take k).count 10 ≤ k := Nat.le_trans List.count_le_length (by rw [List.length_take]; omega)
    by_cases hc : c = 10
    · have hv : (c.toNat : Int) = 10 := byte_ten.2 hc
      rw [if_pos hc] at htc
      repeat' (first | refine sC ?_ | ((with_reducible refine isAwp ?_); first | (refine sS ?_; intro Q' hn he hr) | refine sA ?_) | (refine sH ?_; clear hn he hr Q') | refine sO ?_ | ((conv => whnf); first | refine sK ?_ | (refine sB ?_; repeat' (first | refine sb0 ?_ | (refine sb2 ?_ ?_ <;> intro hb <;> try exact cls))) | (refine ByteS.the hSk ?_) | (refine ElemS.the hSk ?_) | refine sP ?_ | (refine sE ?_; intro x hx) | (refine sF ?_; intro i y hi hy) | (refine sI ?_; intro i hi) | (refine sL ?_; intro hlen) | (refine sQ ?_; intro c hc hcm; try simp only [lnM, lnA, lnC, lnN] at hc) | (refine sX ?_; intro i1 i2 hi1 hi2 hj1 hj2; try simp only [cutL, lnM, lnA, lnC, lnN, lnT, lnD, lnR] at hi1 hi2 hj2) | refine sD ?_ | (refine ret_pick [] rfl rfl rfl ⟨?_, rfl⟩; conv => lhs; whnf) | (refine ret_pick [0] rfl rfl rfl ⟨rfl, ?_⟩) | (refine sH ?_; clear hn he hr Q')))
      all_goals first | exact ⟨k + 1, by omega, by omega, (by refine weak_to rfl rfl rfl ?_; ((repeat' (first | exact trivial | refine And.intro ?_ ?_)) <;> (first | rfl | (conv => rhs; whnf) <;> (first | rfl | (refine congrArg (D.int _) ?_; omega)))))⟩ | (exfalso; omega) | trace_state
    · have hv : ¬ (c.toNat : Int) = 10 := fun e => hc (byte_ten.1 e)
      rw [if_neg hc] at htc
      repeat' (first | refine sC ?_ | ((with_reducible refine isAwp ?_); first | (refine sS ?_; intro Q' hn he hr) | refine sA ?_) | (refine sH ?_; clear hn he hr Q') | refine sO ?_ | ((conv => whnf); first | refine sK ?_ | (refine sB ?_; repeat' (first | refine sb0 ?_ | (refine sb2 ?_ ?_ <;> intro hb <;> try exact cls))) | (refine ByteS.the hSk ?_) | (refine ElemS.the hSk ?_) | refine sP ?_ | (refine sE ?_; intro x hx) | (refine sF ?_; intro i y hi hy) | (refine sI ?_; intro i hi) | (refine sL ?_; intro hlen) | (refine sQ ?_; intro c hc hcm; try simp only [lnM, lnA, lnC, lnN] at hc) | (refine sX ?_; intro i1 i2 hi1 hi2 hj1 hj2; try simp only [cutL, lnM, lnA, lnC, lnN, lnT, lnD, lnR] at hi1 hi2 hj2) | refine sD ?_ | (refine ret_pick [] rfl rfl rfl ⟨?_, rfl⟩; conv => lhs; whnf) | (refine ret_pick [0] rfl rfl rfl ⟨rfl, ?_⟩) | (refine sH ?_; clear hn he hr Q')))
      all_goals first | exact ⟨k + 1, by omega, by omega, (by refine weak_to rfl rfl rfl ?_; ((repeat' (first | exact trivial | refine And.intro ?_ ?_)) <;> (first | rfl | (conv => rhs; whnf) <;> (first | rfl | (refine congrArg (D.int _) ?_; omega)))))⟩ | (exfalso; omega) | trace_state
  · obtain rfl : k = n := by omega
    have hxx : (S.set k x)[k]? = some x := by rw [List.getElem?_set_self (by omega)]
    have hsl : (S.set k x).length = S.length := List.length_set ..
    by_cases h1 : y = 10
    · have hv : (y.toNat : Int) = 10 := byte_ten.2 h1
      repeat' (first | refine sC ?_ | ((with_reducible refine isAwp ?_); first | (refine sS ?_; intro Q' hn he hr) | refine sA ?_) | (refine sH ?_; clear hn he hr Q') | refine sO ?_ | ((conv => whnf); first | refine sK ?_ | (refine sB ?_; repeat' (first | refine sb0 ?_ | (refine sb2 ?_ ?_ <;> intro hb <;> try exact cls))) | (refine ElemS.the hxx ?_) | (refine InS.nat (by rw [List.length_map]; omega) ?_) | refine sP ?_ | (refine sE ?_; intro x hx) | (refine sF ?_; intro i y hi hy) | (refine sI ?_; intro i hi) | (refine sL ?_; intro hlen) | (refine sQ ?_; intro c hc hcm; try simp only [lnM, lnA, lnC, lnN] at hc) | (refine sX ?_; intro i1 i2 hi1 hi2 hj1 hj2; try simp only [cutL, lnM, lnA, lnC, lnN, lnT, lnD, lnR] at hi1 hi2 hj2) | refine sD ?_ | (refine ret_pick [] rfl rfl rfl ⟨?_, rfl⟩; conv => lhs; whnf) | (refine ret_pick [0] rfl rfl rfl ⟨rfl, ?_⟩) | (refine sH ?_; clear hn he hr Q')))
      all_goals first | rfl | (exfalso; omega) | trace_state
    · have hv : ¬ (y.toNat : Int) = 10 := fun e => h1 (byte_ten.1 e)
      by_cases h2 : x = 10
      · have hv2 : (x.toNat : Int) = 10 := byte_ten.2 h2
        repeat' (first | refine sC ?_ | ((with_reducible refine isAwp ?_); first | (refine sS ?_; intro Q' hn he hr) | refine sA ?_) | (refine sH ?_; clear hn he hr Q') | refine sO ?_ | ((conv => whnf); first | refine sK ?_ | (refine sB ?_; repeat' (first | refine sb0 ?_ | (refine sb2 ?_ ?_ <;> intro hb <;> try exact cls))) | (refine ElemS.the hxx ?_) | (refine InS.nat (by rw [List.length_map]; omega) ?_) | refine sP ?_ | (refine sE ?_; intro x hx) | (refine sF ?_; intro i y hi hy) | (refine sI ?_; intro i hi) | (refine sL ?_; intro hlen) | (refine sQ ?_; intro c hc hcm; try simp only [lnM, lnA, lnC, lnN] at hc) | (refine sX ?_; intro i1 i2 hi1 hi2 hj1 hj2; try simp only [cutL, lnM, lnA, lnC, lnN, lnT, lnD, lnR] at hi1 hi2 hj2) | refine sD ?_ | (refine ret_pick [] rfl rfl rfl ⟨?_, rfl⟩; conv => lhs; whnf) | (refine ret_pick [0] rfl rfl rfl ⟨rfl, ?_⟩) | (refine sH ?_; clear hn he hr Q')))
        all_goals first | rfl | (exfalso; omega) | trace_state
      · have hv2 : ¬ (x.toNat : Int) = 10 := fun e => h2 (byte_ten.1 e)
        by_cases h3 : (S.take k).count 10 = 0
        · repeat' (first | refine sC ?_ | ((with_reducible refine isAwp ?_); first | (refine sS ?_; intro Q' hn he hr) | refine sA ?_) | (refine sH ?_; clear hn he hr Q') | refine sO ?_ | ((conv => whnf); first | refine sK ?_ | (refine sB ?_; repeat' (first | refine sb0 ?_ | (refine sb2 ?_ ?_ <;> intro hb <;> try exact cls))) | (refine ElemS.the hxx ?_) | (refine InS.nat (by rw [List.length_map]; omega) ?_) | refine sP ?_ | (refine sE ?_; intro x hx) | (refine sF ?_; intro i y hi hy) | (refine sI ?_; intro i hi) | (refine sL ?_; intro hlen) | (refine sQ ?_; intro c hc hcm; try simp only [lnM, lnA, lnC, lnN] at hc) | (refine sX ?_; intro i1 i2 hi1 hi2 hj1 hj2; try simp only [cutL, lnM, lnA, lnC, lnN, lnT, lnD, lnR] at hi1 hi2 hj2) | refine sD ?_ | (refine ret_pick [] rfl rfl rfl ⟨?_, rfl⟩; conv => lhs; whnf) | (refine ret_pick [0] rfl rfl rfl ⟨rfl, ?_⟩) | (refine sH ?_; clear hn he hr Q')))
          all_goals first | rfl | (exfalso; omega) | trace_state
        · subst hSe
          obtain ⟨m, hm1, hm2, hm3, hm4⟩ := salvage_law hL hSy h1 h2 hxy h3
          have hcd := c_impl_DamagedLines ((saveTo LS LS.length).set k x) (by omega)
          have hcs := c_impl_SalvageBlocks ((saveTo LS LS.length).set k x) (by omega)
          rw [hm3] at hcd
          rw [hm4] at hcs
          have hsm := c_laws_r8Same [(m : Int) + 2] [1 + (((saveTo LS LS.length).take k).count 10 : Nat)]
          have hse : eqL eqI [(m : Int) + 2] [1 + (((saveTo LS LS.length).take k).count 10 : Nat)] = true := by
            have : (m : Int) + 2 = 1 + (((saveTo LS LS.length).take k).count 10 : Nat) := by omega
            rw [this]
            exact eqL_refl eqI_refl _
          rw [hse] at hsm
          repeat' (first | refine sC ?_ | ((with_reducible refine isAwp ?_); first | (refine sS ?_; intro Q' hn he hr) | refine sA ?_) | (refine sH ?_; clear hn he hr Q') | refine sO ?_ | ((conv => whnf); first | refine sK ?_ | (refine sB ?_; repeat' (first | refine sb0 ?_ | (refine sb2 ?_ ?_ <;> intro hb <;> try exact cls))) | (refine ElemS.the hxx ?_) | (refine InS.nat (by rw [List.length_map]; omega) ?_) | (refine BytesS.mk ⟨_, rfl, ?_⟩) | (refine draw_tree3 (.ins [1,2,3,6,7,8] (.fork 0 (.fork 4 (.fork 5 (.line [9,10,11]) (.line [9,5,10,11])) (.line [9,4,5,10,11])) (.fork 4 (.fork 0 (.fork 5 (.line [9,10,11]) (.line [9,5,10,11])) (.line [9,0,5,10,11])) (.ins [9] (.fork 0 (.line [4,5,10,11]) (.line [4,0,5,10,11])))))) (by decide +kernel) (by decide +kernel) (by decide +kernel) ?_) | ((with_reducible refine isTree ?_); first | refine treeK_cons rfl ?_ | refine treeK_fork rfl ?_ ?_ | refine treeK_nil ?_) | ((with_reducible refine isCall ?_); first | (refine call_mk hcd rfl (by first | exact (rfl : _ = 0) | exact (rfl : _ = 1) | exact (rfl : _ = 2) | exact (rfl : _ = 3) | exact (rfl : _ = 4) | exact (rfl : _ = 5) | exact (rfl : _ = 6) | exact (rfl : _ = 7) | exact (rfl : _ = 8) | exact (rfl : _ = 9) | exact (rfl : _ = 10) | exact (rfl : _ = 11) | exact (rfl : _ = 12) | exact (rfl : _ = 13) | exact (rfl : _ = 14) | exact (rfl : _ = 15) | exact (rfl : _ = 16) | exact (rfl : _ = 17) | exact (rfl : _ = 18) | exact (rfl : _ = 19) | exact (rfl : _ = 20) | exact (rfl : _ = 21) | exact (rfl : _ = 22) | exact (rfl : _ = 23) | exact (rfl : _ = 24) | exact (rfl : _ = 25) | exact (rfl : _ = 26) | exact (rfl : _ = 27) | exact (rfl : _ = 28) | exact (rfl : _ = 29) | exact (rfl : _ = 30) | exact (rfl : _ = 31) | exact (rfl : _ = 32) | exact (rfl : _ = 33) | exact (rfl : _ = 34) | exact (rfl : _ = 35) | exact (rfl : _ = 36) | exact (rfl : _ = 37) | exact (rfl : _ = 38) | exact (rfl : _ = 39)) ?_) | (refine call_mk hcs rfl (by first | exact (rfl : _ = 0) | exact (rfl : _ = 1) | exact (rfl : _ = 2) | exact (rfl : _ = 3) | exact (rfl : _ = 4) | exact (rfl : _ = 5) | exact (rfl : _ = 6) | exact (rfl : _ = 7) | exact (rfl : _ = 8) | exact (rfl : _ = 9) | exact (rfl : _ = 10) | exact (rfl : _ = 11) | exact (rfl : _ = 12) | exact (rfl : _ = 13) | exact (rfl : _ = 14) | exact (rfl : _ = 15) | exact (rfl : _ = 16) | exact (rfl : _ = 17) | exact (rfl : _ = 18) | exact (rfl : _ = 19) | exact (rfl : _ = 20) | exact (rfl : _ = 21) | exact (rfl : _ = 22) | exact (rfl : _ = 23) | exact (rfl : _ = 24) | exact (rfl : _ = 25) | exact (rfl : _ = 26) | exact (rfl : _ = 27) | exact (rfl : _ = 28) | exact (rfl : _ = 29) | exact (rfl : _ = 30) | exact (rfl : _ = 31) | exact (rfl : _ = 32) | exact (rfl : _ = 33) | exact (rfl : _ = 34) | exact (rfl : _ = 35) | exact (rfl : _ = 36) | exact (rfl : _ = 37) | exact (rfl : _ = 38) | exact (rfl : _ = 39)) ?_) | (refine call_look (hsm.anyG) rfl ?_) | (refine call_look ((c_same_cut m LS _ _ (by omega) (by omega)).anyG) rfl ?_)) | ((with_reducible refine isCallQ ?_); first | (refine callQ_look (hsm.anyG) rfl ?_) | (refine callQ_look ((c_same_cut m LS _ _ (by omega) (by omega)).anyG) rfl ?_)) | refine sP ?_ | (refine sE ?_; intro x hx) | (refine sF ?_; intro i y hi hy) | (refine sI ?_; intro i hi) | (refine sL ?_; intro hlen) | (refine sQ ?_; intro c hc hcm; try simp only [lnM, lnA, lnC, lnN] at hc) | (refine sX ?_; intro i1 i2 hi1 hi2 hj1 hj2; try simp only [cutL, lnM, lnA, lnC, lnN, lnT, lnD, lnR] at hi1 hi2 hj2) | refine sD ?_ | (refine ret_pick [] rfl rfl rfl ⟨?_, rfl⟩; conv => lhs; whnf) | (refine ret_pick [0] rfl rfl rfl ⟨rfl, ?_⟩) | (refine sH ?_; clear hn he hr Q')))
          all_goals trace_state
end Go.Eng
