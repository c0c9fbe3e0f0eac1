/-
  Cues that clash, names of codes, fixtures that are named: the contracts of the program's functions and of the reference's.
  No conditions.
-/
import Derived.Test.YtigdnelbanaieaaGreatDoorED
import Derived.Test.YtigdnelbanaieaaGreatDoorQX
import Derived.Test.YtigdnelbanaieaaGreatDoorFX
import Derived.Test.YtigdnelbanaieaaGreatDoorVY
set_option linter.unusedVariables false
set_option linter.unusedSimpArgs false
set_option maxHeartbeats 4000000
namespace Go.Eng
open Go Go.RowKit Go.Proofs
set_option maxRecDepth 100000
def GK : Nat → Option (List D) := G1 0 (codeL.map .str)
theorem c_impl_CodeName (c : Int) (h : 0 ≤ c ∧ c ≤ 11) : FnC Tryz.prog 103 GK 0 [] [.int .i64 c] (fun d os => d = .str (codeT c) ∧ os = []) := by
  have h7 : c = 0 ∨ c = 1 ∨ c = 2 ∨ c = 3 ∨ c = 4 ∨ c = 5 ∨ c = 6 ∨ c = 7 ∨ c = 8 ∨ c = 9 ∨ c = 10 ∨ c = 11 := by omega
  rcases h7 with rfl | rfl | rfl | rfl | rfl | rfl | rfl | rfl | rfl | rfl | rfl | rfl
  all_goals
    refine fn_rule Tryz.func103 rfl (by decide +kernel) rfl (fun w0 F0 lent β0 => ?_)
    repeat' (first | refine sC ?_ | ((with_reducible refine isAwp ?_); first | (refine sS ?_; intro Q' hn he hr) | refine sA ?_) | (refine sH ?_; clear hn he hr Q') | ((conv => whnf); first | refine sK ?_ | (refine sB ?_; repeat' (first | refine sb0 ?_ | (refine sb2 ?_ ?_ <;> intro hb <;> try exact cls))) | (refine ElemS.lit 0 rfl rfl ?_) | (refine ElemS.lit 1 rfl rfl ?_) | (refine ElemS.lit 2 rfl rfl ?_) | (refine ElemS.lit 3 rfl rfl ?_) | (refine ElemS.lit 4 rfl rfl ?_) | (refine ElemS.lit 5 rfl rfl ?_) | (refine ElemS.lit 6 rfl rfl ?_) | (refine ElemS.lit 7 rfl rfl ?_) | (refine ElemS.lit 8 rfl rfl ?_) | (refine ElemS.lit 9 rfl rfl ?_) | (refine ElemS.lit 10 rfl rfl ?_) | (refine ElemS.lit 11 rfl rfl ?_) | (refine ret_pick [] rfl rfl rfl ⟨?_, rfl⟩; conv => lhs; whnf)))
  all_goals first
    | rfl
    | (exfalso; exact hb (by decide))
theorem c_spec_CodeName (c : Int) (h : 0 ≤ c ∧ c ≤ 11) : FnC Tryz.prog 138 G0 0 [] [.int .i64 c] (fun d os => d = .str (codeT c) ∧ os = []) := by
  have h7 : c = 0 ∨ c = 1 ∨ c = 2 ∨ c = 3 ∨ c = 4 ∨ c = 5 ∨ c = 6 ∨ c = 7 ∨ c = 8 ∨ c = 9 ∨ c = 10 ∨ c = 11 := by omega
  rcases h7 with rfl | rfl | rfl | rfl | rfl | rfl | rfl | rfl | rfl | rfl | rfl | rfl
  all_goals
    refine fn_rule Tryz.func138 rfl (by decide +kernel) rfl (fun w0 F0 lent β0 => ?_)
    repeat' (first | refine sC ?_ | ((with_reducible refine isAwp ?_); first | (refine sS ?_; intro Q' hn he hr) | refine sA ?_) | (refine sH ?_; clear hn he hr Q') | ((conv => whnf); first | refine sK ?_ | (refine sB ?_; repeat' (refine sb2 ?_ ?_ <;> intro hb <;> try exact cls)) | (refine ElemS.lit 0 rfl rfl ?_) | (refine InS.lit 0 rfl rfl ?_) | (refine ElemS.lit 1 rfl rfl ?_) | (refine InS.lit 1 rfl rfl ?_) | (refine ElemS.lit 2 rfl rfl ?_) | (refine InS.lit 2 rfl rfl ?_) | (refine ElemS.lit 3 rfl rfl ?_) | (refine InS.lit 3 rfl rfl ?_) | (refine ElemS.lit 4 rfl rfl ?_) | (refine InS.lit 4 rfl rfl ?_) | (refine ElemS.lit 5 rfl rfl ?_) | (refine InS.lit 5 rfl rfl ?_) | (refine ElemS.lit 6 rfl rfl ?_) | (refine InS.lit 6 rfl rfl ?_) | (refine ElemS.lit 7 rfl rfl ?_) | (refine InS.lit 7 rfl rfl ?_) | (refine ElemS.lit 8 rfl rfl ?_) | (refine InS.lit 8 rfl rfl ?_) | (refine ElemS.lit 9 rfl rfl ?_) | (refine InS.lit 9 rfl rfl ?_) | (refine ElemS.lit 10 rfl rfl ?_) | (refine InS.lit 10 rfl rfl ?_) | (refine ElemS.lit 11 rfl rfl ?_) | (refine InS.lit 11 rfl rfl ?_) | ((with_reducible refine isCall ?_); (refine call_pure (c_l00In _ _ _) rfl rfl ?_)) | refine sP ?_ | (refine sL ?_; intro hlen) | (refine ret_pick [] rfl rfl rfl ⟨?_, rfl⟩; conv => lhs; whnf)))
  all_goals first
    | rfl
    | (exfalso; exact hb (by decide))
    | (exfalso; revert hb; decide)
theorem c_impl_cueFindings1 (f : TFixture) (c : TCue) : FnC Tryz.prog 101 G0 0 [] [.agg (encFixture f), .rp (encCue c)] (fun d os => d = .bool (isFix c.fTarget f) ∧ os = []) := by
  refine fn_rule Tryz.func101 rfl (by decide +kernel) rfl (fun w0 F0 lent β0 => ?_)
  repeat' (first | refine sC ?_ | ((with_reducible refine isAwp ?_); first | (refine sS ?_; intro Q' hn he hr) | refine sA ?_) | (refine sH ?_; clear hn he hr Q') | ((conv => whnf); first | refine sK ?_ | (refine ret_pick [] rfl rfl rfl ⟨?_, rfl⟩; conv => lhs; whnf)))
  all_goals (refine congrArg D.bool ?_; simp [isFix, *])
theorem c_slices_IndexFix (a : List TFixture) (c : TCue) : FnC Tryz.prog 161 G0 0 [] [.sl 4 (a.map encFixture), .clo (.func 101) [.rp (encCue c)]] (fun d os => d = .int .i64 (idxQ (isFix c.fTarget) a) ∧ os = []) := by
  refine fn_rule Tryz.func161 rfl (by decide +kernel) rfl (fun w0 F0 lent β0 => ?_)
  repeat' (first | refine sC ?_ | ((with_reducible refine isAwp ?_); first | (refine sS ?_; intro Q' hn he hr) | refine sA ?_) | (refine sH ?_; clear hn he hr Q') | ((conv => whnf); first | refine sK ?_ | (refine sL ?_; intro hlen)))
  refine loop_env (fun k : Nat => [(0,.sl 4 (a.map encFixture)),(1,.clo (.func 101) [.rp (encCue c)]),(6,.sl 4 (a.map encFixture)),(7,.int .i64 a.length),(8,.int .i64 k)]) (fun _ => []) (fun k => k ≤ a.length ∧ noneTo (isFix c.fTarget) a k) (fun k => a.length - k) 0 ⟨by omega, noneTo_zero⟩ (by refine weak_to rfl rfl rfl ?_; ((repeat' (first | exact trivial | refine And.intro ?_ ?_)) <;> (first | rfl | (conv => rhs; whnf) <;> (first | rfl | (refine congrArg (D.int _) ?_; omega))))) (fun k hk Q' hn he hr => ?_)
  repeat' (first | refine sC ?_ | ((with_reducible refine isAwp ?_); first | (refine sS ?_; intro Q' hn he hr) | refine sA ?_) | (refine sH ?_; clear hn he hr Q') | ((conv => whnf); first | refine sK ?_ | (refine sB ?_; repeat' (refine sb2 ?_ ?_ <;> intro hb <;> try exact cls)) | ((with_reducible refine isCall ?_); (refine call_look (c_impl_cueFindings1 x c) rfl ?_)) | refine sP ?_ | (refine sE ?_; intro x hx) | (refine ret_pick [] rfl rfl rfl ⟨?_, rfl⟩; conv => lhs; whnf) | (refine sH ?_; clear hn he hr Q')))
  · rw [idxQ_here hk.2 hx hb]
  · exact ⟨k + 1, ⟨by omega, noneTo_succ hk.2 hx hb⟩, by omega, (by refine weak_to rfl rfl rfl ?_; ((repeat' (first | exact trivial | refine And.intro ?_ ?_)) <;> (first | rfl | (conv => rhs; whnf) <;> (first | rfl | (refine congrArg (D.int _) ?_; omega)))))⟩
  · rw [idxQ_none hk.2 (by omega)]
theorem c_slices_ContainsFix (a : List TFixture) (c : TCue) : FnC Tryz.prog 100 G0 0 [] [.sl 4 (a.map encFixture), .clo (.func 101) [.rp (encCue c)]] (fun d os => d = .bool (decide (0 ≤ idxQ (isFix c.fTarget) a)) ∧ os = []) := by
  refine fn_rule Tryz.func100 rfl (by decide +kernel) rfl (fun w0 F0 lent β0 => ?_)
  repeat' (first | refine sC ?_ | ((with_reducible refine isAwp ?_); first | (refine sS ?_; intro Q' hn he hr) | refine sA ?_) | (refine sH ?_; clear hn he hr Q') | ((conv => whnf); first | refine sK ?_ | ((with_reducible refine isCall ?_); (refine call_look (c_slices_IndexFix a c) rfl ?_)) | (refine ret_pick [] rfl rfl rfl ⟨?_, rfl⟩; conv => lhs; whnf)))
theorem c_spec_l31Fixture (h : THouse) (r : List D) (t : List UInt8) : FnC Tryz.prog 136 G0 0 [] [.rp (encHouseR h r), .str t] (fun d os => d = .bool (decide (0 ≤ idxQ (isFix t) h.fFixtures)) ∧ os = []) := by
  refine fn_rule Tryz.func136 rfl (by decide +kernel) rfl (fun w0 F0 lent β0 => ?_)
  repeat' (first | refine sC ?_ | ((with_reducible refine isAwp ?_); first | (refine sS ?_; intro Q' hn he hr) | refine sA ?_) | (refine sH ?_; clear hn he hr Q') | ((conv => whnf); refine sK ?_))
  refine loop_env (fun k : Nat => [(0,.rp (encHouseR h r)),(1,.str t),(5,.int .i64 k)]) (fun _ => []) (fun k => k ≤ h.fFixtures.length ∧ noneTo (isFix t) h.fFixtures k) (fun k => h.fFixtures.length - k) 0 ⟨by omega, noneTo_zero⟩ (by refine weak_to rfl rfl rfl ?_; ((repeat' (first | exact trivial | refine And.intro ?_ ?_)) <;> (first | rfl | (conv => rhs; whnf) <;> (first | rfl | (refine congrArg (D.int _) ?_; omega))))) (fun k hk Q' hn he hr => ?_)
  by_cases hkl : k < h.fFixtures.length
  · obtain ⟨f, hf⟩ : ∃ f, h.fFixtures[k]? = some f := ⟨_, List.getElem?_eq_getElem hkl⟩
    repeat' (first | refine sC ?_ | ((with_reducible refine isAwp ?_); first | (refine sS ?_; intro Q' hn he hr) | refine sA ?_) | (refine sH ?_; clear hn he hr Q') | ((conv => whnf); first | refine sK ?_ | (refine sB ?_; repeat' (refine sb2 ?_ ?_ <;> intro hb <;> try exact cls)) | (refine ElemS.the hf ?_) | refine sP ?_ | (refine sL ?_; intro hlen) | (refine ret_pick [] rfl rfl rfl ⟨?_, rfl⟩; conv => lhs; whnf)))
    all_goals first
      | (rw [idxQ_here hk.2 hf (by simp [isFix, *])]; simp; done)
      | exact ⟨k + 1, ⟨by omega, noneTo_succ hk.2 hf (by simp [isFix, *])⟩, by omega, (by refine weak_to rfl rfl rfl ?_; ((repeat' (first | exact trivial | refine And.intro ?_ ?_)) <;> (first | rfl | (conv => rhs; whnf) <;> (first | rfl | (refine congrArg (D.int _) ?_; omega)))))⟩
  · repeat' (first | refine sC ?_ | ((with_reducible refine isAwp ?_); first | (refine sS ?_; intro Q' hn he hr) | refine sA ?_) | (refine sH ?_; clear hn he hr Q') | ((conv => whnf); first | refine sK ?_ | (refine sB ?_; repeat' (refine sb2 ?_ ?_ <;> intro hb <;> try exact cls)) | (refine sL ?_; intro hlen) | (refine ret_pick [] rfl rfl rfl ⟨?_, rfl⟩; conv => lhs; whnf) | (refine sH ?_; clear hn he hr Q')))
    rw [idxQ_none hk.2 (by omega)]
    rfl
theorem cueB_facts {c : TCue} (h : cueB c = true) : (0 ≤ c.fTime ∧ c.fTime ≤ 7200000) ∧ (0 ≤ c.fLength ∧ c.fLength ≤ 7200000) ∧ (0 ≤ c.fValue ∧ c.fValue ≤ 1000) := by
  simp only [cueB, inB, Bool.and_eq_true, decide_eq_true_eq] at h
  obtain ⟨_, _, h1, h2, h3⟩ := h
  refine ⟨h1, ?_, h2⟩
  split at h3
  · simp at h3; omega
  · split at h3
    · simp at h3; omega
    · split at h3
      · simp at h3; omega
      · cases h3
theorem c_spec_l13Clash (a b : TCue) (ha : cueB a = true) : FnC Tryz.prog 186 G0 0 [] [.rp (encCue a), .rp (encCue b)] (fun d os => d = .bool (clashB a b) ∧ os = []) := by
  have hf := cueB_facts ha
  refine fn_rule Tryz.func186 rfl (by decide +kernel) rfl (fun w0 F0 lent β0 => ?_)
  repeat' (first | refine sC ?_ | ((with_reducible refine isAwp ?_); first | (refine sS ?_; intro Q' hn he hr) | refine sA ?_) | (refine sH ?_; clear hn he hr Q') | refine sO ?_ | ((conv => whnf); first | refine sK ?_ | (refine sB ?_; repeat' (first | refine sb0 ?_ | (refine sb2 ?_ ?_ <;> intro hb <;> try exact cls))) | refine sP ?_ | refine sD ?_ | (refine ret_pick [] rfl rfl rfl ⟨?_, rfl⟩; conv => lhs; whnf)))
  all_goals (refine congrArg D.bool ?_; simp [clashB, *])
theorem cues_at {C : List TCue} (h : cuesB C = true) {k : Nat} {c : TCue} (hc : C[k]? = some c) : cueB c = true := by
  simp only [cuesB, Bool.and_eq_true] at h
  have h2 := allI_at h.2 hc
  simp only [cueP, Bool.and_eq_true] at h2
  exact h2.1
theorem cues_len {C : List TCue} (h : cuesB C = true) : C.length ≤ 32 := by
  simp only [cuesB, Bool.and_eq_true, decide_eq_true_eq] at h
  exact h.1
theorem clash_room {C : List TCue} (hl : C.length ≤ 32) {out r : List (List Int)} (h : out ++ r = clashL C 0) : out.length ≤ 1024 := by
  have h1 := clashL_len C 0 hl
  have h2 := congrArg List.length h
  rw [List.length_append] at h2
  omega
set_option maxHeartbeats 8000000 in
theorem c_spec_l13Clashes (C : List TCue) (hv : cuesB C = true) : FnC Tryz.prog 135 G0 0 [] [.sl 6 (C.map encCue)] (fun d os => d = .sl 1 ((clashL C 0).map encSpot) ∧ os = []) := by
  have hcl := cues_len hv
  refine fn_rule Tryz.func135 rfl (by decide +kernel) rfl (fun w0 F0 lent β0 => ?_)
  repeat' (first | refine sC ?_ | ((with_reducible refine isAwp ?_); first | (refine sS ?_; intro Q' hn he hr) | refine sA ?_) | (refine sH ?_; clear hn he hr Q') | ((conv => whnf); refine sK ?_))
  refine loop_env2 (fun (i : Nat) (out : List (List Int)) => [(0,.sl 6 (C.map encCue)),(3,.h 0),(4,.int .i64 i)]) (fun _ out => [.row 26 1 (out.map encSpot)]) (fun i out => i ≤ C.length ∧ out ++ clashL (C.drop i) i = clashL C 0) (fun i _ => C.length - i) 0 [] ⟨by omega, rfl⟩ (by refine weak_to rfl rfl rfl ?_; ((repeat' (first | exact trivial | refine And.intro ?_ ?_)) <;> (first | rfl | (conv => rhs; whnf) <;> (first | rfl | (refine congrArg (D.int _) ?_; omega))))) (fun i out hk Q' hn he hr => ?_)
  obtain ⟨hk1, hk2⟩ := hk
  by_cases hil : i < C.length
  · obtain ⟨a, hca⟩ : ∃ a, C[i]? = some a := ⟨_, List.getElem?_eq_getElem hil⟩
    rw [clashL_go hca, ← List.append_assoc] at hk2
    have hav := cues_at hv hca
    repeat' (first | refine sC ?_ | ((with_reducible refine isAwp ?_); first | (refine sS ?_; intro Q' hn he hr) | refine sA ?_) | (refine sH ?_; clear hn he hr Q') | ((conv => whnf); first | refine sK ?_ | (refine sB ?_; repeat' (refine sb2 ?_ ?_ <;> intro hb <;> try exact cls)) | refine sP ?_ | (refine sL ?_; intro hlen)))
    refine loop_env2 (fun (k : Nat) (out : List (List Int)) => [(0,.sl 6 (C.map encCue)),(3,.h 0),(4,.int .i64 i),(5,.int .i64 k)]) (fun _ out => [.row 26 1 (out.map encSpot)]) (fun k out => k ≤ C.length ∧ out ++ clashI a i (C.drop k) k ++ clashL (C.drop (i + 1)) (i + 1) = clashL C 0) (fun k _ => C.length - k) (i + 1) out ⟨by omega, hk2⟩ (by refine weak_to rfl rfl rfl ?_; ((repeat' (first | exact trivial | refine And.intro ?_ ?_)) <;> (first | rfl | (conv => rhs; whnf) <;> (first | rfl | (refine congrArg (D.int _) ?_; omega))))) (fun k out hj Q' hn he hr => ?_)
    obtain ⟨hj1, hj2⟩ := hj
    have hroom := clash_room hcl (by rw [← List.append_assoc]; exact hj2)
    by_cases hkl : k < C.length
    · obtain ⟨b, hcb⟩ : ∃ b, C[k]? = some b := ⟨_, List.getElem?_eq_getElem hkl⟩
      repeat' (first | refine sC ?_ | ((with_reducible refine isAwp ?_); first | (refine sS ?_; intro Q' hn he hr) | refine sA ?_) | (refine sH ?_; clear hn he hr Q') | refine sO ?_ | ((conv => whnf); first | refine sK ?_ | (refine sB ?_; repeat' (refine sb2 ?_ ?_ <;> intro hb <;> try exact cls)) | (refine ElemS.the hca ?_) | (refine ElemS.the hcb ?_) | ((with_reducible refine isCallQ ?_); (refine callQ_look (c_spec_l13Clash a b hav) rfl ?_)) | refine sP ?_ | (refine sL ?_; intro hlen) | refine sD ?_))
      · refine ⟨k + 1, out ++ [[(i : Int), (k : Int)]], ⟨by omega, by rw [← hj2, clashI_yes hcb (by assumption)]; simp⟩, by omega, ?_⟩
        exact (by refine weak_to rfl rfl (by rw [List.map_append]; rfl) ?_; ((repeat' (first | exact trivial | refine And.intro ?_ ?_)) <;> (first | rfl | (conv => rhs; whnf) <;> (first | rfl | (refine congrArg (D.int _) ?_; omega)))))
      · exact ⟨k + 1, out, ⟨by omega, by rw [← hj2, clashI_no hcb (by assumption)]⟩, by omega, (by refine weak_to rfl rfl rfl ?_; ((repeat' (first | exact trivial | refine And.intro ?_ ?_)) <;> (first | rfl | (conv => rhs; whnf) <;> (first | rfl | (refine congrArg (D.int _) ?_; omega)))))⟩
    · rw [clashI_end (by omega), List.append_nil] at hj2
      repeat' (first | refine sC ?_ | ((with_reducible refine isAwp ?_); first | (refine sS ?_; intro Q' hn he hr) | refine sA ?_) | (refine sH ?_; clear hn he hr Q') | ((conv => whnf); first | refine sK ?_ | (refine sB ?_; repeat' (refine sb2 ?_ ?_ <;> intro hb <;> try exact cls)) | refine sP ?_ | (refine sL ?_; intro hlen) | (refine sH ?_; clear hn he hr Q')))
      exact ⟨i + 1, out, ⟨by omega, hj2⟩, by omega, (by refine weak_to rfl rfl rfl ?_; ((repeat' (first | exact trivial | refine And.intro ?_ ?_)) <;> (first | rfl | (conv => rhs; whnf) <;> (first | rfl | (refine congrArg (D.int _) ?_; omega)))))⟩
  · rw [clashL_end (by omega), List.append_nil] at hk2
    repeat' (first | refine sC ?_ | ((with_reducible refine isAwp ?_); first | (refine sS ?_; intro Q' hn he hr) | refine sA ?_) | (refine sH ?_; clear hn he hr Q') | ((conv => whnf); first | refine sK ?_ | (refine sB ?_; repeat' (refine sb2 ?_ ?_ <;> intro hb <;> try exact cls)) | ((with_reducible refine isRet ?_); (refine ret_freeze 0 rfl (Nat.zero_le _) ?_; refine ret_pick [] rfl rfl rfl ⟨?_, rfl⟩)) | (refine sL ?_; intro hlen) | (refine sH ?_; clear hn he hr Q')))
    rw [← hk2]
    rfl
set_option maxHeartbeats 8000000 in
theorem c_impl_ClashesOf (C : List TCue) (hv : cuesB C = true) : FnC Tryz.prog 99 G0 0 [] [.sl 6 (C.map encCue)] (fun d os => d = .tup [.sl 1 ((clashL C 0).map encSpot), .int .i64 0] ∧ os = []) := by
  have hcl := cues_len hv
  refine fn_rule Tryz.func99 rfl (by decide +kernel) rfl (fun w0 F0 lent β0 => ?_)
  repeat' (first | refine sC ?_ | ((with_reducible refine isAwp ?_); first | (refine sS ?_; intro Q' hn he hr) | refine sA ?_) | (refine sH ?_; clear hn he hr Q') | ((conv => whnf); first | refine sK ?_ | (refine sB ?_; repeat' (refine sb2 ?_ ?_ <;> intro hb <;> try exact cls)) | ((with_reducible refine isCall ?_); (refine call_pure (c_impl_ValidCues C) rfl rfl ?_)) | (refine sL ?_; intro hlen)))
  refine loop_env2 (fun (i : Nat) (out : List (List Int)) => [(0,.sl 6 (C.map encCue)),(4,.h 0),(12,.sl 6 (C.map encCue)),(13,.int .i64 C.length),(14,.int .i64 i)]) (fun _ out => [.row 26 1 (out.map encSpot)]) (fun i out => i ≤ C.length ∧ out ++ clashL (C.drop i) i = clashL C 0) (fun i _ => C.length - i) 0 [] ⟨by omega, rfl⟩ (by refine Weak.trans (weak_adopt 4 26 1 rfl rfl) (weak_to rfl rfl rfl ?_); exact ⟨rfl, rfl, rfl, rfl, rfl, trivial⟩) (fun i out hk Q' hn he hr => ?_)
  obtain ⟨hk1, hk2⟩ := hk
  by_cases hil : i < C.length
  · obtain ⟨a, hca⟩ : ∃ a, C[i]? = some a := ⟨_, List.getElem?_eq_getElem hil⟩
    rw [clashL_go hca, ← List.append_assoc] at hk2
    have hav := cueB_facts (cues_at hv hca)
    repeat' (first | refine sC ?_ | ((with_reducible refine isAwp ?_); first | (refine sS ?_; intro Q' hn he hr) | refine sA ?_) | (refine sH ?_; clear hn he hr Q') | ((conv => whnf); first | refine sK ?_ | (refine sB ?_; repeat' (refine sb2 ?_ ?_ <;> intro hb <;> try exact cls)) | (refine ElemS.the hca ?_) | refine sP ?_))
    refine loop_env2 (fun (k : Nat) (out : List (List Int)) => [(0,.sl 6 (C.map encCue)),(4,.h 0),(12,.sl 6 (C.map encCue)),(13,.int .i64 C.length),(14,.int .i64 i),(5,.int .i64 i),(6,.hp 1 0),(7,.int .i64 k)]) (fun _ out => [.row 26 1 (out.map encSpot), .box (encCue a)]) (fun k out => k ≤ C.length ∧ out ++ clashI a i (C.drop k) k ++ clashL (C.drop (i + 1)) (i + 1) = clashL C 0) (fun k _ => C.length - k) (i + 1) out ⟨by omega, hk2⟩ (by refine weak_to rfl rfl rfl ?_; ((repeat' (first | exact trivial | refine And.intro ?_ ?_)) <;> (first | rfl | (conv => rhs; whnf) <;> (first | rfl | (refine congrArg (D.int _) ?_; omega))))) (fun k out hj Q' hn he hr => ?_)
    obtain ⟨hj1, hj2⟩ := hj
    have hroom := clash_room hcl (by rw [← List.append_assoc]; exact hj2)
    by_cases hkl : k < C.length
    · obtain ⟨b, hcb⟩ : ∃ b, C[k]? = some b := ⟨_, List.getElem?_eq_getElem hkl⟩
      repeat' (first | refine sC ?_ | ((with_reducible refine isAwp ?_); first | (refine sS ?_; intro Q' hn he hr) | refine sA ?_) | (refine sH ?_; clear hn he hr Q') | ((conv => whnf); first | refine sK ?_ | (refine sB ?_; repeat' (first | refine sb0 ?_ | (refine sb2 ?_ ?_ <;> intro hb <;> try exact cls))) | (refine ElemS.the hcb ?_) | refine sP ?_ | (refine sL ?_; intro hlen)))
      all_goals first
        | (refine ⟨k + 1, out ++ [[(i : Int), (k : Int)]], ⟨by omega, by rw [← hj2, clashI_yes hcb (by simp [clashB, *])]; simp⟩, by omega, ?_⟩
           exact (by refine weak_to rfl rfl (by rw [List.map_append]; rfl) ?_; ((repeat' (first | exact trivial | refine And.intro ?_ ?_)) <;> (first | rfl | (conv => rhs; whnf) <;> (first | rfl | (refine congrArg (D.int _) ?_; omega))))))
        | exact ⟨k + 1, out, ⟨by omega, by rw [← hj2, clashI_no hcb (by simp [clashB, *])]⟩, by omega, (by refine weak_to rfl rfl rfl ?_; ((repeat' (first | exact trivial | refine And.intro ?_ ?_)) <;> (first | rfl | (conv => rhs; whnf) <;> (first | rfl | (refine congrArg (D.int _) ?_; omega)))))⟩
    · rw [clashI_end (by omega), List.append_nil] at hj2
      repeat' (first | refine sC ?_ | ((with_reducible refine isAwp ?_); first | (refine sS ?_; intro Q' hn he hr) | refine sA ?_) | (refine sH ?_; clear hn he hr Q') | ((conv => whnf); first | refine sK ?_ | (refine sB ?_; repeat' (refine sb2 ?_ ?_ <;> intro hb <;> try exact cls)) | refine sP ?_ | (refine sL ?_; intro hlen) | (refine sH ?_; clear hn he hr Q')))
      exact ⟨i + 1, out, ⟨by omega, hj2⟩, by omega, (by refine weak_to rfl rfl rfl ?_; ((repeat' (first | exact trivial | refine And.intro ?_ ?_)) <;> (first | rfl | (conv => rhs; whnf) <;> (first | rfl | (refine congrArg (D.int _) ?_; omega)))))⟩
  · rw [clashL_end (by omega), List.append_nil] at hk2
    repeat' (first | refine sC ?_ | ((with_reducible refine isAwp ?_); first | (refine sS ?_; intro Q' hn he hr) | refine sA ?_) | (refine sH ?_; clear hn he hr Q') | ((conv => whnf); first | refine sK ?_ | (refine sB ?_; repeat' (refine sb2 ?_ ?_ <;> intro hb <;> try exact cls)) | ((with_reducible refine isRet ?_); (refine ret_freeze 0 rfl (Nat.zero_le _) ?_; refine ret_pick [] rfl rfl rfl ⟨?_, rfl⟩)) | (refine sH ?_; clear hn he hr Q')))
    rw [← hk2]
    rfl
end Go.Eng
