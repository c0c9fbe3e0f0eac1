/-
  The notes with a word, the weights of words and the scores of notes, by the program and by the reference.
  No conditions.
-/
import Derived.Test.YtbpbhjlochijdaaGreatDoorED
import Derived.Test.YtbpbhjlochijdaaGreatDoorNP
import Derived.Test.YtbpbhjlochijdaaGreatDoorNV
set_option linter.unusedVariables false
set_option linter.unusedSimpArgs false
set_option maxHeartbeats 4000000
namespace Go.Eng
open Go Go.RowKit Go.Proofs
set_option maxRecDepth 100000
def encW (ws : List (List UInt8)) : List D := [.sl 1 (ws.map encS)]
def tableW (a : List TNote) : List (List (List UInt8)) := a.map fun x => wordsL x.fText
def natI (l : List Nat) : List Int := l.map fun i : Nat => (i : Int)
theorem natI_app (a b : List Nat) : natI (a ++ b) = natI a ++ natI b := by simp [natI]
theorem natI_len (a : List Nat) : (natI a).length = a.length := by simp [natI]
theorem natI_at {l : List Nat} {j i : Nat} (h : l[j]? = some i) : (natI l)[j]? = some (i : Int) := by simp [natI, h]
theorem tableW_len (a : List TNote) : (tableW a).length = a.length := by simp [tableW]
theorem tableW_at {a : List TNote} {k : Nat} {x : TNote} (h : a[k]? = some x) : (tableW a)[k]? = some (wordsL x.fText) := by simp [tableW, h]
theorem tableW_take {a : List TNote} {k : Nat} {x : TNote} (h : a[k]? = some x) : tableW (a.take (k + 1)) = tableW (a.take k) ++ [wordsL x.fText] := by
  rw [List.take_add_one, h]
  simp [tableW]
theorem hasW_at {T : List (List (List UInt8))} {k : Nat} {ws w : List _} (h : T[k]? = some ws) : hasW T k w = ws.contains w := by
  simp [hasW, h]
theorem validNs_at {a : List TNote} (hv : validNs a = true) {k : Nat} {x : TNote} (hx : a[k]? = some x) : textB x.fText = true ∧ nameB x.fId = true := by
  have h := (validNs_iff.1 hv).2.1 x (List.mem_of_getElem? hx)
  simp only [validN, Bool.and_eq_true] at h
  exact ⟨h.2.1, h.1⟩
theorem contains_all (w : List UInt8) : ∀ (ws : List (List UInt8)), ws.contains w = !(ws.all fun x => !decide (x = w))
  | [] => rfl
  | x :: ws => by
    have ih := contains_all w ws
    rw [List.contains_cons, ih, List.all_cons]
    by_cases h : x = w
    · simp [h]
    · have h2 : (w == x) = false := by simpa using fun e : w = x => h e.symm
      simp [h, h2]
theorem c_slices_Index (ws : List (List UInt8)) (w : List UInt8) : FnC Tryz.prog 127 G0 0 [] [.sl 1 (ws.map encS), .str w] (fun d os => (∃ z : Int, d = .int .i64 z ∧ decide (0 ≤ z) = ws.contains w) ∧ os = []) := by
  rw [contains_all]
  refine fn_rule Tryz.func127 rfl (by decide +kernel) rfl (fun w0 F0 lent β0 => ?_)
  repeat' (first | refine sC ?_ | ((with_reducible refine isAwp ?_); first | (refine sS ?_; intro Q' hn he hr) | refine sA ?_) | (refine sH ?_; clear hn he hr Q') | refine sO ?_ | ((conv => whnf); first | refine sK ?_ | (refine sB ?_; repeat' (first | refine sb0 ?_ | (refine sb2 ?_ ?_ <;> intro hb <;> try exact cls))) | refine sP ?_ | (refine sE ?_; intro x hx) | (refine sF ?_; intro i y hi hy) | (refine sI ?_; intro i hi) | (refine sL ?_; intro hlen) | (refine sQ ?_; intro c hc hcm; try simp only [lnM, lnA, lnC, lnN] at hc) | (refine sX ?_; intro i1 i2 hi1 hi2 hj1 hj2; try simp only [cutL, lnM, lnA, lnC, lnN, lnT, lnD, lnR] at hi1 hi2 hj2) | refine sD ?_ | (refine ret_pick [] rfl rfl rfl ⟨?_, rfl⟩; conv => lhs; whnf) | (refine ret_pick [0] rfl rfl rfl ⟨rfl, ?_⟩) | (refine sH ?_; clear hn he hr Q')))
  refine loop_env (fun k : Nat => [(0,.sl 1 (ws.map encS)),(1,.str w),(7,.int .i64 ws.length),(8,.int .i64 k)]) (fun _ => []) (fun k => k ≤ ws.length ∧ allTo (fun x => !decide (x = w)) ws k) (fun k => ws.length - k) 0 ⟨by omega, allTo_zero⟩ (by refine weak_to rfl rfl rfl ?_; ((repeat' (first | exact trivial | refine And.intro ?_ ?_)) <;> (first | rfl | (conv => rhs; whnf) <;> (first | rfl | (refine congrArg (D.int _) ?_; omega))))) (fun k hk Q' hn he hr => ?_)
  repeat' (first | refine sC ?_ | ((with_reducible refine isAwp ?_); first | (refine sS ?_; intro Q' hn he hr) | refine sA ?_) | (refine sH ?_; clear hn he hr Q') | refine sO ?_ | ((conv => whnf); first | refine sK ?_ | (refine sB ?_; repeat' (first | refine sb0 ?_ | (refine sb2 ?_ ?_ <;> intro hb <;> try exact cls))) | ((with_reducible refine isRet ?_); first | (refine ret_pick [] rfl rfl rfl ⟨⟨_, rfl, ?_⟩, rfl⟩)) | refine sP ?_ | (refine sE ?_; intro x hx) | (refine sF ?_; intro i y hi hy) | (refine sI ?_; intro i hi) | (refine sL ?_; intro hlen) | (refine sQ ?_; intro c hc hcm; try simp only [lnM, lnA, lnC, lnN] at hc) | (refine sX ?_; intro i1 i2 hi1 hi2 hj1 hj2; try simp only [cutL, lnM, lnA, lnC, lnN, lnT, lnD, lnR] at hi1 hi2 hj2) | refine sD ?_ | (refine ret_pick [] rfl rfl rfl ⟨?_, rfl⟩; conv => lhs; whnf) | (refine ret_pick [0] rfl rfl rfl ⟨rfl, ?_⟩) | (refine sH ?_; clear hn he hr Q')))
  all_goals first
    | exact ⟨k + 1, ⟨by omega, allTo_succ hk.2 hx (by rw [decide_eq_false (fun e : x = w => hb e.symm)]; rfl)⟩, by omega, (by refine weak_to rfl rfl rfl ?_; ((repeat' (first | exact trivial | refine And.intro ?_ ?_)) <;> (first | rfl | (conv => rhs; whnf) <;> (first | rfl | (refine congrArg (D.int _) ?_; omega)))))⟩
    | (have h9 := all_not_at (p := fun x => !decide (x = w)) hx (by simp [hb]); rw [h9]; simp; done)
    | (have h9 := all_of_allTo hk.2 (by omega); rw [h9]; rfl)
theorem c_slices_Contains (ws : List (List UInt8)) (w : List UInt8) : FnC Tryz.prog 91 G0 0 [] [.sl 1 (ws.map encS), .str w] (fun d os => d = .bool (ws.contains w) ∧ os = []) := by
  refine fn_rule Tryz.func91 rfl (by decide +kernel) rfl (fun w0 F0 lent β0 => ?_)
  repeat' (first | refine sC ?_ | ((with_reducible refine isAwp ?_); first | (refine sS ?_; intro Q' hn he hr) | refine sA ?_) | (refine sH ?_; clear hn he hr Q') | refine sO ?_ | ((conv => whnf); first | refine sK ?_ | (refine sB ?_; repeat' (first | refine sb0 ?_ | (refine sb2 ?_ ?_ <;> intro hb <;> try exact cls))) | ((with_reducible refine isCall ?_); first | (refine call_some (c_slices_Index ws w) rfl ?_; rintro d ⟨z, rfl, hz⟩; refine ⟨rfl, ?_⟩)) | refine sP ?_ | (refine sE ?_; intro x hx) | (refine sF ?_; intro i y hi hy) | (refine sI ?_; intro i hi) | (refine sL ?_; intro hlen) | (refine sQ ?_; intro c hc hcm; try simp only [lnM, lnA, lnC, lnN] at hc) | (refine sX ?_; intro i1 i2 hi1 hi2 hj1 hj2; try simp only [cutL, lnM, lnA, lnC, lnN, lnT, lnD, lnR] at hi1 hi2 hj2) | refine sD ?_ | (refine ret_pick [] rfl rfl rfl ⟨?_, rfl⟩; conv => lhs; whnf) | (refine ret_pick [0] rfl rfl rfl ⟨rfl, ?_⟩) | (refine sH ?_; clear hn he hr Q')))
  all_goals (rw [← hz])
end Go.Eng
