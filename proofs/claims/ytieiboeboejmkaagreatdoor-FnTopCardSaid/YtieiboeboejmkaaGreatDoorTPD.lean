/-
  A script that is run by the reference, with its events: the contracts of the reference's functions.
  No conditions.
-/
import Derived.Test.YtieiboeboejmkaaGreatDoorED
import Derived.Test.YtieiboeboejmkaaGreatDoorQX
import Derived.Test.YtieiboeboejmkaaGreatDoorPK
set_option linter.unusedVariables false
set_option linter.unusedSimpArgs false
set_option maxHeartbeats 4000000
namespace Go.Eng
open Go Go.RowKit Go.Proofs
set_option maxRecDepth 100000
set_option maxHeartbeats 16000000 in
theorem c_spec_l15Do2 (S : List TLine) (b : Int) (hv : scrsB S = true) (hb0 : 1 ≤ b ∧ b ≤ 20000) : FnC Tryz.prog 58 G0 0 [] [.sl 3 (S.map encLine), .int .i64 b] (fun d os => ∃ (ev : List (Int × List UInt8)) (t l : Int) (sn : D), ev.length ≤ 64 ∧ d = .tup [.hp 0 0, .int .i64 (runC S b)] ∧ os = [.box [.sl 2 (ev.map encEv), .int .i64 t, .int .i64 l, sn]]) := by
  have hv2 : inB b 1 20000 = true := by simp [inB]; omega
  have hsl := scrs_len hv
  refine fn_rule Tryz.func58 rfl (by decide +kernel) rfl (fun w0 F0 lent β0 => ?_)
  repeat' (first | refine sC ?_ | ((with_reducible refine isAwp ?_); first | (refine sS ?_; intro Q' hn he hr) | refine sA ?_) | (refine sH ?_; clear hn he hr Q') | ((conv => whnf); first | refine sK ?_ | (refine sB ?_; repeat' (refine sb2 ?_ ?_ <;> intro hb <;> try exact cls)) | ((with_reducible refine isCall ?_); first | (refine call_pure (c_spec_l15Ok S) rfl rfl ?_) | (refine call_pure (c_l00In _ _ _) rfl rfl ?_)) | refine sP ?_ | (refine sL ?_; intro hlen)))
  refine loop_env6 (fun (n p : Nat) (t : Int) (ev : List (Int × List UInt8)) (sn : Option (List Int)) (c : List Int) => [(0,.sl 3 (S.map encLine)),(1,.int .i64 b),(6,.hp 0 0),(7,.h 1),(8,.int .i64 p)]) (fun n p t ev sn c => [.box [.h 2, .int .i64 t, .int .i64 (b - n), seenD sn], .row 2 1 (c.map encI), .row 219 2 (ev.map encEv)]) (fun n p t ev sn c => runF S n p t ev.length c = runC S b ∧ (n : Int) ≤ b ∧ (0 ≤ t ∧ t ≤ 7200000) ∧ (ev.length ≤ 64 ∧ (seenN sn : Int) ≤ b - n ∧ c.length = S.length ∧ goodC c ∧ p ≤ S.length)) (fun n _ _ _ _ _ => n) b.toNat 0 0 [] none (List.replicate S.length 0) ⟨rfl, by omega, by omega, by simp, by show ((0 : Nat) : Int) ≤ _; omega, by simp, goodC_zero _, by omega⟩ (by refine Weak.trans (weak_adopt_box 0 0 219 2 rfl rfl rfl rfl) (weak_to rfl rfl ?_ ?_); (simp only [List.map_replicate]; rw [show b - ((b.toNat : Nat) : Int) = 0 by omega]; rfl); exact ⟨rfl, rfl, rfl, rfl, rfl, trivial⟩) (fun n p t ev sn c hk Q' hn he hr => ?_)
  obtain ⟨hk1, hk2, hk3, hk4, hk5, hk6, hk7, hk8⟩ := hk
  by_cases hpl : p < S.length
  · obtain ⟨ln, hx0⟩ : ∃ ln, S[p]? = some ln := ⟨_, List.getElem?_eq_getElem hpl⟩
    obtain ⟨v, hcv⟩ : ∃ v, c[p]? = some v := ⟨_, List.getElem?_eq_getElem (by omega)⟩
    obtain ⟨hl2, hl4⟩ := scrs_line hv hx0
    have hcb := hk7 _ _ hcv
    have hix := idxQ_range (isLab ln.fName) S
    cases n with
    | zero =>
      rw [runF_full hpl] at hk1
      cases sn with
      | none =>
          repeat' (first | refine sC ?_ | ((with_reducible refine isAwp ?_); first | (refine sS ?_; intro Q' hn he hr) | refine sA ?_) | (refine sH ?_; clear hn he hr Q') | ((conv => whnf); first | refine sK ?_ | (refine sB ?_; repeat' (refine sb2 ?_ ?_ <;> intro hb <;> try exact cls)) | ((with_reducible refine isRet ?_); (refine ret_freeze 2 rfl (Nat.zero_le _) ?_; refine ret_pickp [0] rfl rfl rfl ⟨ev, _, _, _, hk4, ?_, rfl⟩)) | refine sP ?_ | (refine sL ?_; intro hlen)))
          all_goals first
            | (exfalso; omega)
            | (rw [← hk1]; rfl)
            | trace_state
      | some l0 =>
          repeat' (first | refine sC ?_ | ((with_reducible refine isAwp ?_); first | (refine sS ?_; intro Q' hn he hr) | refine sA ?_) | (refine sH ?_; clear hn he hr Q') | ((conv => whnf); first | refine sK ?_ | (refine sB ?_; repeat' (refine sb2 ?_ ?_ <;> intro hb <;> try exact cls)) | ((with_reducible refine isRet ?_); (refine ret_freeze 2 rfl (Nat.zero_le _) ?_; refine ret_pickp [0] rfl rfl rfl ⟨ev, _, _, _, hk4, ?_, rfl⟩)) | refine sP ?_ | (refine sL ?_; intro hlen)))
          all_goals first
            | (exfalso; omega)
            | (rw [← hk1]; rfl)
            | trace_state
    | succ n =>
      have hst : b - (n : Int) = b - ((n + 1 : Nat) : Int) + 1 := by omega
      cases sn with
      | none =>
        repeat' (first | refine sC ?_ | ((with_reducible refine isAwp ?_); first | (refine sS ?_; intro Q' hn he hr) | refine sA ?_) | (refine sH ?_; clear hn he hr Q') | refine sO ?_ | ((conv => whnf); first | refine sK ?_ | (refine sB ?_; repeat' (refine sb2 ?_ ?_ <;> intro hb <;> try exact cls)) | (refine draw_pre 13 [0] (by decide +kernel) (by decide +kernel) (by decide +kernel) ?_) | (refine ArithS.to (p : Int) (by omega) (wrap64 (by omega)) ?_) | (refine ElemS.the hx0 ?_) | (refine ElemS.the hcv ?_) | ((with_reducible refine isCall ?_); first | (refine call_pure (c_spec_l15Label S ln.fName) rfl rfl ?_) | (refine call_pure (c_spec_l00Put_nil _) rfl rfl ?_)) | ((with_reducible refine isRet ?_); (refine ret_freeze 2 rfl (Nat.zero_le _) ?_; refine ret_pickp [0] rfl rfl rfl ⟨ev, _, _, _, hk4, ?_, rfl⟩)) | refine sP ?_ | (refine sL ?_; intro hlen) | refine sD ?_))
        all_goals first
          | (exfalso; omega)
          | (rw [← hk1, runF_late hx0 (by assumption) (by omega)]; rfl)
          | (rw [← hk1, runF_most hx0 (by assumption) (by omega)]; rfl)
          | (rw [← hk1, runF_stop hx0 (by assumption)]; rfl)
          | exact ⟨n, p + 1, t + ln.fValue, ev, some [(p : Int)], c, ⟨by rw [← hk1, runF_wait hx0 (by assumption) (by omega)], by omega, by omega, hk4, (by show ((1 : Nat) : Int) ≤ _; omega), hk6, hk7, by omega⟩, by omega, (by refine weak_to rfl rfl (by rw [hst]; rfl) ?_; ((repeat' (first | exact trivial | refine And.intro ?_ ?_)) <;> (first | rfl | (conv => rhs; whnf) <;> (first | rfl | (refine congrArg (D.int _) ?_; omega)))))⟩
          | exact ⟨n, p + 1, t, ev ++ [(t, ln.fName)], some [(p : Int)], c, ⟨by rw [← hk1, runF_fire hx0 (by assumption) (by omega), List.length_append]; rfl, by omega, by omega, by rw [List.length_append]; simp; omega, (by show ((1 : Nat) : Int) ≤ _; omega), hk6, hk7, by omega⟩, by omega, (by refine weak_to rfl rfl (by rw [hst, List.map_append]; rfl) ?_; ((repeat' (first | exact trivial | refine And.intro ?_ ?_)) <;> (first | rfl | (conv => rhs; whnf) <;> (first | rfl | (refine congrArg (D.int _) ?_; omega)))))⟩
          | exact ⟨n, (idxQ (isLab ln.fName) S).toNat, t, ev, some [(p : Int)], c.set p (v + 1), ⟨by rw [← hk1, runF_jump hx0 (by assumption) hcv (by omega)], by omega, by omega, hk4, (by show ((1 : Nat) : Int) ≤ _; omega), by rw [List.length_set]; exact hk6, goodC_set hk7 _ (by have := hl4 (by assumption); omega), by omega⟩, by omega, (by refine weak_to rfl rfl (by rw [hst, List.map_set]; rfl) ?_; ((repeat' (first | exact trivial | refine And.intro ?_ ?_)) <;> (first | rfl | (conv => rhs; whnf) <;> (first | rfl | (refine congrArg (D.int _) ?_; omega)))))⟩
          | exact ⟨n, p + 1, t, ev, some [(p : Int)], c.set p 0, ⟨by rw [← hk1, runF_pass hx0 (by assumption) hcv (by omega)], by omega, by omega, hk4, (by show ((1 : Nat) : Int) ≤ _; omega), by rw [List.length_set]; exact hk6, goodC_set hk7 _ (by omega), by omega⟩, by omega, (by refine weak_to rfl rfl (by rw [hst, List.map_set]; rfl) ?_; ((repeat' (first | exact trivial | refine And.intro ?_ ?_)) <;> (first | rfl | (conv => rhs; whnf) <;> (first | rfl | (refine congrArg (D.int _) ?_; omega)))))⟩
          | exact ⟨n, p + 1, t, ev, some [(p : Int)], c, ⟨by rw [← hk1, runF_label hx0 (by assumption) (by assumption) (by assumption) (by assumption)], by omega, by omega, hk4, (by show ((1 : Nat) : Int) ≤ _; omega), hk6, hk7, by omega⟩, by omega, (by refine weak_to rfl rfl (by rw [hst]; rfl) ?_; ((repeat' (first | exact trivial | refine And.intro ?_ ?_)) <;> (first | rfl | (conv => rhs; whnf) <;> (first | rfl | (refine congrArg (D.int _) ?_; omega)))))⟩
          | (rw [runF_stop hx0 (by assumption)] at hk1; exact ⟨n, S.length, t, ev, some [(p : Int)], c, ⟨by rw [← hk1]; exact runF_end (by omega), by omega, by omega, hk4, (by show ((1 : Nat) : Int) ≤ _; omega), hk6, hk7, by omega⟩, by omega, (by refine weak_to rfl rfl (by rw [hst]; rfl) ?_; ((repeat' (first | exact trivial | refine And.intro ?_ ?_)) <;> (first | rfl | (conv => rhs; whnf) <;> (first | rfl | (refine congrArg (D.int _) ?_; omega)))))⟩)
          | skip
      | some l =>
        have hl0 : (l.length : Int) ≤ b - ((n + 1 : Nat) : Int) := hk5
        have hpl2 := putF_len (p : Int) l false
        repeat' (first | refine sC ?_ | ((with_reducible refine isAwp ?_); first | (refine sS ?_; intro Q' hn he hr) | refine sA ?_) | (refine sH ?_; clear hn he hr Q') | refine sO ?_ | ((conv => whnf); first | refine sK ?_ | (refine sB ?_; repeat' (refine sb2 ?_ ?_ <;> intro hb <;> try exact cls)) | (refine draw_pre 13 [0] (by decide +kernel) (by decide +kernel) (by decide +kernel) ?_) | (refine ArithS.to (p : Int) (by omega) (wrap64 (by omega)) ?_) | (refine ElemS.the hx0 ?_) | (refine ElemS.the hcv ?_) | ((with_reducible refine isCall ?_); first | (refine call_pure (c_spec_l15Label S ln.fName) rfl rfl ?_) | (refine call_pure (c_spec_l00Put l _ (by omega)) rfl rfl ?_)) | ((with_reducible refine isRet ?_); (refine ret_freeze 2 rfl (Nat.zero_le _) ?_; refine ret_pickp [0] rfl rfl rfl ⟨ev, _, _, _, hk4, ?_, rfl⟩)) | refine sP ?_ | (refine sL ?_; intro hlen) | refine sD ?_))
        all_goals first
          | (exfalso; omega)
          | (rw [← hk1, runF_late hx0 (by assumption) (by omega)]; rfl)
          | (rw [← hk1, runF_most hx0 (by assumption) (by omega)]; rfl)
          | (rw [← hk1, runF_stop hx0 (by assumption)]; rfl)
          | exact ⟨n, p + 1, t + ln.fValue, ev, some (putF (p : Int) l false), c, ⟨by rw [← hk1, runF_wait hx0 (by assumption) (by omega)], by omega, by omega, hk4, (by show ((putF (p : Int) l false).length : Int) ≤ _; omega), hk6, hk7, by omega⟩, by omega, (by refine weak_to rfl rfl (by rw [hst]; rfl) ?_; ((repeat' (first | exact trivial | refine And.intro ?_ ?_)) <;> (first | rfl | (conv => rhs; whnf) <;> (first | rfl | (refine congrArg (D.int _) ?_; omega)))))⟩
          | exact ⟨n, p + 1, t, ev ++ [(t, ln.fName)], some (putF (p : Int) l false), c, ⟨by rw [← hk1, runF_fire hx0 (by assumption) (by omega), List.length_append]; rfl, by omega, by omega, by rw [List.length_append]; simp; omega, (by show ((putF (p : Int) l false).length : Int) ≤ _; omega), hk6, hk7, by omega⟩, by omega, (by refine weak_to rfl rfl (by rw [hst, List.map_append]; rfl) ?_; ((repeat' (first | exact trivial | refine And.intro ?_ ?_)) <;> (first | rfl | (conv => rhs; whnf) <;> (first | rfl | (refine congrArg (D.int _) ?_; omega)))))⟩
          | exact ⟨n, (idxQ (isLab ln.fName) S).toNat, t, ev, some (putF (p : Int) l false), c.set p (v + 1), ⟨by rw [← hk1, runF_jump hx0 (by assumption) hcv (by omega)], by omega, by omega, hk4, (by show ((putF (p : Int) l false).length : Int) ≤ _; omega), by rw [List.length_set]; exact hk6, goodC_set hk7 _ (by have := hl4 (by assumption); omega), by omega⟩, by omega, (by refine weak_to rfl rfl (by rw [hst, List.map_set]; rfl) ?_; ((repeat' (first | exact trivial | refine And.intro ?_ ?_)) <;> (first | rfl | (conv => rhs; whnf) <;> (first | rfl | (refine congrArg (D.int _) ?_; omega)))))⟩
          | exact ⟨n, p + 1, t, ev, some (putF (p : Int) l false), c.set p 0, ⟨by rw [← hk1, runF_pass hx0 (by assumption) hcv (by omega)], by omega, by omega, hk4, (by show ((putF (p : Int) l false).length : Int) ≤ _; omega), by rw [List.length_set]; exact hk6, goodC_set hk7 _ (by omega), by omega⟩, by omega, (by refine weak_to rfl rfl (by rw [hst, List.map_set]; rfl) ?_; ((repeat' (first | exact trivial | refine And.intro ?_ ?_)) <;> (first | rfl | (conv => rhs; whnf) <;> (first | rfl | (refine congrArg (D.int _) ?_; omega)))))⟩
          | exact ⟨n, p + 1, t, ev, some (putF (p : Int) l false), c, ⟨by rw [← hk1, runF_label hx0 (by assumption) (by assumption) (by assumption) (by assumption)], by omega, by omega, hk4, (by show ((putF (p : Int) l false).length : Int) ≤ _; omega), hk6, hk7, by omega⟩, by omega, (by refine weak_to rfl rfl (by rw [hst]; rfl) ?_; ((repeat' (first | exact trivial | refine And.intro ?_ ?_)) <;> (first | rfl | (conv => rhs; whnf) <;> (first | rfl | (refine congrArg (D.int _) ?_; omega)))))⟩
          | (rw [runF_stop hx0 (by assumption)] at hk1; exact ⟨n, S.length, t, ev, some (putF (p : Int) l false), c, ⟨by rw [← hk1]; exact runF_end (by omega), by omega, by omega, hk4, (by show ((putF (p : Int) l false).length : Int) ≤ _; omega), hk6, hk7, by omega⟩, by omega, (by refine weak_to rfl rfl (by rw [hst]; rfl) ?_; ((repeat' (first | exact trivial | refine And.intro ?_ ?_)) <;> (first | rfl | (conv => rhs; whnf) <;> (first | rfl | (refine congrArg (D.int _) ?_; omega)))))⟩)
          | skip
  · rw [runF_end hpl] at hk1
    cases sn with
    | none =>
        repeat' (first | refine sC ?_ | ((with_reducible refine isAwp ?_); first | (refine sS ?_; intro Q' hn he hr) | refine sA ?_) | (refine sH ?_; clear hn he hr Q') | ((conv => whnf); first | refine sK ?_ | (refine sB ?_; repeat' (refine sb2 ?_ ?_ <;> intro hb <;> try exact cls)) | ((with_reducible refine isRet ?_); (refine ret_freeze 2 rfl (Nat.zero_le _) ?_; refine ret_pickp [0] rfl rfl rfl ⟨ev, _, _, _, hk4, ?_, rfl⟩)) | (refine sL ?_; intro hlen) | (refine sH ?_; clear hn he hr Q')))
        rw [← hk1]
        rfl
    | some l0 =>
        repeat' (first | refine sC ?_ | ((with_reducible refine isAwp ?_); first | (refine sS ?_; intro Q' hn he hr) | refine sA ?_) | (refine sH ?_; clear hn he hr Q') | ((conv => whnf); first | refine sK ?_ | (refine sB ?_; repeat' (refine sb2 ?_ ?_ <;> intro hb <;> try exact cls)) | ((with_reducible refine isRet ?_); (refine ret_freeze 2 rfl (Nat.zero_le _) ?_; refine ret_pickp [0] rfl rfl rfl ⟨ev, _, _, _, hk4, ?_, rfl⟩)) | (refine sL ?_; intro hlen) | (refine sH ?_; clear hn he hr Q')))
        rw [← hk1]
        rfl
end Go.Eng
