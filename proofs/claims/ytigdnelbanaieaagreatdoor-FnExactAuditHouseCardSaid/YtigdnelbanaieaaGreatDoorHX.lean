/-
  Contracts of functions of the program and of the reference, and plain laws: a bundle of texts.
  No conditions.
-/
import Derived.Test.YtigdnelbanaieaaGreatDoorED
import Derived.Test.YtigdnelbanaieaaGreatDoorP1
import Derived.Test.YtigdnelbanaieaaGreatDoorHT
set_option linter.unusedVariables false
set_option linter.unusedSimpArgs false
set_option maxHeartbeats 4000000
namespace Go.Eng
open Go Go.RowKit Go.Proofs
set_option maxRecDepth 100000
theorem c_szDome (x : TDome) (left : Int) (h0 : 0 ≤ left) (h1 : left ≤ 1048576) : FnC Tryz.prog 13 G0 0 [] [.agg (encDome x), .int .i64 left] (fun d os => d = .int .i64 (if x.sz ≤ left then left - x.sz else -1) ∧ os = []) := by
  refine fn_rule Tryz.func13 rfl (by decide +kernel) rfl (fun w0 F0 lent β0 => ?_)
  repeat' (first | refine sC ?_ | ((with_reducible refine isAwp ?_); first | (refine sS ?_; intro Q' hn he hr) | refine sA ?_) | (refine sH ?_; clear hn he hr Q') | ((conv => whnf); first | refine sK ?_ | (refine sB ?_; repeat' (refine sb2 ?_ ?_ <;> intro hb <;> try exact cls)) | refine sP ?_ | (refine sL ?_; intro hlen) | (refine ret_pick [] rfl rfl rfl ⟨?_, rfl⟩; conv => lhs; whnf)))
  all_goals simp only [TDome.sz]
  all_goals (first | rfl | (refine congrArg (D.int _) ?_; first | rfl | omega | (split <;> omega)))
theorem c_toDome (x : TDome) : FnC Tryz.prog 24 G0 0 [] [.agg (encDome x)] (fun d os => d = .agg (encDome x) ∧ os = []) := by
  refine fn_rule Tryz.func24 rfl (by decide +kernel) rfl (fun w0 F0 lent β0 => ?_)
  repeat' (first | refine sC ?_ | ((with_reducible refine isAwp ?_); first | (refine sS ?_; intro Q' hn he hr) | refine sA ?_) | (refine sH ?_; clear hn he hr Q') | ((conv => whnf); first | refine sK ?_ | (refine ret_pick [] rfl rfl rfl ⟨?_, rfl⟩; conv => lhs; whnf)))
  all_goals rfl
theorem c_eqDome (a b : TDome) : FnC Tryz.prog 40 G0 0 [] [.agg (encDome a), .agg (encDome b)] (fun d os => d = .bool (eqTDome a b) ∧ os = []) := by
  refine fn_rule Tryz.func40 rfl (by decide +kernel) rfl (fun w0 F0 lent β0 => ?_)
  repeat' (first | refine sC ?_ | ((with_reducible refine isAwp ?_); first | (refine sS ?_; intro Q' hn he hr) | refine sA ?_) | (refine sH ?_; clear hn he hr Q') | ((conv => whnf); first | refine sK ?_ | (refine sB ?_; repeat' (refine sb2 ?_ ?_ <;> intro hb <;> try exact cls)) | (refine ret_pick [] rfl rfl rfl ⟨?_, rfl⟩; conv => lhs; whnf)))
  all_goals simp_all [eqTDome, eqI, eqStr, eqBo]
theorem c_szProjector (x : TProjector) (left : Int) (h0 : 0 ≤ left) (h1 : left ≤ 1048576) : FnC Tryz.prog 58 G0 0 [] [.agg (encProjector x), .int .i64 left] (fun d os => d = .int .i64 (if x.sz ≤ left then left - x.sz else -1) ∧ os = []) := by
  refine fn_rule Tryz.func58 rfl (by decide +kernel) rfl (fun w0 F0 lent β0 => ?_)
  repeat' (first | refine sC ?_ | ((with_reducible refine isAwp ?_); first | (refine sS ?_; intro Q' hn he hr) | refine sA ?_) | (refine sH ?_; clear hn he hr Q') | ((conv => whnf); first | refine sK ?_ | (refine sB ?_; repeat' (refine sb2 ?_ ?_ <;> intro hb <;> try exact cls)) | refine sP ?_ | (refine sL ?_; intro hlen) | (refine ret_pick [] rfl rfl rfl ⟨?_, rfl⟩; conv => lhs; whnf)))
  all_goals simp only [TProjector.sz]
  all_goals (first | rfl | (refine congrArg (D.int _) ?_; first | rfl | omega | (split <;> omega)))
theorem c_toProjector (x : TProjector) : FnC Tryz.prog 79 G0 0 [] [.agg (encProjector x)] (fun d os => d = .agg (encProjector x) ∧ os = []) := by
  refine fn_rule Tryz.func79 rfl (by decide +kernel) rfl (fun w0 F0 lent β0 => ?_)
  repeat' (first | refine sC ?_ | ((with_reducible refine isAwp ?_); first | (refine sS ?_; intro Q' hn he hr) | refine sA ?_) | (refine sH ?_; clear hn he hr Q') | ((conv => whnf); first | refine sK ?_ | (refine ret_pick [] rfl rfl rfl ⟨?_, rfl⟩; conv => lhs; whnf)))
  all_goals rfl
theorem c_eqProjector (a b : TProjector) : FnC Tryz.prog 111 G0 0 [] [.agg (encProjector a), .agg (encProjector b)] (fun d os => d = .bool (eqTProjector a b) ∧ os = []) := by
  refine fn_rule Tryz.func111 rfl (by decide +kernel) rfl (fun w0 F0 lent β0 => ?_)
  repeat' (first | refine sC ?_ | ((with_reducible refine isAwp ?_); first | (refine sS ?_; intro Q' hn he hr) | refine sA ?_) | (refine sH ?_; clear hn he hr Q') | ((conv => whnf); first | refine sK ?_ | (refine sB ?_; repeat' (refine sb2 ?_ ?_ <;> intro hb <;> try exact cls)) | (refine ret_pick [] rfl rfl rfl ⟨?_, rfl⟩; conv => lhs; whnf)))
  all_goals simp_all [eqTProjector, eqI, eqStr, eqBo]
theorem c_szProjectorS (a : List (TProjector)) (left : Int) (h0 : 0 ≤ left) (h1 : left ≤ 1048576) : FnC Tryz.prog 14 G0 0 [] [.sl 5 (a.map encProjector), .int .i64 left] (fun d os => d = .int .i64 (if szL TProjector.sz a ≤ left then left - szL TProjector.sz a else -1) ∧ os = []) := by
  have hz0 := szTo_zero TProjector.sz a
  have hmono : ∀ k, k ≤ a.length → szTo TProjector.sz a k ≤ szL TProjector.sz a := fun k h => szTo_mono _ h
  have hm0 := hmono 0 (Nat.zero_le _)
  refine fn_rule Tryz.func14 rfl (by decide +kernel) rfl (fun w0 F0 lent β0 => ?_)
  repeat' (first | refine sC ?_ | ((with_reducible refine isAwp ?_); first | (refine sS ?_; intro Q' hn he hr) | refine sA ?_) | (refine sH ?_; clear hn he hr Q') | ((conv => whnf); first | refine sK ?_ | (refine sB ?_; repeat' (refine sb2 ?_ ?_ <;> intro hb <;> try exact cls)) | refine sP ?_ | (refine sL ?_; intro hlen) | (refine ret_pick [] rfl rfl rfl ⟨?_, rfl⟩; conv => lhs; whnf)))
  · (first | rfl | (refine congrArg (D.int _) ?_; first | rfl | omega | (split <;> omega)))
  · refine loop_env (fun k : Nat => [(0,.sl 5 (a.map encProjector)),(1,.int .i64 (left - szTo TProjector.sz a k)),(5,.int .i64 k)]) (fun _ => []) (fun k => k ≤ a.length ∧ (szTo TProjector.sz a k : Int) ≤ left) (fun k => a.length - k) 0 ⟨by omega, by omega⟩ (by refine weak_to rfl rfl rfl ?_; ((repeat' (first | exact trivial | refine And.intro ?_ ?_)) <;> (first | rfl | (conv => rhs; whnf) <;> (first | rfl | (refine congrArg (D.int _) ?_; omega))))) (fun k hk Q' hn he hr => ?_)
    repeat' (first | refine sC ?_ | ((with_reducible refine isAwp ?_); first | (refine sS ?_; intro Q' hn he hr) | refine sA ?_) | (refine sH ?_; clear hn he hr Q') | ((conv => whnf); first | refine sK ?_ | (refine sB ?_; repeat' (refine sb2 ?_ ?_ <;> intro hb <;> try exact cls)) | ((with_reducible refine isCall ?_); (refine call_pure (c_szProjector x _ (by omega) (by omega)) rfl rfl ?_)) | refine sP ?_ | (refine sE ?_; intro x hx) | (refine sL ?_; intro hlen) | (refine ret_pick [] rfl rfl rfl ⟨?_, rfl⟩; conv => lhs; whnf) | (refine sH ?_; clear hn he hr Q')))
    · have h2 := hmono (k + 1) (by omega)
      rw [szTo_succ ‹a[k]? = some _›] at h2
      split at hb <;> (first | rfl | (refine congrArg (D.int _) ?_; first | rfl | omega | (split <;> omega)))
    · have h2 := szTo_succ (f := TProjector.sz) ‹a[k]? = some _›
      split at hb
      · rename_i h3
        refine ⟨k + 1, ⟨by omega, by omega⟩, by omega, ?_⟩
        rw [if_pos h3]
        exact (by refine weak_to rfl rfl rfl ?_; ((repeat' (first | exact trivial | refine And.intro ?_ ?_)) <;> (first | rfl | (conv => rhs; whnf) <;> (first | rfl | (refine congrArg (D.int _) ?_; omega)))))
      · omega
    · have h2 : k = a.length := by omega
      subst h2
      have h3 := szL_all TProjector.sz a
      (first | rfl | (refine congrArg (D.int _) ?_; first | rfl | omega | (split <;> omega)))
def zProjector : List D := [.str [], .int .i64 0, .int .i64 0, .int .i64 0, .int .i64 0]
theorem c_toProjectorS (a : List (TProjector)) (hs : a.length ≤ 1048576) : FnC Tryz.prog 25 G0 0 [] [.sl 5 (a.map encProjector)] (fun d os => d = .h 0 ∧ os = [.row 127 5 (a.map encProjector)]) := by
  refine fn_rule Tryz.func25 rfl (by decide +kernel) rfl (fun w0 F0 lent β0 => ?_)
  repeat' (first | refine sC ?_ | ((with_reducible refine isAwp ?_); first | (refine sS ?_; intro Q' hn he hr) | refine sA ?_) | (refine sH ?_; clear hn he hr Q') | ((conv => whnf); first | refine sK ?_ | refine sP ?_ | (refine sL ?_; intro hlen)))
  refine loop_env (fun k : Nat => [(0,.sl 5 (a.map encProjector)),(3,.h 0),(4,.int .i64 k)]) (fun k => [.row 127 5 (fill encProjector zProjector a k)]) (fun k => k ≤ a.length) (fun k => a.length - k) 0 (by omega) (by refine weak_to rfl rfl ?_ ?_; rw [fill_zero]; rfl; exact ⟨rfl, rfl, rfl, trivial⟩) (fun k hk Q' hn he hr => ?_)
  repeat' (first | refine sC ?_ | ((with_reducible refine isAwp ?_); first | (refine sS ?_; intro Q' hn he hr) | refine sA ?_) | (refine sH ?_; clear hn he hr Q') | ((conv => whnf); first | refine sK ?_ | (refine sB ?_; repeat' (refine sb2 ?_ ?_ <;> intro hb <;> try exact cls)) | ((with_reducible refine isCall ?_); (refine call_pure (c_toProjector x) rfl rfl ?_)) | ((with_reducible refine isRet ?_); (refine ret_pick [0] rfl rfl rfl ⟨rfl, ?_⟩)) | refine sP ?_ | (refine sE ?_; intro x hx) | (refine sL ?_; intro hlen) | (refine sH ?_; clear hn he hr Q')))
  · refine ⟨k + 1, by omega, by omega, ?_⟩
    refine weak_to rfl rfl ?_ ⟨rfl, rfl, rfl, trivial⟩
    rw [← fill_set _ _ _ hx]
    rfl
  · have h2 : k = a.length := by omega
    subst h2
    rw [← fill_all encProjector zProjector a]
    rfl
theorem c_eqProjectorS (a b : List (TProjector)) : FnC Tryz.prog 41 G0 0 [] [.sl 5 (a.map encProjector), .sl 5 (b.map encProjector)] (fun d os => d = .bool (eqL eqTProjector a b) ∧ os = []) := by
  refine fn_rule Tryz.func41 rfl (by decide +kernel) rfl (fun w0 F0 lent β0 => ?_)
  repeat' (first | refine sC ?_ | ((with_reducible refine isAwp ?_); first | (refine sS ?_; intro Q' hn he hr) | refine sA ?_) | (refine sH ?_; clear hn he hr Q') | ((conv => whnf); first | refine sK ?_ | (refine sB ?_; repeat' (refine sb2 ?_ ?_ <;> intro hb <;> try exact cls)) | (refine sL ?_; intro hlen) | (refine ret_pick [] rfl rfl rfl ⟨?_, rfl⟩; conv => lhs; whnf)))
  · rw [eqL_len hb]
  · refine loop_env (fun k : Nat => [(0,.sl 5 (a.map encProjector)),(1,.sl 5 (b.map encProjector)),(5,.int .i64 k)]) (fun _ => []) (fun k => k ≤ a.length ∧ eqTo eqTProjector a b k) (fun k => a.length - k) 0 ⟨by omega, eqTo_zero⟩ (by refine weak_to rfl rfl rfl ?_; ((repeat' (first | exact trivial | refine And.intro ?_ ?_)) <;> (first | rfl | (conv => rhs; whnf) <;> (first | rfl | (refine congrArg (D.int _) ?_; omega))))) (fun k hk Q' hn he hr => ?_)
    repeat' (first | refine sC ?_ | ((with_reducible refine isAwp ?_); first | (refine sS ?_; intro Q' hn he hr) | refine sA ?_) | (refine sH ?_; clear hn he hr Q') | refine sO ?_ | ((conv => whnf); first | refine sK ?_ | (refine sB ?_; repeat' (refine sb2 ?_ ?_ <;> intro hb <;> try exact cls)) | ((with_reducible refine isCallQ ?_); (refine callQ_plain (.bool (eqTProjector _ _)) (c_eqProjector _ _) rfl (by rintro d os ⟨rfl, rfl⟩; rfl) ?_)) | refine sP ?_ | (refine sE ?_; intro x hx) | (refine sL ?_; intro hlen) | refine sD ?_ | (refine ret_pick [] rfl rfl rfl ⟨?_, rfl⟩; conv => lhs; whnf) | (refine sH ?_; clear hn he hr Q')))
    · rw [eqL_at ‹a[k]? = some _› ‹b[k]? = some _› hb]
    · exact ⟨k + 1, ⟨by omega, eqTo_succ hk.2 ‹a[k]? = some _› ‹b[k]? = some _› hb⟩, by omega, (by refine weak_to rfl rfl rfl ?_; ((repeat' (first | exact trivial | refine And.intro ?_ ?_)) <;> (first | rfl | (conv => rhs; whnf) <;> (first | rfl | (refine congrArg (D.int _) ?_; omega)))))⟩
    · rw [eqL_all (by omega) (fun j x y h => hk.2 j x y (by omega))]
theorem c_toRing (x : TRing) : FnC Tryz.prog 80 G0 0 [] [.agg (encRing x)] (fun d os => d = .agg (encRing x) ∧ os = []) := by
  refine fn_rule Tryz.func80 rfl (by decide +kernel) rfl (fun w0 F0 lent β0 => ?_)
  repeat' (first | refine sC ?_ | ((with_reducible refine isAwp ?_); first | (refine sS ?_; intro Q' hn he hr) | refine sA ?_) | (refine sH ?_; clear hn he hr Q') | ((conv => whnf); first | refine sK ?_ | (refine ret_pick [] rfl rfl rfl ⟨?_, rfl⟩; conv => lhs; whnf)))
  all_goals rfl
theorem c_eqRing (a b : TRing) : FnC Tryz.prog 112 G0 0 [] [.agg (encRing a), .agg (encRing b)] (fun d os => d = .bool (eqTRing a b) ∧ os = []) := by
  refine fn_rule Tryz.func112 rfl (by decide +kernel) rfl (fun w0 F0 lent β0 => ?_)
  repeat' (first | refine sC ?_ | ((with_reducible refine isAwp ?_); first | (refine sS ?_; intro Q' hn he hr) | refine sA ?_) | (refine sH ?_; clear hn he hr Q') | ((conv => whnf); first | refine sK ?_ | (refine sB ?_; repeat' (refine sb2 ?_ ?_ <;> intro hb <;> try exact cls)) | (refine ret_pick [] rfl rfl rfl ⟨?_, rfl⟩; conv => lhs; whnf)))
  all_goals simp_all [eqTRing, eqI, eqStr, eqBo]
theorem c_szRingS (a : List (TRing)) (left : Int) (h0 : 0 ≤ left) (h1 : left ≤ 1048576) : FnC Tryz.prog 15 G0 0 [] [.sl 5 (a.map encRing), .int .i64 left] (fun d os => d = .int .i64 (if szL noSz a ≤ left then left - szL noSz a else -1) ∧ os = []) := by
  rw [szL_noSz]
  refine fn_rule Tryz.func15 rfl (by decide +kernel) rfl (fun w0 F0 lent β0 => ?_)
  repeat' (first | refine sC ?_ | ((with_reducible refine isAwp ?_); first | (refine sS ?_; intro Q' hn he hr) | refine sA ?_) | (refine sH ?_; clear hn he hr Q') | ((conv => whnf); first | refine sK ?_ | (refine sB ?_; repeat' (refine sb2 ?_ ?_ <;> intro hb <;> try exact cls)) | refine sP ?_ | (refine sL ?_; intro hlen) | (refine ret_pick [] rfl rfl rfl ⟨?_, rfl⟩; conv => lhs; whnf)))
  all_goals (first | rfl | (refine congrArg (D.int _) ?_; first | rfl | omega | (split <;> omega)))
def zRing : List D := [.int .i64 0, .int .i64 0, .int .i64 0, .int .i64 0, .int .i64 0]
theorem c_toRingS (a : List (TRing)) (hs : a.length ≤ 1048576) : FnC Tryz.prog 26 G0 0 [] [.sl 5 (a.map encRing)] (fun d os => d = .h 0 ∧ os = [.row 130 5 (a.map encRing)]) := by
  refine fn_rule Tryz.func26 rfl (by decide +kernel) rfl (fun w0 F0 lent β0 => ?_)
  repeat' (first | refine sC ?_ | ((with_reducible refine isAwp ?_); first | (refine sS ?_; intro Q' hn he hr) | refine sA ?_) | (refine sH ?_; clear hn he hr Q') | ((conv => whnf); first | refine sK ?_ | refine sP ?_ | (refine sL ?_; intro hlen)))
  refine loop_env (fun k : Nat => [(0,.sl 5 (a.map encRing)),(3,.h 0),(4,.int .i64 k)]) (fun k => [.row 130 5 (fill encRing zRing a k)]) (fun k => k ≤ a.length) (fun k => a.length - k) 0 (by omega) (by refine weak_to rfl rfl ?_ ?_; rw [fill_zero]; rfl; exact ⟨rfl, rfl, rfl, trivial⟩) (fun k hk Q' hn he hr => ?_)
  repeat' (first | refine sC ?_ | ((with_reducible refine isAwp ?_); first | (refine sS ?_; intro Q' hn he hr) | refine sA ?_) | (refine sH ?_; clear hn he hr Q') | ((conv => whnf); first | refine sK ?_ | (refine sB ?_; repeat' (refine sb2 ?_ ?_ <;> intro hb <;> try exact cls)) | ((with_reducible refine isCall ?_); (refine call_pure (c_toRing x) rfl rfl ?_)) | ((with_reducible refine isRet ?_); (refine ret_pick [0] rfl rfl rfl ⟨rfl, ?_⟩)) | refine sP ?_ | (refine sE ?_; intro x hx) | (refine sL ?_; intro hlen) | (refine sH ?_; clear hn he hr Q')))
  · refine ⟨k + 1, by omega, by omega, ?_⟩
    refine weak_to rfl rfl ?_ ⟨rfl, rfl, rfl, trivial⟩
    rw [← fill_set _ _ _ hx]
    rfl
  · have h2 : k = a.length := by omega
    subst h2
    rw [← fill_all encRing zRing a]
    rfl
theorem c_eqRingS (a b : List (TRing)) : FnC Tryz.prog 42 G0 0 [] [.sl 5 (a.map encRing), .sl 5 (b.map encRing)] (fun d os => d = .bool (eqL eqTRing a b) ∧ os = []) := by
  refine fn_rule Tryz.func42 rfl (by decide +kernel) rfl (fun w0 F0 lent β0 => ?_)
  repeat' (first | refine sC ?_ | ((with_reducible refine isAwp ?_); first | (refine sS ?_; intro Q' hn he hr) | refine sA ?_) | (refine sH ?_; clear hn he hr Q') | ((conv => whnf); first | refine sK ?_ | (refine sB ?_; repeat' (refine sb2 ?_ ?_ <;> intro hb <;> try exact cls)) | (refine sL ?_; intro hlen) | (refine ret_pick [] rfl rfl rfl ⟨?_, rfl⟩; conv => lhs; whnf)))
  · rw [eqL_len hb]
  · refine loop_env (fun k : Nat => [(0,.sl 5 (a.map encRing)),(1,.sl 5 (b.map encRing)),(5,.int .i64 k)]) (fun _ => []) (fun k => k ≤ a.length ∧ eqTo eqTRing a b k) (fun k => a.length - k) 0 ⟨by omega, eqTo_zero⟩ (by refine weak_to rfl rfl rfl ?_; ((repeat' (first | exact trivial | refine And.intro ?_ ?_)) <;> (first | rfl | (conv => rhs; whnf) <;> (first | rfl | (refine congrArg (D.int _) ?_; omega))))) (fun k hk Q' hn he hr => ?_)
    repeat' (first | refine sC ?_ | ((with_reducible refine isAwp ?_); first | (refine sS ?_; intro Q' hn he hr) | refine sA ?_) | (refine sH ?_; clear hn he hr Q') | refine sO ?_ | ((conv => whnf); first | refine sK ?_ | (refine sB ?_; repeat' (refine sb2 ?_ ?_ <;> intro hb <;> try exact cls)) | ((with_reducible refine isCallQ ?_); (refine callQ_plain (.bool (eqTRing _ _)) (c_eqRing _ _) rfl (by rintro d os ⟨rfl, rfl⟩; rfl) ?_)) | refine sP ?_ | (refine sE ?_; intro x hx) | (refine sL ?_; intro hlen) | refine sD ?_ | (refine ret_pick [] rfl rfl rfl ⟨?_, rfl⟩; conv => lhs; whnf) | (refine sH ?_; clear hn he hr Q')))
    · rw [eqL_at ‹a[k]? = some _› ‹b[k]? = some _› hb]
    · exact ⟨k + 1, ⟨by omega, eqTo_succ hk.2 ‹a[k]? = some _› ‹b[k]? = some _› hb⟩, by omega, (by refine weak_to rfl rfl rfl ?_; ((repeat' (first | exact trivial | refine And.intro ?_ ?_)) <;> (first | rfl | (conv => rhs; whnf) <;> (first | rfl | (refine congrArg (D.int _) ?_; omega)))))⟩
    · rw [eqL_all (by omega) (fun j x y h => hk.2 j x y (by omega))]
theorem c_szFixture (x : TFixture) (left : Int) (h0 : 0 ≤ left) (h1 : left ≤ 1048576) : FnC Tryz.prog 59 G0 0 [] [.agg (encFixture x), .int .i64 left] (fun d os => d = .int .i64 (if x.sz ≤ left then left - x.sz else -1) ∧ os = []) := by
  refine fn_rule Tryz.func59 rfl (by decide +kernel) rfl (fun w0 F0 lent β0 => ?_)
  repeat' (first | refine sC ?_ | ((with_reducible refine isAwp ?_); first | (refine sS ?_; intro Q' hn he hr) | refine sA ?_) | (refine sH ?_; clear hn he hr Q') | ((conv => whnf); first | refine sK ?_ | (refine sB ?_; repeat' (refine sb2 ?_ ?_ <;> intro hb <;> try exact cls)) | refine sP ?_ | (refine sL ?_; intro hlen) | (refine ret_pick [] rfl rfl rfl ⟨?_, rfl⟩; conv => lhs; whnf)))
  all_goals simp only [TFixture.sz]
  all_goals (first | rfl | (refine congrArg (D.int _) ?_; first | rfl | omega | (split <;> omega)))
theorem c_toFixture (x : TFixture) : FnC Tryz.prog 81 G0 0 [] [.agg (encFixture x)] (fun d os => d = .agg (encFixture x) ∧ os = []) := by
  refine fn_rule Tryz.func81 rfl (by decide +kernel) rfl (fun w0 F0 lent β0 => ?_)
  repeat' (first | refine sC ?_ | ((with_reducible refine isAwp ?_); first | (refine sS ?_; intro Q' hn he hr) | refine sA ?_) | (refine sH ?_; clear hn he hr Q') | ((conv => whnf); first | refine sK ?_ | (refine ret_pick [] rfl rfl rfl ⟨?_, rfl⟩; conv => lhs; whnf)))
  all_goals rfl
theorem c_eqFixture (a b : TFixture) : FnC Tryz.prog 113 G0 0 [] [.agg (encFixture a), .agg (encFixture b)] (fun d os => d = .bool (eqTFixture a b) ∧ os = []) := by
  refine fn_rule Tryz.func113 rfl (by decide +kernel) rfl (fun w0 F0 lent β0 => ?_)
  repeat' (first | refine sC ?_ | ((with_reducible refine isAwp ?_); first | (refine sS ?_; intro Q' hn he hr) | refine sA ?_) | (refine sH ?_; clear hn he hr Q') | ((conv => whnf); first | refine sK ?_ | (refine sB ?_; repeat' (refine sb2 ?_ ?_ <;> intro hb <;> try exact cls)) | (refine ret_pick [] rfl rfl rfl ⟨?_, rfl⟩; conv => lhs; whnf)))
  all_goals simp_all [eqTFixture, eqI, eqStr, eqBo]
theorem c_szFixtureS (a : List (TFixture)) (left : Int) (h0 : 0 ≤ left) (h1 : left ≤ 1048576) : FnC Tryz.prog 17 G0 0 [] [.sl 4 (a.map encFixture), .int .i64 left] (fun d os => d = .int .i64 (if szL TFixture.sz a ≤ left then left - szL TFixture.sz a else -1) ∧ os = []) := by
  have hz0 := szTo_zero TFixture.sz a
  have hmono : ∀ k, k ≤ a.length → szTo TFixture.sz a k ≤ szL TFixture.sz a := fun k h => szTo_mono _ h
  have hm0 := hmono 0 (Nat.zero_le _)
  refine fn_rule Tryz.func17 rfl (by decide +kernel) rfl (fun w0 F0 lent β0 => ?_)
  repeat' (first | refine sC ?_ | ((with_reducible refine isAwp ?_); first | (refine sS ?_; intro Q' hn he hr) | refine sA ?_) | (refine sH ?_; clear hn he hr Q') | ((conv => whnf); first | refine sK ?_ | (refine sB ?_; repeat' (refine sb2 ?_ ?_ <;> intro hb <;> try exact cls)) | refine sP ?_ | (refine sL ?_; intro hlen) | (refine ret_pick [] rfl rfl rfl ⟨?_, rfl⟩; conv => lhs; whnf)))
  · (first | rfl | (refine congrArg (D.int _) ?_; first | rfl | omega | (split <;> omega)))
  · refine loop_env (fun k : Nat => [(0,.sl 4 (a.map encFixture)),(1,.int .i64 (left - szTo TFixture.sz a k)),(5,.int .i64 k)]) (fun _ => []) (fun k => k ≤ a.length ∧ (szTo TFixture.sz a k : Int) ≤ left) (fun k => a.length - k) 0 ⟨by omega, by omega⟩ (by refine weak_to rfl rfl rfl ?_; ((repeat' (first | exact trivial | refine And.intro ?_ ?_)) <;> (first | rfl | (conv => rhs; whnf) <;> (first | rfl | (refine congrArg (D.int _) ?_; omega))))) (fun k hk Q' hn he hr => ?_)
    repeat' (first | refine sC ?_ | ((with_reducible refine isAwp ?_); first | (refine sS ?_; intro Q' hn he hr) | refine sA ?_) | (refine sH ?_; clear hn he hr Q') | ((conv => whnf); first | refine sK ?_ | (refine sB ?_; repeat' (refine sb2 ?_ ?_ <;> intro hb <;> try exact cls)) | ((with_reducible refine isCall ?_); (refine call_pure (c_szFixture x _ (by omega) (by omega)) rfl rfl ?_)) | refine sP ?_ | (refine sE ?_; intro x hx) | (refine sL ?_; intro hlen) | (refine ret_pick [] rfl rfl rfl ⟨?_, rfl⟩; conv => lhs; whnf) | (refine sH ?_; clear hn he hr Q')))
    · have h2 := hmono (k + 1) (by omega)
      rw [szTo_succ ‹a[k]? = some _›] at h2
      split at hb <;> (first | rfl | (refine congrArg (D.int _) ?_; first | rfl | omega | (split <;> omega)))
    · have h2 := szTo_succ (f := TFixture.sz) ‹a[k]? = some _›
      split at hb
      · rename_i h3
        refine ⟨k + 1, ⟨by omega, by omega⟩, by omega, ?_⟩
        rw [if_pos h3]
        exact (by refine weak_to rfl rfl rfl ?_; ((repeat' (first | exact trivial | refine And.intro ?_ ?_)) <;> (first | rfl | (conv => rhs; whnf) <;> (first | rfl | (refine congrArg (D.int _) ?_; omega)))))
      · omega
    · have h2 : k = a.length := by omega
      subst h2
      have h3 := szL_all TFixture.sz a
      (first | rfl | (refine congrArg (D.int _) ?_; first | rfl | omega | (split <;> omega)))
def zFixture : List D := [.str [], .int .i64 0, .int .i64 0, .int .i64 0]
theorem c_toFixtureS (a : List (TFixture)) (hs : a.length ≤ 1048576) : FnC Tryz.prog 28 G0 0 [] [.sl 4 (a.map encFixture)] (fun d os => d = .h 0 ∧ os = [.row 133 4 (a.map encFixture)]) := by
  refine fn_rule Tryz.func28 rfl (by decide +kernel) rfl (fun w0 F0 lent β0 => ?_)
  repeat' (first | refine sC ?_ | ((with_reducible refine isAwp ?_); first | (refine sS ?_; intro Q' hn he hr) | refine sA ?_) | (refine sH ?_; clear hn he hr Q') | ((conv => whnf); first | refine sK ?_ | refine sP ?_ | (refine sL ?_; intro hlen)))
  refine loop_env (fun k : Nat => [(0,.sl 4 (a.map encFixture)),(3,.h 0),(4,.int .i64 k)]) (fun k => [.row 133 4 (fill encFixture zFixture a k)]) (fun k => k ≤ a.length) (fun k => a.length - k) 0 (by omega) (by refine weak_to rfl rfl ?_ ?_; rw [fill_zero]; rfl; exact ⟨rfl, rfl, rfl, trivial⟩) (fun k hk Q' hn he hr => ?_)
  repeat' (first | refine sC ?_ | ((with_reducible refine isAwp ?_); first | (refine sS ?_; intro Q' hn he hr) | refine sA ?_) | (refine sH ?_; clear hn he hr Q') | ((conv => whnf); first | refine sK ?_ | (refine sB ?_; repeat' (refine sb2 ?_ ?_ <;> intro hb <;> try exact cls)) | ((with_reducible refine isCall ?_); (refine call_pure (c_toFixture x) rfl rfl ?_)) | ((with_reducible refine isRet ?_); (refine ret_pick [0] rfl rfl rfl ⟨rfl, ?_⟩)) | refine sP ?_ | (refine sE ?_; intro x hx) | (refine sL ?_; intro hlen) | (refine sH ?_; clear hn he hr Q')))
  · refine ⟨k + 1, by omega, by omega, ?_⟩
    refine weak_to rfl rfl ?_ ⟨rfl, rfl, rfl, trivial⟩
    rw [← fill_set _ _ _ hx]
    rfl
  · have h2 : k = a.length := by omega
    subst h2
    rw [← fill_all encFixture zFixture a]
    rfl
theorem c_eqFixtureS (a b : List (TFixture)) : FnC Tryz.prog 44 G0 0 [] [.sl 4 (a.map encFixture), .sl 4 (b.map encFixture)] (fun d os => d = .bool (eqL eqTFixture a b) ∧ os = []) := by
  refine fn_rule Tryz.func44 rfl (by decide +kernel) rfl (fun w0 F0 lent β0 => ?_)
  repeat' (first | refine sC ?_ | ((with_reducible refine isAwp ?_); first | (refine sS ?_; intro Q' hn he hr) | refine sA ?_) | (refine sH ?_; clear hn he hr Q') | ((conv => whnf); first | refine sK ?_ | (refine sB ?_; repeat' (refine sb2 ?_ ?_ <;> intro hb <;> try exact cls)) | (refine sL ?_; intro hlen) | (refine ret_pick [] rfl rfl rfl ⟨?_, rfl⟩; conv => lhs; whnf)))
  · rw [eqL_len hb]
  · refine loop_env (fun k : Nat => [(0,.sl 4 (a.map encFixture)),(1,.sl 4 (b.map encFixture)),(5,.int .i64 k)]) (fun _ => []) (fun k => k ≤ a.length ∧ eqTo eqTFixture a b k) (fun k => a.length - k) 0 ⟨by omega, eqTo_zero⟩ (by refine weak_to rfl rfl rfl ?_; ((repeat' (first | exact trivial | refine And.intro ?_ ?_)) <;> (first | rfl | (conv => rhs; whnf) <;> (first | rfl | (refine congrArg (D.int _) ?_; omega))))) (fun k hk Q' hn he hr => ?_)
    repeat' (first | refine sC ?_ | ((with_reducible refine isAwp ?_); first | (refine sS ?_; intro Q' hn he hr) | refine sA ?_) | (refine sH ?_; clear hn he hr Q') | refine sO ?_ | ((conv => whnf); first | refine sK ?_ | (refine sB ?_; repeat' (refine sb2 ?_ ?_ <;> intro hb <;> try exact cls)) | ((with_reducible refine isCallQ ?_); (refine callQ_plain (.bool (eqTFixture _ _)) (c_eqFixture _ _) rfl (by rintro d os ⟨rfl, rfl⟩; rfl) ?_)) | refine sP ?_ | (refine sE ?_; intro x hx) | (refine sL ?_; intro hlen) | refine sD ?_ | (refine ret_pick [] rfl rfl rfl ⟨?_, rfl⟩; conv => lhs; whnf) | (refine sH ?_; clear hn he hr Q')))
    · rw [eqL_at ‹a[k]? = some _› ‹b[k]? = some _› hb]
    · exact ⟨k + 1, ⟨by omega, eqTo_succ hk.2 ‹a[k]? = some _› ‹b[k]? = some _› hb⟩, by omega, (by refine weak_to rfl rfl rfl ?_; ((repeat' (first | exact trivial | refine And.intro ?_ ?_)) <;> (first | rfl | (conv => rhs; whnf) <;> (first | rfl | (refine congrArg (D.int _) ?_; omega)))))⟩
    · rw [eqL_all (by omega) (fun j x y h => hk.2 j x y (by omega))]
theorem c_szCue (x : TCue) (left : Int) (h0 : 0 ≤ left) (h1 : left ≤ 1048576) : FnC Tryz.prog 60 G0 0 [] [.agg (encCue x), .int .i64 left] (fun d os => d = .int .i64 (if x.sz ≤ left then left - x.sz else -1) ∧ os = []) := by
  refine fn_rule Tryz.func60 rfl (by decide +kernel) rfl (fun w0 F0 lent β0 => ?_)
  repeat' (first | refine sC ?_ | ((with_reducible refine isAwp ?_); first | (refine sS ?_; intro Q' hn he hr) | refine sA ?_) | (refine sH ?_; clear hn he hr Q') | ((conv => whnf); first | refine sK ?_ | (refine sB ?_; repeat' (refine sb2 ?_ ?_ <;> intro hb <;> try exact cls)) | refine sP ?_ | (refine sL ?_; intro hlen) | (refine ret_pick [] rfl rfl rfl ⟨?_, rfl⟩; conv => lhs; whnf)))
  all_goals simp only [TCue.sz]
  all_goals (first | rfl | (refine congrArg (D.int _) ?_; first | rfl | omega | (split <;> omega)))
theorem c_toCue (x : TCue) : FnC Tryz.prog 82 G0 0 [] [.agg (encCue x)] (fun d os => d = .agg (encCue x) ∧ os = []) := by
  refine fn_rule Tryz.func82 rfl (by decide +kernel) rfl (fun w0 F0 lent β0 => ?_)
  repeat' (first | refine sC ?_ | ((with_reducible refine isAwp ?_); first | (refine sS ?_; intro Q' hn he hr) | refine sA ?_) | (refine sH ?_; clear hn he hr Q') | ((conv => whnf); first | refine sK ?_ | (refine ret_pick [] rfl rfl rfl ⟨?_, rfl⟩; conv => lhs; whnf)))
  all_goals rfl
theorem c_eqCue (a b : TCue) : FnC Tryz.prog 114 G0 0 [] [.agg (encCue a), .agg (encCue b)] (fun d os => d = .bool (eqTCue a b) ∧ os = []) := by
  refine fn_rule Tryz.func114 rfl (by decide +kernel) rfl (fun w0 F0 lent β0 => ?_)
  repeat' (first | refine sC ?_ | ((with_reducible refine isAwp ?_); first | (refine sS ?_; intro Q' hn he hr) | refine sA ?_) | (refine sH ?_; clear hn he hr Q') | ((conv => whnf); first | refine sK ?_ | (refine sB ?_; repeat' (refine sb2 ?_ ?_ <;> intro hb <;> try exact cls)) | (refine ret_pick [] rfl rfl rfl ⟨?_, rfl⟩; conv => lhs; whnf)))
  all_goals simp_all [eqTCue, eqI, eqStr, eqBo]
theorem c_szCueS (a : List (TCue)) (left : Int) (h0 : 0 ≤ left) (h1 : left ≤ 1048576) : FnC Tryz.prog 18 G0 0 [] [.sl 6 (a.map encCue), .int .i64 left] (fun d os => d = .int .i64 (if szL TCue.sz a ≤ left then left - szL TCue.sz a else -1) ∧ os = []) := by
  have hz0 := szTo_zero TCue.sz a
  have hmono : ∀ k, k ≤ a.length → szTo TCue.sz a k ≤ szL TCue.sz a := fun k h => szTo_mono _ h
  have hm0 := hmono 0 (Nat.zero_le _)
  refine fn_rule Tryz.func18 rfl (by decide +kernel) rfl (fun w0 F0 lent β0 => ?_)
  repeat' (first | refine sC ?_ | ((with_reducible refine isAwp ?_); first | (refine sS ?_; intro Q' hn he hr) | refine sA ?_) | (refine sH ?_; clear hn he hr Q') | ((conv => whnf); first | refine sK ?_ | (refine sB ?_; repeat' (refine sb2 ?_ ?_ <;> intro hb <;> try exact cls)) | refine sP ?_ | (refine sL ?_; intro hlen) | (refine ret_pick [] rfl rfl rfl ⟨?_, rfl⟩; conv => lhs; whnf)))
  · (first | rfl | (refine congrArg (D.int _) ?_; first | rfl | omega | (split <;> omega)))
  · refine loop_env (fun k : Nat => [(0,.sl 6 (a.map encCue)),(1,.int .i64 (left - szTo TCue.sz a k)),(5,.int .i64 k)]) (fun _ => []) (fun k => k ≤ a.length ∧ (szTo TCue.sz a k : Int) ≤ left) (fun k => a.length - k) 0 ⟨by omega, by omega⟩ (by refine weak_to rfl rfl rfl ?_; ((repeat' (first | exact trivial | refine And.intro ?_ ?_)) <;> (first | rfl | (conv => rhs; whnf) <;> (first | rfl | (refine congrArg (D.int _) ?_; omega))))) (fun k hk Q' hn he hr => ?_)
    repeat' (first | refine sC ?_ | ((with_reducible refine isAwp ?_); first | (refine sS ?_; intro Q' hn he hr) | refine sA ?_) | (refine sH ?_; clear hn he hr Q') | ((conv => whnf); first | refine sK ?_ | (refine sB ?_; repeat' (refine sb2 ?_ ?_ <;> intro hb <;> try exact cls)) | ((with_reducible refine isCall ?_); (refine call_pure (c_szCue x _ (by omega) (by omega)) rfl rfl ?_)) | refine sP ?_ | (refine sE ?_; intro x hx) | (refine sL ?_; intro hlen) | (refine ret_pick [] rfl rfl rfl ⟨?_, rfl⟩; conv => lhs; whnf) | (refine sH ?_; clear hn he hr Q')))
    · have h2 := hmono (k + 1) (by omega)
      rw [szTo_succ ‹a[k]? = some _›] at h2
      split at hb <;> (first | rfl | (refine congrArg (D.int _) ?_; first | rfl | omega | (split <;> omega)))
    · have h2 := szTo_succ (f := TCue.sz) ‹a[k]? = some _›
      split at hb
      · rename_i h3
        refine ⟨k + 1, ⟨by omega, by omega⟩, by omega, ?_⟩
        rw [if_pos h3]
        exact (by refine weak_to rfl rfl rfl ?_; ((repeat' (first | exact trivial | refine And.intro ?_ ?_)) <;> (first | rfl | (conv => rhs; whnf) <;> (first | rfl | (refine congrArg (D.int _) ?_; omega)))))
      · omega
    · have h2 : k = a.length := by omega
      subst h2
      have h3 := szL_all TCue.sz a
      (first | rfl | (refine congrArg (D.int _) ?_; first | rfl | omega | (split <;> omega)))
def zCue : List D := [.str [], .int .i64 0, .int .i64 0, .str [], .int .i64 0, .int .i64 0]
theorem c_toCueS (a : List (TCue)) (hs : a.length ≤ 1048576) : FnC Tryz.prog 29 G0 0 [] [.sl 6 (a.map encCue)] (fun d os => d = .h 0 ∧ os = [.row 135 6 (a.map encCue)]) := by
  refine fn_rule Tryz.func29 rfl (by decide +kernel) rfl (fun w0 F0 lent β0 => ?_)
  repeat' (first | refine sC ?_ | ((with_reducible refine isAwp ?_); first | (refine sS ?_; intro Q' hn he hr) | refine sA ?_) | (refine sH ?_; clear hn he hr Q') | ((conv => whnf); first | refine sK ?_ | refine sP ?_ | (refine sL ?_; intro hlen)))
  refine loop_env (fun k : Nat => [(0,.sl 6 (a.map encCue)),(3,.h 0),(4,.int .i64 k)]) (fun k => [.row 135 6 (fill encCue zCue a k)]) (fun k => k ≤ a.length) (fun k => a.length - k) 0 (by omega) (by refine weak_to rfl rfl ?_ ?_; rw [fill_zero]; rfl; exact ⟨rfl, rfl, rfl, trivial⟩) (fun k hk Q' hn he hr => ?_)
  repeat' (first | refine sC ?_ | ((with_reducible refine isAwp ?_); first | (refine sS ?_; intro Q' hn he hr) | refine sA ?_) | (refine sH ?_; clear hn he hr Q') | ((conv => whnf); first | refine sK ?_ | (refine sB ?_; repeat' (refine sb2 ?_ ?_ <;> intro hb <;> try exact cls)) | ((with_reducible refine isCall ?_); (refine call_pure (c_toCue x) rfl rfl ?_)) | ((with_reducible refine isRet ?_); (refine ret_pick [0] rfl rfl rfl ⟨rfl, ?_⟩)) | refine sP ?_ | (refine sE ?_; intro x hx) | (refine sL ?_; intro hlen) | (refine sH ?_; clear hn he hr Q')))
  · refine ⟨k + 1, by omega, by omega, ?_⟩
    refine weak_to rfl rfl ?_ ⟨rfl, rfl, rfl, trivial⟩
    rw [← fill_set _ _ _ hx]
    rfl
  · have h2 : k = a.length := by omega
    subst h2
    rw [← fill_all encCue zCue a]
    rfl
theorem c_eqCueS (a b : List (TCue)) : FnC Tryz.prog 45 G0 0 [] [.sl 6 (a.map encCue), .sl 6 (b.map encCue)] (fun d os => d = .bool (eqL eqTCue a b) ∧ os = []) := by
  refine fn_rule Tryz.func45 rfl (by decide +kernel) rfl (fun w0 F0 lent β0 => ?_)
  repeat' (first | refine sC ?_ | ((with_reducible refine isAwp ?_); first | (refine sS ?_; intro Q' hn he hr) | refine sA ?_) | (refine sH ?_; clear hn he hr Q') | ((conv => whnf); first | refine sK ?_ | (refine sB ?_; repeat' (refine sb2 ?_ ?_ <;> intro hb <;> try exact cls)) | (refine sL ?_; intro hlen) | (refine ret_pick [] rfl rfl rfl ⟨?_, rfl⟩; conv => lhs; whnf)))
  · rw [eqL_len hb]
  · refine loop_env (fun k : Nat => [(0,.sl 6 (a.map encCue)),(1,.sl 6 (b.map encCue)),(5,.int .i64 k)]) (fun _ => []) (fun k => k ≤ a.length ∧ eqTo eqTCue a b k) (fun k => a.length - k) 0 ⟨by omega, eqTo_zero⟩ (by refine weak_to rfl rfl rfl ?_; ((repeat' (first | exact trivial | refine And.intro ?_ ?_)) <;> (first | rfl | (conv => rhs; whnf) <;> (first | rfl | (refine congrArg (D.int _) ?_; omega))))) (fun k hk Q' hn he hr => ?_)
    repeat' (first | refine sC ?_ | ((with_reducible refine isAwp ?_); first | (refine sS ?_; intro Q' hn he hr) | refine sA ?_) | (refine sH ?_; clear hn he hr Q') | refine sO ?_ | ((conv => whnf); first | refine sK ?_ | (refine sB ?_; repeat' (refine sb2 ?_ ?_ <;> intro hb <;> try exact cls)) | ((with_reducible refine isCallQ ?_); (refine callQ_plain (.bool (eqTCue _ _)) (c_eqCue _ _) rfl (by rintro d os ⟨rfl, rfl⟩; rfl) ?_)) | refine sP ?_ | (refine sE ?_; intro x hx) | (refine sL ?_; intro hlen) | refine sD ?_ | (refine ret_pick [] rfl rfl rfl ⟨?_, rfl⟩; conv => lhs; whnf) | (refine sH ?_; clear hn he hr Q')))
    · rw [eqL_at ‹a[k]? = some _› ‹b[k]? = some _› hb]
    · exact ⟨k + 1, ⟨by omega, eqTo_succ hk.2 ‹a[k]? = some _› ‹b[k]? = some _› hb⟩, by omega, (by refine weak_to rfl rfl rfl ?_; ((repeat' (first | exact trivial | refine And.intro ?_ ?_)) <;> (first | rfl | (conv => rhs; whnf) <;> (first | rfl | (refine congrArg (D.int _) ?_; omega)))))⟩
    · rw [eqL_all (by omega) (fun j x y h => hk.2 j x y (by omega))]
theorem c_szLine (x : TLine) (left : Int) (h0 : 0 ≤ left) (h1 : left ≤ 1048576) : FnC Tryz.prog 61 G0 0 [] [.agg (encLine x), .int .i64 left] (fun d os => d = .int .i64 (if x.sz ≤ left then left - x.sz else -1) ∧ os = []) := by
  refine fn_rule Tryz.func61 rfl (by decide +kernel) rfl (fun w0 F0 lent β0 => ?_)
  repeat' (first | refine sC ?_ | ((with_reducible refine isAwp ?_); first | (refine sS ?_; intro Q' hn he hr) | refine sA ?_) | (refine sH ?_; clear hn he hr Q') | ((conv => whnf); first | refine sK ?_ | (refine sB ?_; repeat' (refine sb2 ?_ ?_ <;> intro hb <;> try exact cls)) | refine sP ?_ | (refine sL ?_; intro hlen) | (refine ret_pick [] rfl rfl rfl ⟨?_, rfl⟩; conv => lhs; whnf)))
  all_goals simp only [TLine.sz]
  all_goals (first | rfl | (refine congrArg (D.int _) ?_; first | rfl | omega | (split <;> omega)))
theorem c_toLine (x : TLine) : FnC Tryz.prog 83 G0 0 [] [.agg (encLine x)] (fun d os => d = .agg (encLine x) ∧ os = []) := by
  refine fn_rule Tryz.func83 rfl (by decide +kernel) rfl (fun w0 F0 lent β0 => ?_)
  repeat' (first | refine sC ?_ | ((with_reducible refine isAwp ?_); first | (refine sS ?_; intro Q' hn he hr) | refine sA ?_) | (refine sH ?_; clear hn he hr Q') | ((conv => whnf); first | refine sK ?_ | (refine ret_pick [] rfl rfl rfl ⟨?_, rfl⟩; conv => lhs; whnf)))
  all_goals rfl
theorem c_eqLine (a b : TLine) : FnC Tryz.prog 115 G0 0 [] [.agg (encLine a), .agg (encLine b)] (fun d os => d = .bool (eqTLine a b) ∧ os = []) := by
  refine fn_rule Tryz.func115 rfl (by decide +kernel) rfl (fun w0 F0 lent β0 => ?_)
  repeat' (first | refine sC ?_ | ((with_reducible refine isAwp ?_); first | (refine sS ?_; intro Q' hn he hr) | refine sA ?_) | (refine sH ?_; clear hn he hr Q') | ((conv => whnf); first | refine sK ?_ | (refine sB ?_; repeat' (refine sb2 ?_ ?_ <;> intro hb <;> try exact cls)) | (refine ret_pick [] rfl rfl rfl ⟨?_, rfl⟩; conv => lhs; whnf)))
  all_goals simp_all [eqTLine, eqI, eqStr, eqBo]
theorem c_szLineS (a : List (TLine)) (left : Int) (h0 : 0 ≤ left) (h1 : left ≤ 1048576) : FnC Tryz.prog 19 G0 0 [] [.sl 3 (a.map encLine), .int .i64 left] (fun d os => d = .int .i64 (if szL TLine.sz a ≤ left then left - szL TLine.sz a else -1) ∧ os = []) := by
  have hz0 := szTo_zero TLine.sz a
  have hmono : ∀ k, k ≤ a.length → szTo TLine.sz a k ≤ szL TLine.sz a := fun k h => szTo_mono _ h
  have hm0 := hmono 0 (Nat.zero_le _)
  refine fn_rule Tryz.func19 rfl (by decide +kernel) rfl (fun w0 F0 lent β0 => ?_)
  repeat' (first | refine sC ?_ | ((with_reducible refine isAwp ?_); first | (refine sS ?_; intro Q' hn he hr) | refine sA ?_) | (refine sH ?_; clear hn he hr Q') | ((conv => whnf); first | refine sK ?_ | (refine sB ?_; repeat' (refine sb2 ?_ ?_ <;> intro hb <;> try exact cls)) | refine sP ?_ | (refine sL ?_; intro hlen) | (refine ret_pick [] rfl rfl rfl ⟨?_, rfl⟩; conv => lhs; whnf)))
  · (first | rfl | (refine congrArg (D.int _) ?_; first | rfl | omega | (split <;> omega)))
  · refine loop_env (fun k : Nat => [(0,.sl 3 (a.map encLine)),(1,.int .i64 (left - szTo TLine.sz a k)),(5,.int .i64 k)]) (fun _ => []) (fun k => k ≤ a.length ∧ (szTo TLine.sz a k : Int) ≤ left) (fun k => a.length - k) 0 ⟨by omega, by omega⟩ (by refine weak_to rfl rfl rfl ?_; ((repeat' (first | exact trivial | refine And.intro ?_ ?_)) <;> (first | rfl | (conv => rhs; whnf) <;> (first | rfl | (refine congrArg (D.int _) ?_; omega))))) (fun k hk Q' hn he hr => ?_)
    repeat' (first | refine sC ?_ | ((with_reducible refine isAwp ?_); first | (refine sS ?_; intro Q' hn he hr) | refine sA ?_) | (refine sH ?_; clear hn he hr Q') | ((conv => whnf); first | refine sK ?_ | (refine sB ?_; repeat' (refine sb2 ?_ ?_ <;> intro hb <;> try exact cls)) | ((with_reducible refine isCall ?_); (refine call_pure (c_szLine x _ (by omega) (by omega)) rfl rfl ?_)) | refine sP ?_ | (refine sE ?_; intro x hx) | (refine sL ?_; intro hlen) | (refine ret_pick [] rfl rfl rfl ⟨?_, rfl⟩; conv => lhs; whnf) | (refine sH ?_; clear hn he hr Q')))
    · have h2 := hmono (k + 1) (by omega)
      rw [szTo_succ ‹a[k]? = some _›] at h2
      split at hb <;> (first | rfl | (refine congrArg (D.int _) ?_; first | rfl | omega | (split <;> omega)))
    · have h2 := szTo_succ (f := TLine.sz) ‹a[k]? = some _›
      split at hb
      · rename_i h3
        refine ⟨k + 1, ⟨by omega, by omega⟩, by omega, ?_⟩
        rw [if_pos h3]
        exact (by refine weak_to rfl rfl rfl ?_; ((repeat' (first | exact trivial | refine And.intro ?_ ?_)) <;> (first | rfl | (conv => rhs; whnf) <;> (first | rfl | (refine congrArg (D.int _) ?_; omega)))))
      · omega
    · have h2 : k = a.length := by omega
      subst h2
      have h3 := szL_all TLine.sz a
      (first | rfl | (refine congrArg (D.int _) ?_; first | rfl | omega | (split <;> omega)))
def zLine : List D := [.int .i64 0, .str [], .int .i64 0]
theorem c_toLineS (a : List (TLine)) (hs : a.length ≤ 1048576) : FnC Tryz.prog 30 G0 0 [] [.sl 3 (a.map encLine)] (fun d os => d = .h 0 ∧ os = [.row 137 3 (a.map encLine)]) := by
  refine fn_rule Tryz.func30 rfl (by decide +kernel) rfl (fun w0 F0 lent β0 => ?_)
  repeat' (first | refine sC ?_ | ((with_reducible refine isAwp ?_); first | (refine sS ?_; intro Q' hn he hr) | refine sA ?_) | (refine sH ?_; clear hn he hr Q') | ((conv => whnf); first | refine sK ?_ | refine sP ?_ | (refine sL ?_; intro hlen)))
  refine loop_env (fun k : Nat => [(0,.sl 3 (a.map encLine)),(3,.h 0),(4,.int .i64 k)]) (fun k => [.row 137 3 (fill encLine zLine a k)]) (fun k => k ≤ a.length) (fun k => a.length - k) 0 (by omega) (by refine weak_to rfl rfl ?_ ?_; rw [fill_zero]; rfl; exact ⟨rfl, rfl, rfl, trivial⟩) (fun k hk Q' hn he hr => ?_)
  repeat' (first | refine sC ?_ | ((with_reducible refine isAwp ?_); first | (refine sS ?_; intro Q' hn he hr) | refine sA ?_) | (refine sH ?_; clear hn he hr Q') | ((conv => whnf); first | refine sK ?_ | (refine sB ?_; repeat' (refine sb2 ?_ ?_ <;> intro hb <;> try exact cls)) | ((with_reducible refine isCall ?_); (refine call_pure (c_toLine x) rfl rfl ?_)) | ((with_reducible refine isRet ?_); (refine ret_pick [0] rfl rfl rfl ⟨rfl, ?_⟩)) | refine sP ?_ | (refine sE ?_; intro x hx) | (refine sL ?_; intro hlen) | (refine sH ?_; clear hn he hr Q')))
  · refine ⟨k + 1, by omega, by omega, ?_⟩
    refine weak_to rfl rfl ?_ ⟨rfl, rfl, rfl, trivial⟩
    rw [← fill_set _ _ _ hx]
    rfl
  · have h2 : k = a.length := by omega
    subst h2
    rw [← fill_all encLine zLine a]
    rfl
theorem c_eqLineS (a b : List (TLine)) : FnC Tryz.prog 46 G0 0 [] [.sl 3 (a.map encLine), .sl 3 (b.map encLine)] (fun d os => d = .bool (eqL eqTLine a b) ∧ os = []) := by
  refine fn_rule Tryz.func46 rfl (by decide +kernel) rfl (fun w0 F0 lent β0 => ?_)
  repeat' (first | refine sC ?_ | ((with_reducible refine isAwp ?_); first | (refine sS ?_; intro Q' hn he hr) | refine sA ?_) | (refine sH ?_; clear hn he hr Q') | ((conv => whnf); first | refine sK ?_ | (refine sB ?_; repeat' (refine sb2 ?_ ?_ <;> intro hb <;> try exact cls)) | (refine sL ?_; intro hlen) | (refine ret_pick [] rfl rfl rfl ⟨?_, rfl⟩; conv => lhs; whnf)))
  · rw [eqL_len hb]
  · refine loop_env (fun k : Nat => [(0,.sl 3 (a.map encLine)),(1,.sl 3 (b.map encLine)),(5,.int .i64 k)]) (fun _ => []) (fun k => k ≤ a.length ∧ eqTo eqTLine a b k) (fun k => a.length - k) 0 ⟨by omega, eqTo_zero⟩ (by refine weak_to rfl rfl rfl ?_; ((repeat' (first | exact trivial | refine And.intro ?_ ?_)) <;> (first | rfl | (conv => rhs; whnf) <;> (first | rfl | (refine congrArg (D.int _) ?_; omega))))) (fun k hk Q' hn he hr => ?_)
    repeat' (first | refine sC ?_ | ((with_reducible refine isAwp ?_); first | (refine sS ?_; intro Q' hn he hr) | refine sA ?_) | (refine sH ?_; clear hn he hr Q') | refine sO ?_ | ((conv => whnf); first | refine sK ?_ | (refine sB ?_; repeat' (refine sb2 ?_ ?_ <;> intro hb <;> try exact cls)) | ((with_reducible refine isCallQ ?_); (refine callQ_plain (.bool (eqTLine _ _)) (c_eqLine _ _) rfl (by rintro d os ⟨rfl, rfl⟩; rfl) ?_)) | refine sP ?_ | (refine sE ?_; intro x hx) | (refine sL ?_; intro hlen) | refine sD ?_ | (refine ret_pick [] rfl rfl rfl ⟨?_, rfl⟩; conv => lhs; whnf) | (refine sH ?_; clear hn he hr Q')))
    · rw [eqL_at ‹a[k]? = some _› ‹b[k]? = some _› hb]
    · exact ⟨k + 1, ⟨by omega, eqTo_succ hk.2 ‹a[k]? = some _› ‹b[k]? = some _› hb⟩, by omega, (by refine weak_to rfl rfl rfl ?_; ((repeat' (first | exact trivial | refine And.intro ?_ ?_)) <;> (first | rfl | (conv => rhs; whnf) <;> (first | rfl | (refine congrArg (D.int _) ?_; omega)))))⟩
    · rw [eqL_all (by omega) (fun j x y h => hk.2 j x y (by omega))]
theorem c_szMedia (x : TMedia) (left : Int) (h0 : 0 ≤ left) (h1 : left ≤ 1048576) : FnC Tryz.prog 62 G0 0 [] [.agg (encMedia x), .int .i64 left] (fun d os => d = .int .i64 (if x.sz ≤ left then left - x.sz else -1) ∧ os = []) := by
  refine fn_rule Tryz.func62 rfl (by decide +kernel) rfl (fun w0 F0 lent β0 => ?_)
  repeat' (first | refine sC ?_ | ((with_reducible refine isAwp ?_); first | (refine sS ?_; intro Q' hn he hr) | refine sA ?_) | (refine sH ?_; clear hn he hr Q') | ((conv => whnf); first | refine sK ?_ | (refine sB ?_; repeat' (refine sb2 ?_ ?_ <;> intro hb <;> try exact cls)) | refine sP ?_ | (refine sL ?_; intro hlen) | (refine ret_pick [] rfl rfl rfl ⟨?_, rfl⟩; conv => lhs; whnf)))
  all_goals simp only [TMedia.sz]
  all_goals (first | rfl | (refine congrArg (D.int _) ?_; first | rfl | omega | (split <;> omega)))
theorem c_toMedia (x : TMedia) : FnC Tryz.prog 84 G0 0 [] [.agg (encMedia x)] (fun d os => d = .agg (encMedia x) ∧ os = []) := by
  refine fn_rule Tryz.func84 rfl (by decide +kernel) rfl (fun w0 F0 lent β0 => ?_)
  repeat' (first | refine sC ?_ | ((with_reducible refine isAwp ?_); first | (refine sS ?_; intro Q' hn he hr) | refine sA ?_) | (refine sH ?_; clear hn he hr Q') | ((conv => whnf); first | refine sK ?_ | (refine ret_pick [] rfl rfl rfl ⟨?_, rfl⟩; conv => lhs; whnf)))
  all_goals rfl
theorem c_eqMedia (a b : TMedia) : FnC Tryz.prog 116 G0 0 [] [.agg (encMedia a), .agg (encMedia b)] (fun d os => d = .bool (eqTMedia a b) ∧ os = []) := by
  refine fn_rule Tryz.func116 rfl (by decide +kernel) rfl (fun w0 F0 lent β0 => ?_)
  repeat' (first | refine sC ?_ | ((with_reducible refine isAwp ?_); first | (refine sS ?_; intro Q' hn he hr) | refine sA ?_) | (refine sH ?_; clear hn he hr Q') | ((conv => whnf); first | refine sK ?_ | (refine sB ?_; repeat' (refine sb2 ?_ ?_ <;> intro hb <;> try exact cls)) | (refine ret_pick [] rfl rfl rfl ⟨?_, rfl⟩; conv => lhs; whnf)))
  all_goals simp_all [eqTMedia, eqI, eqStr, eqBo]
theorem c_szMediaS (a : List (TMedia)) (left : Int) (h0 : 0 ≤ left) (h1 : left ≤ 1048576) : FnC Tryz.prog 20 G0 0 [] [.sl 2 (a.map encMedia), .int .i64 left] (fun d os => d = .int .i64 (if szL TMedia.sz a ≤ left then left - szL TMedia.sz a else -1) ∧ os = []) := by
  have hz0 := szTo_zero TMedia.sz a
  have hmono : ∀ k, k ≤ a.length → szTo TMedia.sz a k ≤ szL TMedia.sz a := fun k h => szTo_mono _ h
  have hm0 := hmono 0 (Nat.zero_le _)
  refine fn_rule Tryz.func20 rfl (by decide +kernel) rfl (fun w0 F0 lent β0 => ?_)
  repeat' (first | refine sC ?_ | ((with_reducible refine isAwp ?_); first | (refine sS ?_; intro Q' hn he hr) | refine sA ?_) | (refine sH ?_; clear hn he hr Q') | ((conv => whnf); first | refine sK ?_ | (refine sB ?_; repeat' (refine sb2 ?_ ?_ <;> intro hb <;> try exact cls)) | refine sP ?_ | (refine sL ?_; intro hlen) | (refine ret_pick [] rfl rfl rfl ⟨?_, rfl⟩; conv => lhs; whnf)))
  · (first | rfl | (refine congrArg (D.int _) ?_; first | rfl | omega | (split <;> omega)))
  · refine loop_env (fun k : Nat => [(0,.sl 2 (a.map encMedia)),(1,.int .i64 (left - szTo TMedia.sz a k)),(5,.int .i64 k)]) (fun _ => []) (fun k => k ≤ a.length ∧ (szTo TMedia.sz a k : Int) ≤ left) (fun k => a.length - k) 0 ⟨by omega, by omega⟩ (by refine weak_to rfl rfl rfl ?_; ((repeat' (first | exact trivial | refine And.intro ?_ ?_)) <;> (first | rfl | (conv => rhs; whnf) <;> (first | rfl | (refine congrArg (D.int _) ?_; omega))))) (fun k hk Q' hn he hr => ?_)
    repeat' (first | refine sC ?_ | ((with_reducible refine isAwp ?_); first | (refine sS ?_; intro Q' hn he hr) | refine sA ?_) | (refine sH ?_; clear hn he hr Q') | ((conv => whnf); first | refine sK ?_ | (refine sB ?_; repeat' (refine sb2 ?_ ?_ <;> intro hb <;> try exact cls)) | ((with_reducible refine isCall ?_); (refine call_pure (c_szMedia x _ (by omega) (by omega)) rfl rfl ?_)) | refine sP ?_ | (refine sE ?_; intro x hx) | (refine sL ?_; intro hlen) | (refine ret_pick [] rfl rfl rfl ⟨?_, rfl⟩; conv => lhs; whnf) | (refine sH ?_; clear hn he hr Q')))
    · have h2 := hmono (k + 1) (by omega)
      rw [szTo_succ ‹a[k]? = some _›] at h2
      split at hb <;> (first | rfl | (refine congrArg (D.int _) ?_; first | rfl | omega | (split <;> omega)))
    · have h2 := szTo_succ (f := TMedia.sz) ‹a[k]? = some _›
      split at hb
      · rename_i h3
        refine ⟨k + 1, ⟨by omega, by omega⟩, by omega, ?_⟩
        rw [if_pos h3]
        exact (by refine weak_to rfl rfl rfl ?_; ((repeat' (first | exact trivial | refine And.intro ?_ ?_)) <;> (first | rfl | (conv => rhs; whnf) <;> (first | rfl | (refine congrArg (D.int _) ?_; omega)))))
      · omega
    · have h2 : k = a.length := by omega
      subst h2
      have h3 := szL_all TMedia.sz a
      (first | rfl | (refine congrArg (D.int _) ?_; first | rfl | omega | (split <;> omega)))
def zMedia : List D := [.str [], .int .i64 0]
theorem c_toMediaS (a : List (TMedia)) (hs : a.length ≤ 1048576) : FnC Tryz.prog 31 G0 0 [] [.sl 2 (a.map encMedia)] (fun d os => d = .h 0 ∧ os = [.row 139 2 (a.map encMedia)]) := by
  refine fn_rule Tryz.func31 rfl (by decide +kernel) rfl (fun w0 F0 lent β0 => ?_)
  repeat' (first | refine sC ?_ | ((with_reducible refine isAwp ?_); first | (refine sS ?_; intro Q' hn he hr) | refine sA ?_) | (refine sH ?_; clear hn he hr Q') | ((conv => whnf); first | refine sK ?_ | refine sP ?_ | (refine sL ?_; intro hlen)))
  refine loop_env (fun k : Nat => [(0,.sl 2 (a.map encMedia)),(3,.h 0),(4,.int .i64 k)]) (fun k => [.row 139 2 (fill encMedia zMedia a k)]) (fun k => k ≤ a.length) (fun k => a.length - k) 0 (by omega) (by refine weak_to rfl rfl ?_ ?_; rw [fill_zero]; rfl; exact ⟨rfl, rfl, rfl, trivial⟩) (fun k hk Q' hn he hr => ?_)
  repeat' (first | refine sC ?_ | ((with_reducible refine isAwp ?_); first | (refine sS ?_; intro Q' hn he hr) | refine sA ?_) | (refine sH ?_; clear hn he hr Q') | ((conv => whnf); first | refine sK ?_ | (refine sB ?_; repeat' (refine sb2 ?_ ?_ <;> intro hb <;> try exact cls)) | ((with_reducible refine isCall ?_); (refine call_pure (c_toMedia x) rfl rfl ?_)) | ((with_reducible refine isRet ?_); (refine ret_pick [0] rfl rfl rfl ⟨rfl, ?_⟩)) | refine sP ?_ | (refine sE ?_; intro x hx) | (refine sL ?_; intro hlen) | (refine sH ?_; clear hn he hr Q')))
  · refine ⟨k + 1, by omega, by omega, ?_⟩
    refine weak_to rfl rfl ?_ ⟨rfl, rfl, rfl, trivial⟩
    rw [← fill_set _ _ _ hx]
    rfl
  · have h2 : k = a.length := by omega
    subst h2
    rw [← fill_all encMedia zMedia a]
    rfl
theorem c_eqMediaS (a b : List (TMedia)) : FnC Tryz.prog 47 G0 0 [] [.sl 2 (a.map encMedia), .sl 2 (b.map encMedia)] (fun d os => d = .bool (eqL eqTMedia a b) ∧ os = []) := by
  refine fn_rule Tryz.func47 rfl (by decide +kernel) rfl (fun w0 F0 lent β0 => ?_)
  repeat' (first | refine sC ?_ | ((with_reducible refine isAwp ?_); first | (refine sS ?_; intro Q' hn he hr) | refine sA ?_) | (refine sH ?_; clear hn he hr Q') | ((conv => whnf); first | refine sK ?_ | (refine sB ?_; repeat' (refine sb2 ?_ ?_ <;> intro hb <;> try exact cls)) | (refine sL ?_; intro hlen) | (refine ret_pick [] rfl rfl rfl ⟨?_, rfl⟩; conv => lhs; whnf)))
  · rw [eqL_len hb]
  · refine loop_env (fun k : Nat => [(0,.sl 2 (a.map encMedia)),(1,.sl 2 (b.map encMedia)),(5,.int .i64 k)]) (fun _ => []) (fun k => k ≤ a.length ∧ eqTo eqTMedia a b k) (fun k => a.length - k) 0 ⟨by omega, eqTo_zero⟩ (by refine weak_to rfl rfl rfl ?_; ((repeat' (first | exact trivial | refine And.intro ?_ ?_)) <;> (first | rfl | (conv => rhs; whnf) <;> (first | rfl | (refine congrArg (D.int _) ?_; omega))))) (fun k hk Q' hn he hr => ?_)
    repeat' (first | refine sC ?_ | ((with_reducible refine isAwp ?_); first | (refine sS ?_; intro Q' hn he hr) | refine sA ?_) | (refine sH ?_; clear hn he hr Q') | refine sO ?_ | ((conv => whnf); first | refine sK ?_ | (refine sB ?_; repeat' (refine sb2 ?_ ?_ <;> intro hb <;> try exact cls)) | ((with_reducible refine isCallQ ?_); (refine callQ_plain (.bool (eqTMedia _ _)) (c_eqMedia _ _) rfl (by rintro d os ⟨rfl, rfl⟩; rfl) ?_)) | refine sP ?_ | (refine sE ?_; intro x hx) | (refine sL ?_; intro hlen) | refine sD ?_ | (refine ret_pick [] rfl rfl rfl ⟨?_, rfl⟩; conv => lhs; whnf) | (refine sH ?_; clear hn he hr Q')))
    · rw [eqL_at ‹a[k]? = some _› ‹b[k]? = some _› hb]
    · exact ⟨k + 1, ⟨by omega, eqTo_succ hk.2 ‹a[k]? = some _› ‹b[k]? = some _› hb⟩, by omega, (by refine weak_to rfl rfl rfl ?_; ((repeat' (first | exact trivial | refine And.intro ?_ ?_)) <;> (first | rfl | (conv => rhs; whnf) <;> (first | rfl | (refine congrArg (D.int _) ?_; omega)))))⟩
    · rw [eqL_all (by omega) (fun j x y h => hk.2 j x y (by omega))]
theorem c_szNeed (x : TNeed) (left : Int) (h0 : 0 ≤ left) (h1 : left ≤ 1048576) : FnC Tryz.prog 63 G0 0 [] [.agg (encNeed x), .int .i64 left] (fun d os => d = .int .i64 (if x.sz ≤ left then left - x.sz else -1) ∧ os = []) := by
  refine fn_rule Tryz.func63 rfl (by decide +kernel) rfl (fun w0 F0 lent β0 => ?_)
  repeat' (first | refine sC ?_ | ((with_reducible refine isAwp ?_); first | (refine sS ?_; intro Q' hn he hr) | refine sA ?_) | (refine sH ?_; clear hn he hr Q') | ((conv => whnf); first | refine sK ?_ | (refine sB ?_; repeat' (refine sb2 ?_ ?_ <;> intro hb <;> try exact cls)) | refine sP ?_ | (refine sL ?_; intro hlen) | (refine ret_pick [] rfl rfl rfl ⟨?_, rfl⟩; conv => lhs; whnf)))
  all_goals simp only [TNeed.sz]
  all_goals (first | rfl | (refine congrArg (D.int _) ?_; first | rfl | omega | (split <;> omega)))
theorem c_toNeed (x : TNeed) : FnC Tryz.prog 85 G0 0 [] [.agg (encNeed x)] (fun d os => d = .agg (encNeed x) ∧ os = []) := by
  refine fn_rule Tryz.func85 rfl (by decide +kernel) rfl (fun w0 F0 lent β0 => ?_)
  repeat' (first | refine sC ?_ | ((with_reducible refine isAwp ?_); first | (refine sS ?_; intro Q' hn he hr) | refine sA ?_) | (refine sH ?_; clear hn he hr Q') | ((conv => whnf); first | refine sK ?_ | (refine ret_pick [] rfl rfl rfl ⟨?_, rfl⟩; conv => lhs; whnf)))
  all_goals rfl
theorem c_eqNeed (a b : TNeed) : FnC Tryz.prog 117 G0 0 [] [.agg (encNeed a), .agg (encNeed b)] (fun d os => d = .bool (eqTNeed a b) ∧ os = []) := by
  refine fn_rule Tryz.func117 rfl (by decide +kernel) rfl (fun w0 F0 lent β0 => ?_)
  repeat' (first | refine sC ?_ | ((with_reducible refine isAwp ?_); first | (refine sS ?_; intro Q' hn he hr) | refine sA ?_) | (refine sH ?_; clear hn he hr Q') | ((conv => whnf); first | refine sK ?_ | (refine sB ?_; repeat' (refine sb2 ?_ ?_ <;> intro hb <;> try exact cls)) | (refine ret_pick [] rfl rfl rfl ⟨?_, rfl⟩; conv => lhs; whnf)))
  all_goals simp_all [eqTNeed, eqI, eqStr, eqBo]
theorem c_szNeedS (a : List (TNeed)) (left : Int) (h0 : 0 ≤ left) (h1 : left ≤ 1048576) : FnC Tryz.prog 21 G0 0 [] [.sl 2 (a.map encNeed), .int .i64 left] (fun d os => d = .int .i64 (if szL TNeed.sz a ≤ left then left - szL TNeed.sz a else -1) ∧ os = []) := by
  have hz0 := szTo_zero TNeed.sz a
  have hmono : ∀ k, k ≤ a.length → szTo TNeed.sz a k ≤ szL TNeed.sz a := fun k h => szTo_mono _ h
  have hm0 := hmono 0 (Nat.zero_le _)
  refine fn_rule Tryz.func21 rfl (by decide +kernel) rfl (fun w0 F0 lent β0 => ?_)
  repeat' (first | refine sC ?_ | ((with_reducible refine isAwp ?_); first | (refine sS ?_; intro Q' hn he hr) | refine sA ?_) | (refine sH ?_; clear hn he hr Q') | ((conv => whnf); first | refine sK ?_ | (refine sB ?_; repeat' (refine sb2 ?_ ?_ <;> intro hb <;> try exact cls)) | refine sP ?_ | (refine sL ?_; intro hlen) | (refine ret_pick [] rfl rfl rfl ⟨?_, rfl⟩; conv => lhs; whnf)))
  · (first | rfl | (refine congrArg (D.int _) ?_; first | rfl | omega | (split <;> omega)))
  · refine loop_env (fun k : Nat => [(0,.sl 2 (a.map encNeed)),(1,.int .i64 (left - szTo TNeed.sz a k)),(5,.int .i64 k)]) (fun _ => []) (fun k => k ≤ a.length ∧ (szTo TNeed.sz a k : Int) ≤ left) (fun k => a.length - k) 0 ⟨by omega, by omega⟩ (by refine weak_to rfl rfl rfl ?_; ((repeat' (first | exact trivial | refine And.intro ?_ ?_)) <;> (first | rfl | (conv => rhs; whnf) <;> (first | rfl | (refine congrArg (D.int _) ?_; omega))))) (fun k hk Q' hn he hr => ?_)
    repeat' (first | refine sC ?_ | ((with_reducible refine isAwp ?_); first | (refine sS ?_; intro Q' hn he hr) | refine sA ?_) | (refine sH ?_; clear hn he hr Q') | ((conv => whnf); first | refine sK ?_ | (refine sB ?_; repeat' (refine sb2 ?_ ?_ <;> intro hb <;> try exact cls)) | ((with_reducible refine isCall ?_); (refine call_pure (c_szNeed x _ (by omega) (by omega)) rfl rfl ?_)) | refine sP ?_ | (refine sE ?_; intro x hx) | (refine sL ?_; intro hlen) | (refine ret_pick [] rfl rfl rfl ⟨?_, rfl⟩; conv => lhs; whnf) | (refine sH ?_; clear hn he hr Q')))
    · have h2 := hmono (k + 1) (by omega)
      rw [szTo_succ ‹a[k]? = some _›] at h2
      split at hb <;> (first | rfl | (refine congrArg (D.int _) ?_; first | rfl | omega | (split <;> omega)))
    · have h2 := szTo_succ (f := TNeed.sz) ‹a[k]? = some _›
      split at hb
      · rename_i h3
        refine ⟨k + 1, ⟨by omega, by omega⟩, by omega, ?_⟩
        rw [if_pos h3]
        exact (by refine weak_to rfl rfl rfl ?_; ((repeat' (first | exact trivial | refine And.intro ?_ ?_)) <;> (first | rfl | (conv => rhs; whnf) <;> (first | rfl | (refine congrArg (D.int _) ?_; omega)))))
      · omega
    · have h2 : k = a.length := by omega
      subst h2
      have h3 := szL_all TNeed.sz a
      (first | rfl | (refine congrArg (D.int _) ?_; first | rfl | omega | (split <;> omega)))
def zNeed : List D := [.str [], .int .i64 0]
theorem c_toNeedS (a : List (TNeed)) (hs : a.length ≤ 1048576) : FnC Tryz.prog 32 G0 0 [] [.sl 2 (a.map encNeed)] (fun d os => d = .h 0 ∧ os = [.row 141 2 (a.map encNeed)]) := by
  refine fn_rule Tryz.func32 rfl (by decide +kernel) rfl (fun w0 F0 lent β0 => ?_)
  repeat' (first | refine sC ?_ | ((with_reducible refine isAwp ?_); first | (refine sS ?_; intro Q' hn he hr) | refine sA ?_) | (refine sH ?_; clear hn he hr Q') | ((conv => whnf); first | refine sK ?_ | refine sP ?_ | (refine sL ?_; intro hlen)))
  refine loop_env (fun k : Nat => [(0,.sl 2 (a.map encNeed)),(3,.h 0),(4,.int .i64 k)]) (fun k => [.row 141 2 (fill encNeed zNeed a k)]) (fun k => k ≤ a.length) (fun k => a.length - k) 0 (by omega) (by refine weak_to rfl rfl ?_ ?_; rw [fill_zero]; rfl; exact ⟨rfl, rfl, rfl, trivial⟩) (fun k hk Q' hn he hr => ?_)
  repeat' (first | refine sC ?_ | ((with_reducible refine isAwp ?_); first | (refine sS ?_; intro Q' hn he hr) | refine sA ?_) | (refine sH ?_; clear hn he hr Q') | ((conv => whnf); first | refine sK ?_ | (refine sB ?_; repeat' (refine sb2 ?_ ?_ <;> intro hb <;> try exact cls)) | ((with_reducible refine isCall ?_); (refine call_pure (c_toNeed x) rfl rfl ?_)) | ((with_reducible refine isRet ?_); (refine ret_pick [0] rfl rfl rfl ⟨rfl, ?_⟩)) | refine sP ?_ | (refine sE ?_; intro x hx) | (refine sL ?_; intro hlen) | (refine sH ?_; clear hn he hr Q')))
  · refine ⟨k + 1, by omega, by omega, ?_⟩
    refine weak_to rfl rfl ?_ ⟨rfl, rfl, rfl, trivial⟩
    rw [← fill_set _ _ _ hx]
    rfl
  · have h2 : k = a.length := by omega
    subst h2
    rw [← fill_all encNeed zNeed a]
    rfl
theorem c_eqNeedS (a b : List (TNeed)) : FnC Tryz.prog 48 G0 0 [] [.sl 2 (a.map encNeed), .sl 2 (b.map encNeed)] (fun d os => d = .bool (eqL eqTNeed a b) ∧ os = []) := by
  refine fn_rule Tryz.func48 rfl (by decide +kernel) rfl (fun w0 F0 lent β0 => ?_)
  repeat' (first | refine sC ?_ | ((with_reducible refine isAwp ?_); first | (refine sS ?_; intro Q' hn he hr) | refine sA ?_) | (refine sH ?_; clear hn he hr Q') | ((conv => whnf); first | refine sK ?_ | (refine sB ?_; repeat' (refine sb2 ?_ ?_ <;> intro hb <;> try exact cls)) | (refine sL ?_; intro hlen) | (refine ret_pick [] rfl rfl rfl ⟨?_, rfl⟩; conv => lhs; whnf)))
  · rw [eqL_len hb]
  · refine loop_env (fun k : Nat => [(0,.sl 2 (a.map encNeed)),(1,.sl 2 (b.map encNeed)),(5,.int .i64 k)]) (fun _ => []) (fun k => k ≤ a.length ∧ eqTo eqTNeed a b k) (fun k => a.length - k) 0 ⟨by omega, eqTo_zero⟩ (by refine weak_to rfl rfl rfl ?_; ((repeat' (first | exact trivial | refine And.intro ?_ ?_)) <;> (first | rfl | (conv => rhs; whnf) <;> (first | rfl | (refine congrArg (D.int _) ?_; omega))))) (fun k hk Q' hn he hr => ?_)
    repeat' (first | refine sC ?_ | ((with_reducible refine isAwp ?_); first | (refine sS ?_; intro Q' hn he hr) | refine sA ?_) | (refine sH ?_; clear hn he hr Q') | refine sO ?_ | ((conv => whnf); first | refine sK ?_ | (refine sB ?_; repeat' (refine sb2 ?_ ?_ <;> intro hb <;> try exact cls)) | ((with_reducible refine isCallQ ?_); (refine callQ_plain (.bool (eqTNeed _ _)) (c_eqNeed _ _) rfl (by rintro d os ⟨rfl, rfl⟩; rfl) ?_)) | refine sP ?_ | (refine sE ?_; intro x hx) | (refine sL ?_; intro hlen) | refine sD ?_ | (refine ret_pick [] rfl rfl rfl ⟨?_, rfl⟩; conv => lhs; whnf) | (refine sH ?_; clear hn he hr Q')))
    · rw [eqL_at ‹a[k]? = some _› ‹b[k]? = some _› hb]
    · exact ⟨k + 1, ⟨by omega, eqTo_succ hk.2 ‹a[k]? = some _› ‹b[k]? = some _› hb⟩, by omega, (by refine weak_to rfl rfl rfl ?_; ((repeat' (first | exact trivial | refine And.intro ?_ ?_)) <;> (first | rfl | (conv => rhs; whnf) <;> (first | rfl | (refine congrArg (D.int _) ?_; omega)))))⟩
    · rw [eqL_all (by omega) (fun j x y h => hk.2 j x y (by omega))]
end Go.Eng

namespace Go.Eng
open Go Go.RowKit Go.Proofs
set_option maxRecDepth 100000
theorem c_szHouse (x : THouse) (left : Int) (h0 : 0 ≤ left) (h1 : left ≤ 1048576) : FnC Tryz.prog 4 G0 0 [] [.agg (encHouse x), .int .i64 left] (fun d os => (∃ n : Int, d = .int .i64 n ∧ ((x.sz : Int) ≤ left ∧ n = left - x.sz ∨ left < x.sz ∧ n = -1)) ∧ os = []) := by
  refine fn_rule Tryz.func4 rfl (by decide +kernel) rfl (fun w0 F0 lent β0 => ?_)
  repeat' (first | refine sC ?_ | ((with_reducible refine isAwp ?_); first | (refine sS ?_; intro Q' hn he hr) | refine sA ?_) | (refine sH ?_; clear hn he hr Q') | ((conv => whnf); first | refine sK ?_ | (refine sB ?_; repeat' (refine sb2 ?_ ?_ <;> intro hb <;> try exact cls)) | ((with_reducible refine isCall ?_); first | (refine call_some (szSome (c_szDome x.fDome _ (by omega) (by omega))) rfl ?_; rintro d9 ⟨n9, rfl, hs9⟩; refine ⟨rfl, ?_⟩) | (refine call_some (szSome (c_szProjectorS x.fProjectors _ (by omega) (by omega))) rfl ?_; rintro d9 ⟨n9, rfl, hs9⟩; refine ⟨rfl, ?_⟩) | (refine call_some (szSome (c_szRingS x.fRings _ (by omega) (by omega))) rfl ?_; rintro d9 ⟨n9, rfl, hs9⟩; refine ⟨rfl, ?_⟩) | (refine call_some (szSome (c_szInt64S x.fBooked _ (by omega) (by omega))) rfl ?_; rintro d9 ⟨n9, rfl, hs9⟩; refine ⟨rfl, ?_⟩) | (refine call_some (szSome (c_szFixtureS x.fFixtures _ (by omega) (by omega))) rfl ?_; rintro d9 ⟨n9, rfl, hs9⟩; refine ⟨rfl, ?_⟩) | (refine call_some (szSome (c_szCueS x.fCues _ (by omega) (by omega))) rfl ?_; rintro d9 ⟨n9, rfl, hs9⟩; refine ⟨rfl, ?_⟩) | (refine call_some (szSome (c_szLineS x.fScript _ (by omega) (by omega))) rfl ?_; rintro d9 ⟨n9, rfl, hs9⟩; refine ⟨rfl, ?_⟩) | (refine call_some (szSome (c_szMediaS x.fMedia _ (by omega) (by omega))) rfl ?_; rintro d9 ⟨n9, rfl, hs9⟩; refine ⟨rfl, ?_⟩) | (refine call_some (szSome (c_szNeedS x.fNeeds _ (by omega) (by omega))) rfl ?_; rintro d9 ⟨n9, rfl, hs9⟩; refine ⟨rfl, ?_⟩)) | ((with_reducible refine isRet ?_); (refine ret_pick [] rfl rfl rfl ⟨⟨_, rfl, ?_⟩, rfl⟩))))
  all_goals first | exact .inr ⟨by simp only [THouse.sz]; omega, rfl⟩ | exact .inl ⟨by simp only [THouse.sz]; omega, by simp only [THouse.sz]; omega⟩
end Go.Eng

namespace Go.Eng
open Go Go.RowKit Go.Proofs
set_option maxRecDepth 100000
def hHouse (x : THouse) : List D := [.str x.fDome.fName, .int .i64 x.fDome.fRadius, .int .i64 x.fDome.fTilt, .h 0, .int .i64 x.fStep, .h 1, .h 2, .int .i64 x.fLeast, .h 3, .h 4, .h 5, .int .i64 x.fBudget, .h 6, .h 7, .int .i64 x.fBandwidth]
def rHouse (x : THouse) : List Obj := [.row 127 5 (x.fProjectors.map encProjector), .row 130 5 (x.fRings.map encRing), .row 2 1 (x.fBooked.map encI), .row 133 4 (x.fFixtures.map encFixture), .row 135 6 (x.fCues.map encCue), .row 137 3 (x.fScript.map encLine), .row 139 2 (x.fMedia.map encMedia), .row 141 2 (x.fNeeds.map encNeed)]
theorem lenHouse (x : THouse) : x.fProjectors.length ≤ x.sz ∧ x.fRings.length ≤ x.sz ∧ x.fBooked.length ≤ x.sz ∧ x.fFixtures.length ≤ x.sz ∧ x.fCues.length ≤ x.sz ∧ x.fScript.length ≤ x.sz ∧ x.fMedia.length ≤ x.sz ∧ x.fNeeds.length ≤ x.sz := by
  simp only [THouse.sz]
  have h0 := szL_len TProjector.sz x.fProjectors
  have h1 := szL_len noSz x.fRings
  have h2 := szL_len noSz x.fBooked
  have h3 := szL_len TFixture.sz x.fFixtures
  have h4 := szL_len TCue.sz x.fCues
  have h5 := szL_len TLine.sz x.fScript
  have h6 := szL_len TMedia.sz x.fMedia
  have h7 := szL_len TNeed.sz x.fNeeds
  omega
theorem c_toHouse (x : THouse) (hx : x.sz ≤ 1048576) : FnC Tryz.prog 6 G0 0 [] [.agg (encHouse x)] (fun d os => d = .agg (hHouse x) ∧ os = rHouse x) := by
  have hlen := lenHouse x
  refine fn_rule Tryz.func6 rfl (by decide +kernel) rfl (fun w0 F0 lent β0 => ?_)
  repeat' (first | refine sC ?_ | ((with_reducible refine isAwp ?_); first | (refine sS ?_; intro Q' hn he hr) | refine sA ?_) | (refine sH ?_; clear hn he hr Q') | ((conv => whnf); first | refine sK ?_ | ((with_reducible refine isCall ?_); first | (refine call_pure (c_toDome x.fDome) rfl rfl ?_) | (refine call_mk (c_toProjectorS x.fProjectors (by omega)) rfl (by first | exact (rfl : _ = 0) | exact (rfl : _ = 1) | exact (rfl : _ = 2) | exact (rfl : _ = 3) | exact (rfl : _ = 4) | exact (rfl : _ = 5) | exact (rfl : _ = 6) | exact (rfl : _ = 7) | exact (rfl : _ = 8) | exact (rfl : _ = 9) | exact (rfl : _ = 10) | exact (rfl : _ = 11) | exact (rfl : _ = 12) | exact (rfl : _ = 13) | exact (rfl : _ = 14) | exact (rfl : _ = 15) | exact (rfl : _ = 16) | exact (rfl : _ = 17) | exact (rfl : _ = 18) | exact (rfl : _ = 19) | exact (rfl : _ = 20) | exact (rfl : _ = 21) | exact (rfl : _ = 22) | exact (rfl : _ = 23) | exact (rfl : _ = 24) | exact (rfl : _ = 25) | exact (rfl : _ = 26) | exact (rfl : _ = 27) | exact (rfl : _ = 28) | exact (rfl : _ = 29) | exact (rfl : _ = 30) | exact (rfl : _ = 31) | exact (rfl : _ = 32) | exact (rfl : _ = 33) | exact (rfl : _ = 34) | exact (rfl : _ = 35) | exact (rfl : _ = 36) | exact (rfl : _ = 37) | exact (rfl : _ = 38) | exact (rfl : _ = 39)) ?_) | (refine call_mk (c_toRingS x.fRings (by omega)) rfl (by first | exact (rfl : _ = 0) | exact (rfl : _ = 1) | exact (rfl : _ = 2) | exact (rfl : _ = 3) | exact (rfl : _ = 4) | exact (rfl : _ = 5) | exact (rfl : _ = 6) | exact (rfl : _ = 7) | exact (rfl : _ = 8) | exact (rfl : _ = 9) | exact (rfl : _ = 10) | exact (rfl : _ = 11) | exact (rfl : _ = 12) | exact (rfl : _ = 13) | exact (rfl : _ = 14) | exact (rfl : _ = 15) | exact (rfl : _ = 16) | exact (rfl : _ = 17) | exact (rfl : _ = 18) | exact (rfl : _ = 19) | exact (rfl : _ = 20) | exact (rfl : _ = 21) | exact (rfl : _ = 22) | exact (rfl : _ = 23) | exact (rfl : _ = 24) | exact (rfl : _ = 25) | exact (rfl : _ = 26) | exact (rfl : _ = 27) | exact (rfl : _ = 28) | exact (rfl : _ = 29) | exact (rfl : _ = 30) | exact (rfl : _ = 31) | exact (rfl : _ = 32) | exact (rfl : _ = 33) | exact (rfl : _ = 34) | exact (rfl : _ = 35) | exact (rfl : _ = 36) | exact (rfl : _ = 37) | exact (rfl : _ = 38) | exact (rfl : _ = 39)) ?_) | (refine call_mk (c_toInt64S x.fBooked (by omega)) rfl (by first | exact (rfl : _ = 0) | exact (rfl : _ = 1) | exact (rfl : _ = 2) | exact (rfl : _ = 3) | exact (rfl : _ = 4) | exact (rfl : _ = 5) | exact (rfl : _ = 6) | exact (rfl : _ = 7) | exact (rfl : _ = 8) | exact (rfl : _ = 9) | exact (rfl : _ = 10) | exact (rfl : _ = 11) | exact (rfl : _ = 12) | exact (rfl : _ = 13) | exact (rfl : _ = 14) | exact (rfl : _ = 15) | exact (rfl : _ = 16) | exact (rfl : _ = 17) | exact (rfl : _ = 18) | exact (rfl : _ = 19) | exact (rfl : _ = 20) | exact (rfl : _ = 21) | exact (rfl : _ = 22) | exact (rfl : _ = 23) | exact (rfl : _ = 24) | exact (rfl : _ = 25) | exact (rfl : _ = 26) | exact (rfl : _ = 27) | exact (rfl : _ = 28) | exact (rfl : _ = 29) | exact (rfl : _ = 30) | exact (rfl : _ = 31) | exact (rfl : _ = 32) | exact (rfl : _ = 33) | exact (rfl : _ = 34) | exact (rfl : _ = 35) | exact (rfl : _ = 36) | exact (rfl : _ = 37) | exact (rfl : _ = 38) | exact (rfl : _ = 39)) ?_) | (refine call_mk (c_toFixtureS x.fFixtures (by omega)) rfl (by first | exact (rfl : _ = 0) | exact (rfl : _ = 1) | exact (rfl : _ = 2) | exact (rfl : _ = 3) | exact (rfl : _ = 4) | exact (rfl : _ = 5) | exact (rfl : _ = 6) | exact (rfl : _ = 7) | exact (rfl : _ = 8) | exact (rfl : _ = 9) | exact (rfl : _ = 10) | exact (rfl : _ = 11) | exact (rfl : _ = 12) | exact (rfl : _ = 13) | exact (rfl : _ = 14) | exact (rfl : _ = 15) | exact (rfl : _ = 16) | exact (rfl : _ = 17) | exact (rfl : _ = 18) | exact (rfl : _ = 19) | exact (rfl : _ = 20) | exact (rfl : _ = 21) | exact (rfl : _ = 22) | exact (rfl : _ = 23) | exact (rfl : _ = 24) | exact (rfl : _ = 25) | exact (rfl : _ = 26) | exact (rfl : _ = 27) | exact (rfl : _ = 28) | exact (rfl : _ = 29) | exact (rfl : _ = 30) | exact (rfl : _ = 31) | exact (rfl : _ = 32) | exact (rfl : _ = 33) | exact (rfl : _ = 34) | exact (rfl : _ = 35) | exact (rfl : _ = 36) | exact (rfl : _ = 37) | exact (rfl : _ = 38) | exact (rfl : _ = 39)) ?_) | (refine call_mk (c_toCueS x.fCues (by omega)) rfl (by first | exact (rfl : _ = 0) | exact (rfl : _ = 1) | exact (rfl : _ = 2) | exact (rfl : _ = 3) | exact (rfl : _ = 4) | exact (rfl : _ = 5) | exact (rfl : _ = 6) | exact (rfl : _ = 7) | exact (rfl : _ = 8) | exact (rfl : _ = 9) | exact (rfl : _ = 10) | exact (rfl : _ = 11) | exact (rfl : _ = 12) | exact (rfl : _ = 13) | exact (rfl : _ = 14) | exact (rfl : _ = 15) | exact (rfl : _ = 16) | exact (rfl : _ = 17) | exact (rfl : _ = 18) | exact (rfl : _ = 19) | exact (rfl : _ = 20) | exact (rfl : _ = 21) | exact (rfl : _ = 22) | exact (rfl : _ = 23) | exact (rfl : _ = 24) | exact (rfl : _ = 25) | exact (rfl : _ = 26) | exact (rfl : _ = 27) | exact (rfl : _ = 28) | exact (rfl : _ = 29) | exact (rfl : _ = 30) | exact (rfl : _ = 31) | exact (rfl : _ = 32) | exact (rfl : _ = 33) | exact (rfl : _ = 34) | exact (rfl : _ = 35) | exact (rfl : _ = 36) | exact (rfl : _ = 37) | exact (rfl : _ = 38) | exact (rfl : _ = 39)) ?_) | (refine call_mk (c_toLineS x.fScript (by omega)) rfl (by first | exact (rfl : _ = 0) | exact (rfl : _ = 1) | exact (rfl : _ = 2) | exact (rfl : _ = 3) | exact (rfl : _ = 4) | exact (rfl : _ = 5) | exact (rfl : _ = 6) | exact (rfl : _ = 7) | exact (rfl : _ = 8) | exact (rfl : _ = 9) | exact (rfl : _ = 10) | exact (rfl : _ = 11) | exact (rfl : _ = 12) | exact (rfl : _ = 13) | exact (rfl : _ = 14) | exact (rfl : _ = 15) | exact (rfl : _ = 16) | exact (rfl : _ = 17) | exact (rfl : _ = 18) | exact (rfl : _ = 19) | exact (rfl : _ = 20) | exact (rfl : _ = 21) | exact (rfl : _ = 22) | exact (rfl : _ = 23) | exact (rfl : _ = 24) | exact (rfl : _ = 25) | exact (rfl : _ = 26) | exact (rfl : _ = 27) | exact (rfl : _ = 28) | exact (rfl : _ = 29) | exact (rfl : _ = 30) | exact (rfl : _ = 31) | exact (rfl : _ = 32) | exact (rfl : _ = 33) | exact (rfl : _ = 34) | exact (rfl : _ = 35) | exact (rfl : _ = 36) | exact (rfl : _ = 37) | exact (rfl : _ = 38) | exact (rfl : _ = 39)) ?_) | (refine call_mk (c_toMediaS x.fMedia (by omega)) rfl (by first | exact (rfl : _ = 0) | exact (rfl : _ = 1) | exact (rfl : _ = 2) | exact (rfl : _ = 3) | exact (rfl : _ = 4) | exact (rfl : _ = 5) | exact (rfl : _ = 6) | exact (rfl : _ = 7) | exact (rfl : _ = 8) | exact (rfl : _ = 9) | exact (rfl : _ = 10) | exact (rfl : _ = 11) | exact (rfl : _ = 12) | exact (rfl : _ = 13) | exact (rfl : _ = 14) | exact (rfl : _ = 15) | exact (rfl : _ = 16) | exact (rfl : _ = 17) | exact (rfl : _ = 18) | exact (rfl : _ = 19) | exact (rfl : _ = 20) | exact (rfl : _ = 21) | exact (rfl : _ = 22) | exact (rfl : _ = 23) | exact (rfl : _ = 24) | exact (rfl : _ = 25) | exact (rfl : _ = 26) | exact (rfl : _ = 27) | exact (rfl : _ = 28) | exact (rfl : _ = 29) | exact (rfl : _ = 30) | exact (rfl : _ = 31) | exact (rfl : _ = 32) | exact (rfl : _ = 33) | exact (rfl : _ = 34) | exact (rfl : _ = 35) | exact (rfl : _ = 36) | exact (rfl : _ = 37) | exact (rfl : _ = 38) | exact (rfl : _ = 39)) ?_) | (refine call_mk (c_toNeedS x.fNeeds (by omega)) rfl (by first | exact (rfl : _ = 0) | exact (rfl : _ = 1) | exact (rfl : _ = 2) | exact (rfl : _ = 3) | exact (rfl : _ = 4) | exact (rfl : _ = 5) | exact (rfl : _ = 6) | exact (rfl : _ = 7) | exact (rfl : _ = 8) | exact (rfl : _ = 9) | exact (rfl : _ = 10) | exact (rfl : _ = 11) | exact (rfl : _ = 12) | exact (rfl : _ = 13) | exact (rfl : _ = 14) | exact (rfl : _ = 15) | exact (rfl : _ = 16) | exact (rfl : _ = 17) | exact (rfl : _ = 18) | exact (rfl : _ = 19) | exact (rfl : _ = 20) | exact (rfl : _ = 21) | exact (rfl : _ = 22) | exact (rfl : _ = 23) | exact (rfl : _ = 24) | exact (rfl : _ = 25) | exact (rfl : _ = 26) | exact (rfl : _ = 27) | exact (rfl : _ = 28) | exact (rfl : _ = 29) | exact (rfl : _ = 30) | exact (rfl : _ = 31) | exact (rfl : _ = 32) | exact (rfl : _ = 33) | exact (rfl : _ = 34) | exact (rfl : _ = 35) | exact (rfl : _ = 36) | exact (rfl : _ = 37) | exact (rfl : _ = 38) | exact (rfl : _ = 39)) ?_)) | ((with_reducible refine isRet ?_); (first | refine ret_pick [3, 4, 5, 6, 7, 8, 9, 10] rfl rfl rfl ⟨rfl, ?_⟩ | refine ret_pick [2, 3, 4, 5, 6, 7, 8, 9] rfl rfl rfl ⟨rfl, ?_⟩ | refine ret_pick [1, 2, 3, 4, 5, 6, 7, 8] rfl rfl rfl ⟨rfl, ?_⟩ | refine ret_pick [0, 1, 2, 3, 4, 5, 6, 7] rfl rfl rfl ⟨rfl, ?_⟩ | refine ret_pick [4, 5, 6, 7, 8, 9, 10, 11] rfl rfl rfl ⟨rfl, ?_⟩))))
  all_goals rfl
end Go.Eng

namespace Go.Eng
open Go Go.RowKit Go.Proofs
set_option maxRecDepth 100000
theorem c_eqHouse (a b : THouse) : FnC Tryz.prog 9 G0 0 [] [.agg (encHouse a), .agg (encHouse b)] (fun d os => d = .bool (eqTHouse a b) ∧ os = []) := by
  refine fn_rule Tryz.func9 rfl (by decide +kernel) rfl (fun w0 F0 lent β0 => ?_)
  repeat' (first | refine sC ?_ | ((with_reducible refine isAwp ?_); first | (refine sS ?_; intro Q' hn he hr) | refine sA ?_) | (refine sH ?_; clear hn he hr Q') | ((conv => whnf); first | refine sK ?_ | (refine sB ?_; repeat' (refine sb2 ?_ ?_ <;> intro hb <;> try exact cls)) | ((with_reducible refine isCall ?_); first | (refine call_pure (c_eqDome a.fDome b.fDome) rfl rfl ?_) | (refine call_pure (c_eqProjectorS a.fProjectors b.fProjectors) rfl rfl ?_) | (refine call_pure (c_eqRingS a.fRings b.fRings) rfl rfl ?_) | (refine call_pure (c_eqInt64S a.fBooked b.fBooked) rfl rfl ?_) | (refine call_pure (c_eqFixtureS a.fFixtures b.fFixtures) rfl rfl ?_) | (refine call_pure (c_eqCueS a.fCues b.fCues) rfl rfl ?_) | (refine call_pure (c_eqLineS a.fScript b.fScript) rfl rfl ?_) | (refine call_pure (c_eqMediaS a.fMedia b.fMedia) rfl rfl ?_) | (refine call_pure (c_eqNeedS a.fNeeds b.fNeeds) rfl rfl ?_)) | (refine ret_pick [] rfl rfl rfl ⟨?_, rfl⟩; conv => lhs; whnf)))
  all_goals (first | (simp_all [eqTHouse, eqI, eqStr, eqBo]; done) | (simp_all [eqTHouse, eqI, eqStr, eqBo]; rfl))
end Go.Eng
