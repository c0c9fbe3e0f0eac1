/-
  Marks of texts, lists of numbers and of texts: what the scaffolding functions do.
  No conditions.
-/
import Derived.Test.YtigdnelbanaieaaGreatDoorED
import Derived.Test.YtigdnelbanaieaaGreatDoorEC
import Derived.Test.YtigdnelbanaieaaGreatDoorProg
set_option linter.unusedVariables false
set_option linter.unusedSimpArgs false
set_option maxHeartbeats 4000000
namespace Go.Eng
open Go Go.RowKit Go.Proofs
set_option maxRecDepth 100000

theorem c_markText (k : Int) (h : k ≤ 9223372036854775807) : FnC Tryz.prog 57 G0 0 [] [.int .i64 k] (fun d os => d = .str (mtext k) ∧ os = []) := by
  refine fn_rule Tryz.func57 rfl (by decide +kernel) rfl (fun w0 F0 lent β0 => ?_)
  repeat' (first | refine sC ?_ | ((with_reducible refine isAwp ?_); first | (refine sS ?_; intro Q' hn he hr) | refine sA ?_) | (refine sH ?_; clear hn he hr Q') | ((conv => whnf); first | refine sK ?_ | (refine sB ?_; repeat' (refine sb2 ?_ ?_ <;> intro hb <;> try exact cls)) | (refine ret_pick [] rfl rfl rfl ⟨?_, rfl⟩; conv => lhs; whnf)))
  · show D.str [109, 48] = _
    rw [mtext, if_pos hb]
  · refine loop_env (γ := Nat × Nat × List UInt8) (fun x => [(0,.int .i64 x.2.1),(3,.str x.2.2)]) (fun _ => []) (fun x => digs x.1 x.2.1 x.2.2 = digs 20 k.toNat [] ∧ x.2.1 < 10 ^ x.1 ∧ x.2.2.length + x.1 ≤ 20 ∧ x.2.1 ≤ k.toNat) (fun x => x.1) (20, k.toNat, []) ⟨rfl, (show k.toNat < 100000000000000000000 from by omega), by simp, Nat.le_refl _⟩ (by refine weak_to rfl rfl rfl ⟨?_, rfl, trivial⟩; (conv => rhs; whnf); refine congrArg (D.int _) ?_; show ((k.toNat : Nat) : Int) = k; omega) (fun x hk Q' hn he hr => ?_)
    obtain ⟨f, n, l⟩ := x
    obtain ⟨h1, h2, h3, h4⟩ := hk
    simp only at h1 h2 h3 h4 hn
    have hmax : (l.length : Int) + 1 ≤ maxLen := by simp only [maxLen]; omega
    show awp _ _ Q' ⟨[(0,.int .i64 n),(3,.str l)], _, [], _, _⟩
    repeat' (first | refine sC ?_ | ((with_reducible refine isAwp ?_); first | (refine sS ?_; intro Q' hn he hr) | refine sA ?_) | (refine sH ?_; clear hn he hr Q') | ((conv => whnf); first | refine sK ?_ | (refine sB ?_; repeat' (refine sb2 ?_ ?_ <;> intro hb <;> try exact cls)) | (refine AskS.mk ⟨(by decide : (10 : Int) ≠ 0), ?_⟩) | (refine ArithS.to ((48 + n % 10 : Nat) : Int) (by rw [Int.natCast_add, Int.ofNat_tmod]; rfl) (wrap64 (by omega)) ?_) | (refine ArithS.to ((48 + n % 10 : Nat) : Int) rfl (wrap8 (by omega)) ?_) | (refine BytesS.mk ⟨[UInt8.ofNat (48 + n % 10)], ?_, ?_⟩) | (refine AskS.mk ⟨?_, ?_⟩) | (refine ArithS.to ((n / 10 : Nat) : Int) (Int.ofNat_tdiv n 10).symm (wrap64 (by omega)) ?_) | (refine ret_pick [] rfl rfl rfl ⟨?_, rfl⟩; conv => lhs; whnf) | (refine sH ?_; clear hn he hr Q')))
    · simp [byteE]
      omega
    · simp only [List.length_cons, List.length_nil, maxLen]
      simp only [maxLen] at hmax
      omega
    · have hf : f ≠ 0 := fun e => by
        subst e
        simp at h2
        omega
      obtain ⟨f', rfl⟩ := Nat.exists_eq_succ_of_ne_zero hf
      refine ⟨(f', n / 10, UInt8.ofNat (48 + n % 10) :: l), ⟨?_, ?_, ?_, ?_⟩, ?_, ?_⟩
      · rw [← h1]
        simp only [digs]
        rw [if_neg (by omega)]
      · simp only [Nat.pow_succ] at h2
        show n / 10 < 10 ^ f'
        omega
      · simp only [List.length_cons]
        omega
      · show n / 10 ≤ _
        omega
      · exact Nat.lt_succ_self _
      · exact weak_to rfl rfl rfl ⟨rfl, rfl, trivial⟩
    · simp only [maxLen] at hmax ⊢
      show 1 + l.length ≤ _
      omega
    · have hn0 : n = 0 := by omega
      subst hn0
      have h5 : digs f 0 l = l := by cases f <;> simp [digs]
      rw [h5] at h1
      show D.str (109 :: l) = _
      rw [mtext, if_neg (by omega), h1]
theorem c_szInt64S (a : List (Int)) (left : Int) (h0 : 0 ≤ left) (h1 : left ≤ 1048576) : FnC Tryz.prog 16 G0 0 [] [.sl 1 (a.map encI), .int .i64 left] (fun d os => d = .int .i64 (if szL noSz a ≤ left then left - szL noSz a else -1) ∧ os = []) := by
  rw [szL_noSz]
  refine fn_rule Tryz.func16 rfl (by decide +kernel) rfl (fun w0 F0 lent β0 => ?_)
  repeat' (first | refine sC ?_ | ((with_reducible refine isAwp ?_); first | (refine sS ?_; intro Q' hn he hr) | refine sA ?_) | (refine sH ?_; clear hn he hr Q') | ((conv => whnf); first | refine sK ?_ | (refine sB ?_; repeat' (refine sb2 ?_ ?_ <;> intro hb <;> try exact cls)) | refine sP ?_ | (refine sL ?_; intro hlen) | (refine ret_pick [] rfl rfl rfl ⟨?_, rfl⟩; conv => lhs; whnf)))
  all_goals (first | rfl | (refine congrArg (D.int _) ?_; first | rfl | omega | (split <;> omega)))
def zInt64 : List D := [.int .i64 0]
theorem c_toInt64S (a : List (Int)) (hs : a.length ≤ 1048576) : FnC Tryz.prog 27 G0 0 [] [.sl 1 (a.map encI)] (fun d os => d = .h 0 ∧ os = [.row 2 1 (a.map encI)]) := by
  refine fn_rule Tryz.func27 rfl (by decide +kernel) rfl (fun w0 F0 lent β0 => ?_)
  repeat' (first | refine sC ?_ | ((with_reducible refine isAwp ?_); first | (refine sS ?_; intro Q' hn he hr) | refine sA ?_) | (refine sH ?_; clear hn he hr Q') | ((conv => whnf); first | refine sK ?_ | refine sP ?_ | (refine sL ?_; intro hlen)))
  refine loop_env (fun k : Nat => [(0,.sl 1 (a.map encI)),(3,.h 0),(4,.int .i64 k)]) (fun k => [.row 2 1 (fill encI zInt64 a k)]) (fun k => k ≤ a.length) (fun k => a.length - k) 0 (by omega) (by refine weak_to rfl rfl ?_ ?_; rw [fill_zero]; rfl; exact ⟨rfl, rfl, rfl, trivial⟩) (fun k hk Q' hn he hr => ?_)
  repeat' (first | refine sC ?_ | ((with_reducible refine isAwp ?_); first | (refine sS ?_; intro Q' hn he hr) | refine sA ?_) | (refine sH ?_; clear hn he hr Q') | ((conv => whnf); first | refine sK ?_ | (refine sB ?_; repeat' (refine sb2 ?_ ?_ <;> intro hb <;> try exact cls)) | ((with_reducible refine isRet ?_); (refine ret_pick [0] rfl rfl rfl ⟨rfl, ?_⟩)) | refine sP ?_ | (refine sE ?_; intro x hx) | (refine sL ?_; intro hlen) | (refine sH ?_; clear hn he hr Q')))
  · refine ⟨k + 1, by omega, by omega, ?_⟩
    refine weak_to rfl rfl ?_ ⟨rfl, rfl, rfl, trivial⟩
    rw [← fill_set _ _ _ hx]
    rfl
  · have h2 : k = a.length := by omega
    subst h2
    rw [← fill_all encI zInt64 a]
    rfl
theorem c_eqInt64S (a b : List (Int)) : FnC Tryz.prog 43 G0 0 [] [.sl 1 (a.map encI), .sl 1 (b.map encI)] (fun d os => d = .bool (eqL eqI a b) ∧ os = []) := by
  refine fn_rule Tryz.func43 rfl (by decide +kernel) rfl (fun w0 F0 lent β0 => ?_)
  repeat' (first | refine sC ?_ | ((with_reducible refine isAwp ?_); first | (refine sS ?_; intro Q' hn he hr) | refine sA ?_) | (refine sH ?_; clear hn he hr Q') | ((conv => whnf); first | refine sK ?_ | (refine sB ?_; repeat' (refine sb2 ?_ ?_ <;> intro hb <;> try exact cls)) | (refine sL ?_; intro hlen) | (refine ret_pick [] rfl rfl rfl ⟨?_, rfl⟩; conv => lhs; whnf)))
  · rw [eqL_len hb]
  · refine loop_env (fun k : Nat => [(0,.sl 1 (a.map encI)),(1,.sl 1 (b.map encI)),(5,.int .i64 k)]) (fun _ => []) (fun k => k ≤ a.length ∧ eqTo eqI a b k) (fun k => a.length - k) 0 ⟨by omega, eqTo_zero⟩ (by refine weak_to rfl rfl rfl ?_; ((repeat' (first | exact trivial | refine And.intro ?_ ?_)) <;> (first | rfl | (conv => rhs; whnf) <;> (first | rfl | (refine congrArg (D.int _) ?_; omega))))) (fun k hk Q' hn he hr => ?_)
    repeat' (first | refine sC ?_ | ((with_reducible refine isAwp ?_); first | (refine sS ?_; intro Q' hn he hr) | refine sA ?_) | (refine sH ?_; clear hn he hr Q') | refine sO ?_ | ((conv => whnf); first | refine sK ?_ | (refine sB ?_; repeat' (refine sb2 ?_ ?_ <;> intro hb <;> try exact cls)) | refine sP ?_ | (refine sE ?_; intro x hx) | (refine sL ?_; intro hlen) | refine sD ?_ | (refine ret_pick [] rfl rfl rfl ⟨?_, rfl⟩; conv => lhs; whnf) | (refine sH ?_; clear hn he hr Q')))
    · rw [eqL_at ‹a[k]? = some _› ‹b[k]? = some _› (by simpa [eqI, eqStr] using hb)]
    · exact ⟨k + 1, ⟨by omega, eqTo_succ hk.2 ‹a[k]? = some _› ‹b[k]? = some _› (by simpa [eqI, eqStr] using hb)⟩, by omega, (by refine weak_to rfl rfl rfl ?_; ((repeat' (first | exact trivial | refine And.intro ?_ ?_)) <;> (first | rfl | (conv => rhs; whnf) <;> (first | rfl | (refine congrArg (D.int _) ?_; omega)))))⟩
    · rw [eqL_all (by omega) (fun j x y h => hk.2 j x y (by omega))]
theorem c_markInt64S (a : List (Int)) (q : Int) (h0 : 0 ≤ q ∧ q + 1 * a.length ≤ 4611686018427387904) : FnC Tryz.prog 51 G0 1 [.row 2 1 (a.map encI)] [.h 0, .int .i64 q] (fun d os => d = .int .i64 (q + 1 * a.length) ∧ os = [.row 2 1 ((mkL (fun _ q => q) 1 q a).map encI)]) := by
  refine fn_rule Tryz.func51 rfl (by decide +kernel) rfl (fun w0 F0 lent β0 => ?_)
  repeat' (first | refine sC ?_ | ((with_reducible refine isAwp ?_); first | (refine sS ?_; intro Q' hn he hr) | refine sA ?_) | (refine sH ?_; clear hn he hr Q') | ((conv => whnf); refine sK ?_))
  refine loop_env (fun k : Nat => [(0,.h 0),(1,.int .i64 (q + 1 * k)),(5,.int .i64 k)]) (fun k => [.row 2 1 ((mkTo (fun _ q => q) 1 q a k).map encI)]) (fun k => k ≤ a.length) (fun k => a.length - k) 0 (by omega) (by refine weak_to rfl rfl ?_ ?_; rw [mkTo_zero]; rfl; exact ⟨rfl, by (conv => rhs; whnf); refine congrArg (D.int _) ?_; omega, rfl, trivial⟩) (fun k hk Q' hn he hr => ?_)
  repeat' (first | refine sC ?_ | ((with_reducible refine isAwp ?_); first | (refine sS ?_; intro Q' hn he hr) | refine sA ?_) | (refine sH ?_; clear hn he hr Q') | ((conv => whnf); first | refine sK ?_ | (refine sB ?_; repeat' (refine sb2 ?_ ?_ <;> intro hb <;> try exact cls)) | (refine LenS.mkTo fun hlen => ?_) | (refine InS.mkTo (by omega) ?_) | (refine ElemS.mkTo (by omega) fun x hx => ?_) | ((with_reducible refine isRet ?_); (refine ret_pick [0] rfl rfl rfl ⟨?_, ?_⟩)) | refine sP ?_ | (refine sH ?_; clear hn he hr Q')))
  · refine ⟨k + 1, by omega, by omega, ?_⟩
    refine weak_to rfl rfl ?_ ⟨rfl, ?_, rfl, trivial⟩
    · rw [← mkTo_succ hx, List.map_set]
      try simp only [List.set_set]
      rfl
    · (conv => rhs; whnf); refine congrArg (D.int _) ?_; omega
  · have h2 : k = a.length := by omega
    subst h2
    rfl
  · have h2 : k = a.length := by omega
    subst h2
    rfl
end Go.Eng
