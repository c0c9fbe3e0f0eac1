/-
  The reference's drawing of valid stars from bytes.
  No conditions.
-/
import Derived.Test.YtbpbhjlochijdaaGreatDoorED
import Derived.Test.YtbpbhjlochijdaaGreatDoorDR2
set_option linter.unusedVariables false
set_option linter.unusedSimpArgs false
set_option maxHeartbeats 4000000
namespace Go.Eng
open Go Go.RowKit Go.Proofs
set_option maxRecDepth 100000
theorem c_spec_l05Find (a : List TStar) (id : List UInt8) : FnC Tryz.prog 152 G0 0 [] [.sl 5 (a.map encStar), .str id] (fun d os => (∃ z : Int, d = .int .i64 z ∧ (z < 0 → ∀ y ∈ a, y.fId ≠ id)) ∧ os = []) := by
  refine fn_rule Tryz.func152 rfl (by decide +kernel) rfl (fun w0 F0 lent β0 => ?_)
  repeat' (first | refine sC ?_ | ((with_reducible refine isAwp ?_); first | (refine sS ?_; intro Q' hn he hr) | refine sA ?_) | (refine sH ?_; clear hn he hr Q') | refine sO ?_ | ((conv => whnf); first | refine sK ?_ | (refine sB ?_; repeat' (first | refine sb0 ?_ | (refine sb2 ?_ ?_ <;> intro hb <;> try exact cls))) | refine sP ?_ | (refine sE ?_; intro x hx) | (refine sF ?_; intro i y hi hy) | (refine sI ?_; intro i hi) | (refine sL ?_; intro hlen) | (refine sQ ?_; intro c hc hcm; try simp only [lnM, lnA, lnC, lnN] at hc) | (refine sX ?_; intro i1 i2 hi1 hi2 hj1 hj2; try simp only [cutL, lnM, lnA, lnC, lnN, lnT, lnD, lnR] at hi1 hi2 hj2) | refine sD ?_ | (refine ret_pick [] rfl rfl rfl ⟨?_, rfl⟩; conv => lhs; whnf) | (refine ret_pick [0] rfl rfl rfl ⟨rfl, ?_⟩) | (refine sH ?_; clear hn he hr Q')))
  refine loop_env (fun k : Nat => [(0,.sl 5 (a.map encStar)),(1,.str id),(5,.int .i64 k)]) (fun _ => []) (fun k => k ≤ a.length ∧ noneTo (fun b : TStar => b.fId == id) a k) (fun k => a.length - k) 0 ⟨by omega, noneTo_zero⟩ (by refine weak_to rfl rfl rfl ?_; ((repeat' (first | exact trivial | refine And.intro ?_ ?_)) <;> (first | rfl | (conv => rhs; whnf) <;> (first | rfl | (refine congrArg (D.int _) ?_; omega))))) (fun k hk Q' hn he hr => ?_)
  obtain ⟨hk1, hk2⟩ := hk
  repeat' (first | refine sC ?_ | ((with_reducible refine isAwp ?_); first | (refine sS ?_; intro Q' hn he hr) | refine sA ?_) | (refine sH ?_; clear hn he hr Q') | refine sO ?_ | ((conv => whnf); first | refine sK ?_ | (refine sB ?_; repeat' (first | refine sb0 ?_ | (refine sb2 ?_ ?_ <;> intro hb <;> try exact cls))) | ((with_reducible refine isRet ?_); first | (refine ret_pick [] rfl rfl rfl ⟨⟨_, rfl, ?_⟩, rfl⟩)) | refine sP ?_ | (refine sE ?_; intro x hx) | (refine sF ?_; intro i y hi hy) | (refine sI ?_; intro i hi) | (refine sL ?_; intro hlen) | (refine sQ ?_; intro c hc hcm; try simp only [lnM, lnA, lnC, lnN] at hc) | (refine sX ?_; intro i1 i2 hi1 hi2 hj1 hj2; try simp only [cutL, lnM, lnA, lnC, lnN, lnT, lnD, lnR] at hi1 hi2 hj2) | refine sD ?_ | (refine ret_pick [] rfl rfl rfl ⟨?_, rfl⟩; conv => lhs; whnf) | (refine ret_pick [0] rfl rfl rfl ⟨rfl, ?_⟩) | (refine sH ?_; clear hn he hr Q')))
  all_goals first
    | exact ⟨k + 1, ⟨by omega, noneTo_succ hk2 hx (by simpa using hb)⟩, by omega, (by refine weak_to rfl rfl rfl ?_; ((repeat' (first | exact trivial | refine And.intro ?_ ?_)) <;> (first | rfl | (conv => rhs; whnf) <;> (first | rfl | (refine congrArg (D.int _) ?_; omega)))))⟩
    | (intro h9; omega)
    | (intro _ y hy e
       obtain ⟨j, hj⟩ := List.getElem?_of_mem hy
       have h8 := hk2 j y (by have := (List.getElem?_eq_some_iff.1 hj).1; omega) hj
       simp [e] at h8)
theorem ltStar_trans {x y z : TStar} (h : ltStar x y = true) (k : ltStar y z = true) : ltStar x z = true := less_trans h k
theorem put_stars {a : List TStar} {x : TStar} {k : Nat} (ha : starsB a = true) (hx : starB x = true) (hl : a.length ≠ 24) (hne : ∀ y ∈ a, y.fId ≠ x.fId) (hk : k ≤ a.length)
    (hhi : ∀ i y, k ≤ i → a[i]? = some y → Op.bytesLess x.fId y.fId = true) (hlo : ∀ i y, i + 1 = k → a[i]? = some y → Op.bytesLess x.fId y.fId = false) : starsB (a.take k ++ x :: a.drop k) = true := by
  simp only [starsB, listOk, Bool.and_eq_true, decide_eq_true_eq] at ha ⊢
  obtain ⟨h1, h2, h3⟩ := ha
  have hp := (chain_pairwise (lt := ltStar) ltStar_trans).1 h3
  refine ⟨by simp; omega, ?_, (chain_pairwise (lt := ltStar) ltStar_trans).2 ?_⟩
  · rw [List.all_eq_true] at h2 ⊢
    intro y hy
    rcases List.mem_append.1 hy with h | h
    · exact h2 y (List.mem_of_mem_take h)
    · rcases List.mem_cons.1 h with rfl | h
      · exact hx
      · exact h2 y (List.mem_of_mem_drop h)
  · have hd : ∀ y ∈ a.drop k, ltStar x y = true := fun y hy => by
      obtain ⟨i, hi⟩ := List.getElem?_of_mem hy
      rw [List.getElem?_drop] at hi
      exact hhi (k + i) y (by omega) hi
    have ht : ∀ y ∈ a.take k, ltStar y x = true := fun y hy => by
      obtain ⟨i, hi⟩ := List.getElem?_of_mem hy
      have hi2 : i < k := by
        have := (List.getElem?_eq_some_iff.1 hi).1
        rw [List.length_take] at this
        omega
      rw [List.getElem?_take_of_lt hi2] at hi
      obtain ⟨z, hz⟩ : ∃ z, a[k - 1]? = some z := ⟨_, List.getElem?_eq_getElem (by omega)⟩
      have hzx : ltStar z x = true := less_tri (hlo (k - 1) z (by omega) hz) (fun e => hne z (List.mem_of_getElem? hz) e.symm)
      by_cases e : i = k - 1
      · subst e
        rw [hi] at hz
        cases hz
        exact hzx
      · obtain ⟨g1, e1⟩ := List.getElem?_eq_some_iff.1 hi
        obtain ⟨g2, e2⟩ := List.getElem?_eq_some_iff.1 hz
        have := List.pairwise_iff_getElem.1 hp i (k - 1) g1 g2 (by omega)
        rw [e1, e2] at this
        exact ltStar_trans this hzx
    have hp2 := hp
    rw [← List.take_append_drop k a, List.pairwise_append] at hp2
    rw [List.pairwise_append, List.pairwise_cons]
    refine ⟨hp2.1, ⟨hd, hp2.2.1⟩, fun y hy z hz => ?_⟩
    rcases List.mem_cons.1 hz with rfl | hz
    · exact ht y hy
    · exact hp2.2.2 y hy z hz
theorem gt_of {x y : List UInt8} (h : (Op.bytesLess y x || y == x) = false) : Op.bytesLess x y = true := by
  simp only [Bool.or_eq_false_iff, beq_eq_false_iff_ne] at h
  exact less_tri h.1 h.2
theorem ngt_of {x y : List UInt8} (h : (Op.bytesLess y x || y == x) = true) : Op.bytesLess x y = false := by
  simp only [Bool.or_eq_true, beq_iff_eq] at h
  rcases h with h | rfl
  · exact less_asymm h
  · exact less_irrefl _
theorem put_rowS (a : List TStar) (x : TStar) (k : Nat) : [] ++ (a.map encStar).take k ++ [encStar x] ++ (a.map encStar).drop k = (a.take k ++ x :: a.drop k).map encStar := by simp
set_option maxHeartbeats 8000000 in
theorem c_spec_AddStar (a : List TStar) (x : TStar) (hv : starsB a = true) (hv2 : starB x = true) : FnC Tryz.prog 113 G0 0 [] [.sl 5 (a.map encStar), .agg (encStar x)] (fun d os => (∃ z : Int, z ≠ 0 ∧ d = .tup [.sl 5 [], .int .i64 z] ∧ os = []) ∨ ∃ M : List TStar, starsB M = true ∧ M.length = a.length + 1 ∧ d = .tup [.h 0, .int .i64 0] ∧ os = [.row 68 5 (M.map encStar)]) := by
  have hl2 := starsB_len hv
  refine fn_rule Tryz.func113 rfl (by decide +kernel) rfl (fun w0 F0 lent β0 => ?_)
  repeat' (first | refine sC ?_ | ((with_reducible refine isAwp ?_); first | (refine sS ?_; intro Q' hn he hr) | refine sA ?_) | (refine sH ?_; clear hn he hr Q') | refine sO ?_ | ((conv => whnf); first | refine sK ?_ | (refine sB ?_; repeat' (first | refine sb0 ?_ | (refine sb2 ?_ ?_ <;> intro hb <;> try exact cls))) | ((with_reducible refine isCall ?_); first | (refine call_pure (c_spec_l05Ok _) rfl rfl ?_) | (refine call_look (c_spec_l05One x) rfl ?_) | (refine call_some (c_spec_l05Find a x.fId) rfl ?_; rintro d ⟨z, rfl, hz⟩; refine ⟨rfl, ?_⟩)) | ((with_reducible refine isCallQ ?_); first | (refine callQ_pure (c_spec_l05Ok _) rfl rfl ?_) | (refine callQ_look (c_spec_l05One x) rfl ?_)) | ((with_reducible refine isRet ?_); first | (refine ret_nil 5 ?_; refine ret_pick [] rfl rfl rfl (.inl ⟨_, ?_, rfl, rfl⟩))) | refine sP ?_ | (refine sE ?_; intro x hx) | (refine sF ?_; intro i y hi hy) | (refine sI ?_; intro i hi) | (refine sL ?_; intro hlen) | (refine sQ ?_; intro c hc hcm; try simp only [lnM, lnA, lnC, lnN] at hc) | (refine sX ?_; intro i1 i2 hi1 hi2 hj1 hj2; try simp only [cutL, lnM, lnA, lnC, lnN, lnT, lnD, lnR] at hi1 hi2 hj2) | refine sD ?_ | (refine ret_pick [] rfl rfl rfl ⟨?_, rfl⟩; conv => lhs; whnf) | (refine ret_pick [0] rfl rfl rfl ⟨rfl, ?_⟩) | (refine sH ?_; clear hn he hr Q')))
  all_goals first | omega | skip
  have hne := hz (by omega)
  refine loop_env (fun k : Nat => [(0,.sl 5 (a.map encStar)),(3,.hp 0 0),(6,.int .i64 k)]) (fun k => [.box (encStar x)]) (fun k => k ≤ a.length ∧ ∀ i y, k ≤ i → a[i]? = some y → Op.bytesLess x.fId y.fId = true) (fun k => k) a.length ⟨Nat.le_refl _, fun i y h1 h2 => by have := (List.getElem?_eq_some_iff.1 h2).1; omega⟩ (by refine weak_to rfl rfl rfl ?_; ((repeat' (first | exact trivial | refine And.intro ?_ ?_)) <;> (first | rfl | (conv => rhs; whnf) <;> (first | rfl | (refine congrArg (D.int _) ?_; omega))))) (fun k hk Q' hn he hr => ?_)
  obtain ⟨hk1, hk2⟩ := hk
  by_cases hk0 : k = 0
  · subst hk0
    repeat' (first | refine sC ?_ | ((with_reducible refine isAwp ?_); first | (refine sS ?_; intro Q' hn he hr) | refine sA ?_) | (refine sH ?_; clear hn he hr Q') | refine sO ?_ | ((conv => whnf); first | refine sK ?_ | (refine sB ?_; repeat' (first | refine sb0 ?_ | (refine sb2 ?_ ?_ <;> intro hb <;> try exact cls))) | ((with_reducible refine isRet ?_); first | (refine ret_pick [1] rfl rfl rfl (.inr ⟨a.take 0 ++ x :: a.drop 0, ?_, ?_, rfl, ?_⟩))) | refine sP ?_ | (refine sE ?_; intro x hx) | (refine sF ?_; intro i y hi hy) | (refine sI ?_; intro i hi) | (refine sL ?_; intro hlen) | (refine sQ ?_; intro c hc hcm; try simp only [lnM, lnA, lnC, lnN] at hc) | (refine sX ?_; intro i1 i2 hi1 hi2 hj1 hj2; try simp only [cutL, lnM, lnA, lnC, lnN, lnT, lnD, lnR] at hi1 hi2 hj2) | refine sD ?_ | (refine ret_pick [] rfl rfl rfl ⟨?_, rfl⟩; conv => lhs; whnf) | (refine ret_pick [0] rfl rfl rfl ⟨rfl, ?_⟩) | (refine sH ?_; clear hn he hr Q')))
    all_goals first
      | exact put_stars hv hv2 (by omega) hne (Nat.zero_le _) hk2 (fun i y h1 => by omega)
      | (simp; done)
      | rfl
      | trace_state
  · repeat' (first | refine sC ?_ | ((with_reducible refine isAwp ?_); first | (refine sS ?_; intro Q' hn he hr) | refine sA ?_) | (refine sH ?_; clear hn he hr Q') | refine sO ?_ | ((conv => whnf); first | refine sK ?_ | (refine sB ?_; repeat' (first | refine sb0 ?_ | (refine sb2 ?_ ?_ <;> intro hb <;> try exact cls))) | ((with_reducible refine isRet ?_); first | (refine ret_pick [1] rfl rfl rfl (.inr ⟨a.take k ++ x :: a.drop k, ?_, ?_, rfl, ?_⟩))) | refine sP ?_ | (refine sE ?_; intro x hx) | (refine sF ?_; intro i y hi hy) | (refine sI ?_; intro i hi) | (refine sL ?_; intro hlen) | (refine sQ ?_; intro c hc hcm; try simp only [lnM, lnA, lnC, lnN] at hc) | (refine sX ?_; intro i1 i2 hi1 hi2 hj1 hj2; try simp only [cutL, lnM, lnA, lnC, lnN, lnT, lnD, lnR] at hi1 hi2 hj2) | refine sD ?_ | (refine ret_pick [] rfl rfl rfl ⟨?_, rfl⟩; conv => lhs; whnf) | (refine ret_pick [0] rfl rfl rfl ⟨rfl, ?_⟩) | (refine sH ?_; clear hn he hr Q')))
    all_goals first
      | exact ⟨k - 1, ⟨by omega, fun i3 y2 h1 h2 => by
          by_cases e : i3 = k - 1
          · obtain rfl : i = i3 := by omega
            rw [hy] at h2; cases h2; exact gt_of hb
          · exact hk2 i3 y2 (by omega) h2⟩, by omega, (by refine weak_to rfl rfl rfl ?_; ((repeat' (first | exact trivial | refine And.intro ?_ ?_)) <;> (first | rfl | (conv => rhs; whnf) <;> (first | rfl | (refine congrArg (D.int _) ?_; omega)))))⟩
      | exact put_stars hv hv2 (by omega) hne hk1 hk2 (fun i3 y2 h1 h2 => by
          obtain rfl : i = i3 := by omega
          rw [hy] at h2; cases h2; exact ngt_of hb)
      | (simp; omega)
      | (obtain rfl : i1 = k := by omega
         exact congrArg (fun l => [Obj.row 68 5 l]) (put_rowS a x i1))
      | trace_state
theorem c_l05Draw (code : List UInt8) (p sd : Int) (hp : 0 ≤ p ∧ p ≤ 288230376151711744) : FnC Tryz.prog 75 G0 1 [.box [.sl 1 (code.map byteE), .int .i64 p, .int .u64 sd]] [.hp 0 0] (fun d os => ∃ (L : List TStar) (p' sd' : Int), d = .h 1 ∧ starsB L = true ∧ os = [.box [.sl 1 (code.map byteE), .int .i64 p', .int .u64 sd'], .row 68 5 (L.map encStar)]) := by
  refine fn_rule Tryz.func75 rfl (by decide +kernel) rfl (fun w0 F0 lent β0 => ?_)
  repeat' (first | refine sC ?_ | ((with_reducible refine isAwp ?_); first | (refine sS ?_; intro Q' hn he hr) | refine sA ?_) | (refine sH ?_; clear hn he hr Q') | refine sO ?_ | ((conv => whnf); first | refine sK ?_ | (refine sB ?_; repeat' (first | refine sb0 ?_ | (refine sb2 ?_ ?_ <;> intro hb <;> try exact cls))) | ((with_reducible refine isCall ?_); first | (refine call_lend 0 rfl (c_pick code _ _ _ (by omega) (by omega)) ?_; rintro d os ⟨z, p1, sd1, rfl, hz, hz2, rfl⟩; refine ⟨_, _, rfl, ?_⟩)) | refine sP ?_ | (refine sE ?_; intro x hx) | (refine sF ?_; intro i y hi hy) | (refine sI ?_; intro i hi) | (refine sL ?_; intro hlen) | (refine sQ ?_; intro c hc hcm; try simp only [lnM, lnA, lnC, lnN] at hc) | (refine sX ?_; intro i1 i2 hi1 hi2 hj1 hj2; try simp only [cutL, lnM, lnA, lnC, lnN, lnT, lnD, lnR] at hi1 hi2 hj2) | refine sD ?_ | (refine ret_pick [] rfl rfl rfl ⟨?_, rfl⟩; conv => lhs; whnf) | (refine ret_pick [0] rfl rfl rfl ⟨rfl, ?_⟩) | (refine sH ?_; clear hn he hr Q')))
  refine loop_env3 (fun (k : Nat) (L : List TStar) (q : Int × Int) => [(0,.hp 0 0),(3,.h 1),(4,.int .i64 k)]) (fun k L q => [.box [.sl 1 (code.map byteE), .int .i64 q.1, .int .u64 q.2], .row 68 5 (L.map encStar)]) (fun k L q => k ≤ 7 ∧ p ≤ q.1 ∧ q.1 + 10 * k ≤ p + 80 ∧ starsB L = true) (fun k L q => k) z.toNat [] (p1, sd1) ⟨by omega, by simp only; omega, by simp only; omega, rfl⟩ (by refine weak_to rfl rfl rfl ?_; ((repeat' (first | exact trivial | refine And.intro ?_ ?_)) <;> (first | rfl | (conv => rhs; whnf) <;> (first | rfl | (refine congrArg (D.int _) ?_; omega))))) (fun k L q hk Q' hn he hr => ?_)
  obtain ⟨q1, q2⟩ := q
  obtain ⟨hk1, hk2, hk3, hk4⟩ := hk
  dsimp only at hk2 hk3 ⊢
  repeat' (first | refine sC ?_ | ((with_reducible refine isAwp ?_); first | (refine sS ?_; intro Q' hn he hr) | refine sA ?_) | (refine sH ?_; clear hn he hr Q') | refine sO ?_ | ((conv => whnf); first | refine sK ?_ | (refine sB ?_; repeat' (first | refine sb0 ?_ | (refine sb2 ?_ ?_ <;> intro hb <;> try exact cls))) | ((with_reducible refine isCall ?_); first | (refine call_lend 0 rfl (c_l05DrawOne code _ _ (by omega)) ?_; rintro d os ⟨b, p1, sd1, rfl, hbk, hz2, rfl⟩; refine ⟨_, _, rfl, ?_⟩) | (refine call_view (c_spec_AddStar L b hk4 hbk) ?_; rintro d os (⟨cz, hcz, rfl, rfl⟩ | ⟨M, hM1, hM2, rfl, rfl⟩); refine ⟨rfl, flat_none, ?_⟩; rotate_left; refine ⟨rfl, flat_one (FlatO.map fun _ => rfl), ?_⟩; rotate_left)) | ((with_reducible refine isRet ?_); first | (refine ret_pick [0, 1] rfl rfl rfl ⟨_, _, _, rfl, hk4, rfl⟩)) | refine sP ?_ | (refine sE ?_; intro x hx) | (refine sF ?_; intro i y hi hy) | (refine sI ?_; intro i hi) | (refine sL ?_; intro hlen) | (refine sQ ?_; intro c hc hcm; try simp only [lnM, lnA, lnC, lnN] at hc) | (refine sX ?_; intro i1 i2 hi1 hi2 hj1 hj2; try simp only [cutL, lnM, lnA, lnC, lnN, lnT, lnD, lnR] at hi1 hi2 hj2) | refine sD ?_ | (refine ret_pick [] rfl rfl rfl ⟨?_, rfl⟩; conv => lhs; whnf) | (refine ret_pick [0] rfl rfl rfl ⟨rfl, ?_⟩) | (refine sH ?_; clear hn he hr Q')))
  all_goals first
    | exact absurd (by assumption) hcz
    | (refine ⟨k - 1, L, (p1, sd1), ⟨by omega, by simp only; omega, by simp only; omega, hk4⟩, by omega, ?_⟩
       refine weak_selp [0, 1] rfl ?_ ?_ <;> (repeat' (first | exact trivial | rfl | refine And.intro ?_ ?_)) <;> ((conv => rhs; whnf); refine congrArg (D.int _) ?_; omega))
    | (refine ⟨k - 1, M, (p1, sd1), ⟨by omega, by simp only; omega, by simp only; omega, hM1⟩, by omega, ?_⟩
       refine weak_selp [0, 2] rfl ?_ ?_ <;> (repeat' (first | exact trivial | rfl | refine And.intro ?_ ?_)) <;> ((conv => rhs; whnf); refine congrArg (D.int _) ?_; omega))
    | trace_state
theorem c_R8Stars (code : List UInt8) : FnC Tryz.prog 31 G0 0 [] [.sl 1 (code.map byteE)] (fun d os => (∃ L : List TStar, d = .sl 5 (L.map encStar) ∧ starsB L = true) ∧ os = []) := by
  refine fn_rule Tryz.func31 rfl (by decide +kernel) rfl (fun w0 F0 lent β0 => ?_)
  repeat' (first | refine sC ?_ | ((with_reducible refine isAwp ?_); first | (refine sS ?_; intro Q' hn he hr) | refine sA ?_) | (refine sH ?_; clear hn he hr Q') | refine sO ?_ | ((conv => whnf); first | refine sK ?_ | (refine sB ?_; repeat' (first | refine sb0 ?_ | (refine sb2 ?_ ?_ <;> intro hb <;> try exact cls))) | ((with_reducible refine isCall ?_); first | (refine call_mk (c_spec_l00From code) rfl (by first | exact (rfl : _ = 0) | exact (rfl : _ = 1) | exact (rfl : _ = 2) | exact (rfl : _ = 3) | exact (rfl : _ = 4) | exact (rfl : _ = 5) | exact (rfl : _ = 6) | exact (rfl : _ = 7) | exact (rfl : _ = 8) | exact (rfl : _ = 9) | exact (rfl : _ = 10) | exact (rfl : _ = 11) | exact (rfl : _ = 12) | exact (rfl : _ = 13) | exact (rfl : _ = 14) | exact (rfl : _ = 15) | exact (rfl : _ = 16) | exact (rfl : _ = 17) | exact (rfl : _ = 18) | exact (rfl : _ = 19) | exact (rfl : _ = 20) | exact (rfl : _ = 21) | exact (rfl : _ = 22) | exact (rfl : _ = 23) | exact (rfl : _ = 24) | exact (rfl : _ = 25) | exact (rfl : _ = 26) | exact (rfl : _ = 27) | exact (rfl : _ = 28) | exact (rfl : _ = 29) | exact (rfl : _ = 30) | exact (rfl : _ = 31) | exact (rfl : _ = 32) | exact (rfl : _ = 33) | exact (rfl : _ = 34) | exact (rfl : _ = 35) | exact (rfl : _ = 36) | exact (rfl : _ = 37) | exact (rfl : _ = 38) | exact (rfl : _ = 39)) ?_) | (refine call_lend 0 rfl (c_l05Draw code _ _ (by omega)) ?_; rintro d os ⟨L, p1, sd1, rfl, hL1, rfl⟩; refine ⟨_, _, rfl, ?_⟩)) | ((with_reducible refine isRet ?_); first | (refine ret_freeze 1 rfl (Nat.zero_le _) ?_; refine ret_pick [] rfl rfl rfl ⟨⟨_, ?_, hL1⟩, rfl⟩)) | refine sP ?_ | (refine sE ?_; intro x hx) | (refine sF ?_; intro i y hi hy) | (refine sI ?_; intro i hi) | (refine sL ?_; intro hlen) | (refine sQ ?_; intro c hc hcm; try simp only [lnM, lnA, lnC, lnN] at hc) | (refine sX ?_; intro i1 i2 hi1 hi2 hj1 hj2; try simp only [cutL, lnM, lnA, lnC, lnN, lnT, lnD, lnR] at hi1 hi2 hj2) | refine sD ?_ | (refine ret_pick [] rfl rfl rfl ⟨?_, rfl⟩; conv => lhs; whnf) | (refine ret_pick [0] rfl rfl rfl ⟨rfl, ?_⟩) | (refine sH ?_; clear hn he hr Q')))
  all_goals rfl
end Go.Eng
