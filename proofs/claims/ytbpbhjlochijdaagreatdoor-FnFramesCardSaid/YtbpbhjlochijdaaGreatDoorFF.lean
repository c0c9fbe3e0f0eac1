/-
  Blocks are read back from their bytes, and a changed byte is noticed: the law's function returns true.
  No conditions.
-/
import Derived.Test.YtbpbhjlochijdaaGreatDoorED
import Derived.Test.YtbpbhjlochijdaaGreatDoorDS
import Derived.Test.YtbpbhjlochijdaaGreatDoorDR3
import Derived.Test.YtbpbhjlochijdaaGreatDoorR8
import Derived.Test.YtbpbhjlochijdaaGreatDoorFR0
import Derived.Test.YtbpbhjlochijdaaGreatDoorSV
import Derived.Test.YtbpbhjlochijdaaGreatDoorSW
import Derived.Test.YtbpbhjlochijdaaGreatDoorRX
import Derived.Test.YtbpbhjlochijdaaGreatDoorAR3
import Derived.Test.YtbpbhjlochijdaaGreatDoorAR4
import Derived.Test.YtbpbhjlochijdaaGreatDoorBP
import Derived.Test.YtbpbhjlochijdaaGreatDoorSK
import Derived.Test.YtbpbhjlochijdaaGreatDoorST1
set_option linter.unusedVariables false
set_option linter.unusedSimpArgs false
set_option maxHeartbeats 4000000
namespace Go.Eng
open Go Go.RowKit Go.Proofs
set_option maxRecDepth 100000
theorem eqd_Star (a b : TStar) : EqD Tryz.prog 68 (encStar a) (encStar b) (eqTStar a b) := by
  have h : EqD Tryz.prog 68 (encStar a) (encStar b) ((a.fId == b.fId) && ((a.fRight == b.fRight) && ((a.fDeclination == b.fDeclination) && ((a.fMagnitude == b.fMagnitude) && ((a.fColour == b.fColour) && true))))) := EqD.flat _ rfl (by decide +kernel) (by decide +kernel) (by rfl)
  simpa [eqTStar, eqI, eqStr, eqBo] using h
theorem saveTo_pos (L : List TBlock) (k : Nat) : 9 ≤ (saveTo L k).length := by
  simp [saveTo, headL]
  omega
theorem loadR_code : ∀ (r : List (List UInt8)) (n : Nat) (a : List TBlock) {k : Nat} {c : Int}, loadR r n a = .inl (k, c) → c ≠ 0 := by
  intro r
  induction r with
  | nil => intro n a k c h; rw [loadR] at h; cases h
  | cons l r ih =>
    intro n a k c h
    rw [loadR] at h
    split at h
    · split at h
      · exact ih _ _ h
      · cases h; decide
    · rename_i h0
      cases h
      exact h0
theorem load_code {s : List UInt8} {k c : Int} (h : loadAll s = .inl (k, c)) : c ≠ 0 := by
  unfold loadAll loadOf at h
  split at h
  · cases h; decide
  · split at h
    · cases h; decide
    · split at h
      · cases h; decide
      · split at h
        · rename_i h2
          cases h
          exact loadR_code _ _ _ h2
        · split at h
          · cases h
          · cases h; decide
theorem load_spoilt {LS : List TBlock} (hv : validBs LS = true) {i : Nat} {x y : UInt8} (hi : (saveTo LS LS.length)[i]? = some y) (hne : x ≠ y) : ∃ k c : Int, loadAll ((saveTo LS LS.length).set i x) = .inl (k, c) ∧ c ≠ 0 := by
  cases h : loadAll ((saveTo LS LS.length).set i x) with
  | inl q => exact ⟨q.1, q.2, rfl, load_code h⟩
  | inr b => exact absurd h (load_changed hv hi hne b)
theorem c_r8Wide_at (code : List UInt8) (n : Int) (hn : 2 ≤ n ∧ n ≤ 1048576) : ∃ z : Int, 0 ≤ z ∧ z < n ∧ FnC Tryz.prog 29 G0 0 [] [.sl 1 (code.map byteE), .int .i64 0, .int .i64 n] (fun d os => d = .int .i64 z ∧ os = []) := by
  obtain ⟨u, hu1, hu2, hu3⟩ := c_r8At_at code 0 256 (by omega) (by omega)
  obtain ⟨v, hv1, hv2, hv3⟩ := c_r8At_at code 1 256 (by omega) (by omega)
  refine ⟨Int.tmod (256 * u + v) n, Int.tmod_nonneg _ (by omega), Int.tmod_lt_of_pos _ (by omega), ?_⟩
  refine fn_rule Tryz.func29 rfl (by decide +kernel) rfl (fun w0 F0 lent β0 => ?_)
  repeat' (first | refine sC ?_ | ((with_reducible refine isAwp ?_); first | (refine sS ?_; intro Q' hn he hr) | refine sA ?_) | (refine sH ?_; clear hn he hr Q') | refine sO ?_ | ((conv => whnf); first | refine sK ?_ | (refine sB ?_; repeat' (first | refine sb0 ?_ | (refine sb2 ?_ ?_ <;> intro hb <;> try exact cls))) | (refine AskS.mk ⟨by omega, ?_⟩) | ((with_reducible refine isCall ?_); first | (refine call_pure (hu3) rfl rfl ?_) | (refine call_pure (hv3) rfl rfl ?_)) | ((with_reducible refine isCallQ ?_); first | (refine callQ_pure (hu3) rfl rfl ?_) | (refine callQ_pure (hv3) rfl rfl ?_)) | refine sP ?_ | (refine sE ?_; intro x hx) | (refine sF ?_; intro i y hi hy) | (refine sI ?_; intro i hi) | (refine sL ?_; intro hlen) | (refine sQ ?_; intro c hc hcm; try simp only [lnM, lnA, lnC, lnN] at hc) | (refine sX ?_; intro i1 i2 hi1 hi2 hj1 hj2; try simp only [cutL, lnM, lnA, lnC, lnN, lnT, lnD, lnR] at hi1 hi2 hj2) | refine sD ?_ | (refine ret_pick [] rfl rfl rfl ⟨?_, rfl⟩; conv => lhs; whnf) | (refine ret_pick [0] rfl rfl rfl ⟨rfl, ?_⟩) | (refine sH ?_; clear hn he hr Q')))
  all_goals rfl
set_option maxHeartbeats 16000000 in
theorem c_FnFrames (e1 e2 : Value) (hif : isIfc e1) (_ : isIfc e2) (code more : List UInt8) (_ : ∀ x ∈ code, True) (_ : ∀ x ∈ more, True) : FnC Tryz.prog 4 (GE e1 e2) 0 [] [.sl 1 (code.map byteE), .sl 1 (more.map byteE)] (fun d os => d = .bool true ∧ os = []) := by
  obtain ⟨z2, hz1, hz2, hz3⟩ := c_r8At_at more 2 255 (by omega) (by omega)
  refine fn_rule Tryz.func4 rfl (by decide +kernel) rfl (fun w0 F0 lent β0 => ?_)
  repeat' (first | refine sC ?_ | ((with_reducible refine isAwp ?_); first | (refine sS ?_; intro Q' hn he hr) | refine sA ?_) | (refine sH ?_; clear hn he hr Q') | refine sO ?_ | ((conv => whnf); first | refine sK ?_ | (refine sB ?_; repeat' (first | refine sb0 ?_ | (refine sb2 ?_ ?_ <;> intro hb <;> try exact cls))) | (refine ElemS.the hSy ?_) | (refine ArithS.u8in (by omega) ?_) | (refine InS.nat (by rw [List.length_map]; omega) ?_) | (refine BytesS.mk ⟨_, raw_set _ _ _ (by omega), ?_⟩) | ((with_reducible refine isCall ?_); first | (refine call_some (c_r8Long code more).anyG rfl ?_; rintro d ⟨b9, rfl⟩; refine ⟨rfl, ?_⟩) | (refine call_some (c_R8Blocks code).anyG rfl ?_; rintro d ⟨LS, rfl, hL, hL5, hLk⟩; have hS9 := saveTo_pos LS LS.length; have hS8 := saveTo_len hL LS.length; have hld := load_saved hL; have hcd := c_impl_DamagedLines (saveTo LS LS.length) (by omega); have hcs := c_impl_SalvageBlocks (saveTo LS LS.length) (by omega); rw [hld.2.1] at hcd; rw [hld.2.2] at hcs; obtain ⟨zw, hw1, hw2, hw3⟩ := c_r8Wide_at more ((saveTo LS LS.length).length : Nat) (by omega); obtain ⟨n, rfl⟩ : ∃ n : Nat, zw = n := ⟨zw.toNat, by omega⟩; obtain ⟨y, hSy⟩ : ∃ y, (saveTo LS LS.length)[n]? = some y := ⟨_, List.getElem?_eq_getElem (by omega)⟩; obtain ⟨kk, cc, hinl, hv⟩ := load_spoilt hL hSy (xor_ne (y := y) (byte_pos (v := 1 + z2) (by omega))); have hlb := c_impl_LoadBlocks_bad e1 e2 hif _ (by rw [List.length_set]; omega) kk cc hinl; refine ⟨rfl, ?_⟩) | (refine call_pure ((c_impl_SaveBlocks_ok LS hL).atE e1 e2) rfl rfl ?_) | (refine call_mk (c_impl_LoadBlocks_ok e1 e2 hif (saveTo LS LS.length) (by omega) LS hld.1) rfl (by first | exact (rfl : _ = 0) | exact (rfl : _ = 1) | exact (rfl : _ = 2) | exact (rfl : _ = 3) | exact (rfl : _ = 4) | exact (rfl : _ = 5) | exact (rfl : _ = 6) | exact (rfl : _ = 7) | exact (rfl : _ = 8) | exact (rfl : _ = 9) | exact (rfl : _ = 10) | exact (rfl : _ = 11) | exact (rfl : _ = 12) | exact (rfl : _ = 13) | exact (rfl : _ = 14) | exact (rfl : _ = 15) | exact (rfl : _ = 16) | exact (rfl : _ = 17) | exact (rfl : _ = 18) | exact (rfl : _ = 19) | exact (rfl : _ = 20) | exact (rfl : _ = 21) | exact (rfl : _ = 22) | exact (rfl : _ = 23) | exact (rfl : _ = 24) | exact (rfl : _ = 25) | exact (rfl : _ = 26) | exact (rfl : _ = 27) | exact (rfl : _ = 28) | exact (rfl : _ = 29) | exact (rfl : _ = 30) | exact (rfl : _ = 31) | exact (rfl : _ = 32) | exact (rfl : _ = 33) | exact (rfl : _ = 34) | exact (rfl : _ = 35) | exact (rfl : _ = 36) | exact (rfl : _ = 37) | exact (rfl : _ = 38) | exact (rfl : _ = 39)) ?_) | (refine call_mk (hcd.atE e1 e2) rfl (by first | exact (rfl : _ = 0) | exact (rfl : _ = 1) | exact (rfl : _ = 2) | exact (rfl : _ = 3) | exact (rfl : _ = 4) | exact (rfl : _ = 5) | exact (rfl : _ = 6) | exact (rfl : _ = 7) | exact (rfl : _ = 8) | exact (rfl : _ = 9) | exact (rfl : _ = 10) | exact (rfl : _ = 11) | exact (rfl : _ = 12) | exact (rfl : _ = 13) | exact (rfl : _ = 14) | exact (rfl : _ = 15) | exact (rfl : _ = 16) | exact (rfl : _ = 17) | exact (rfl : _ = 18) | exact (rfl : _ = 19) | exact (rfl : _ = 20) | exact (rfl : _ = 21) | exact (rfl : _ = 22) | exact (rfl : _ = 23) | exact (rfl : _ = 24) | exact (rfl : _ = 25) | exact (rfl : _ = 26) | exact (rfl : _ = 27) | exact (rfl : _ = 28) | exact (rfl : _ = 29) | exact (rfl : _ = 30) | exact (rfl : _ = 31) | exact (rfl : _ = 32) | exact (rfl : _ = 33) | exact (rfl : _ = 34) | exact (rfl : _ = 35) | exact (rfl : _ = 36) | exact (rfl : _ = 37) | exact (rfl : _ = 38) | exact (rfl : _ = 39)) ?_) | (refine call_mk (hcs.atE e1 e2) rfl (by first | exact (rfl : _ = 0) | exact (rfl : _ = 1) | exact (rfl : _ = 2) | exact (rfl : _ = 3) | exact (rfl : _ = 4) | exact (rfl : _ = 5) | exact (rfl : _ = 6) | exact (rfl : _ = 7) | exact (rfl : _ = 8) | exact (rfl : _ = 9) | exact (rfl : _ = 10) | exact (rfl : _ = 11) | exact (rfl : _ = 12) | exact (rfl : _ = 13) | exact (rfl : _ = 14) | exact (rfl : _ = 15) | exact (rfl : _ = 16) | exact (rfl : _ = 17) | exact (rfl : _ = 18) | exact (rfl : _ = 19) | exact (rfl : _ = 20) | exact (rfl : _ = 21) | exact (rfl : _ = 22) | exact (rfl : _ = 23) | exact (rfl : _ = 24) | exact (rfl : _ = 25) | exact (rfl : _ = 26) | exact (rfl : _ = 27) | exact (rfl : _ = 28) | exact (rfl : _ = 29) | exact (rfl : _ = 30) | exact (rfl : _ = 31) | exact (rfl : _ = 32) | exact (rfl : _ = 33) | exact (rfl : _ = 34) | exact (rfl : _ = 35) | exact (rfl : _ = 36) | exact (rfl : _ = 37) | exact (rfl : _ = 38) | exact (rfl : _ = 39)) ?_) | (refine call_look ((c_spec_SameBlocks_eq LS).anyG) rfl ?_) | (refine call_pure ((c_spec_SaveBlocks_ok LS hL).anyG) rfl rfl ?_) | (refine call_pure (hw3.anyG) rfl rfl ?_) | (refine call_pure (hz3.anyG) rfl rfl ?_) | (refine call_pure (hlb) rfl rfl ?_) | (refine call_some (c_R8Stars more).anyG rfl ?_; rintro d ⟨SS, rfl, hSS⟩; refine ⟨rfl, ?_⟩) | (refine call_mk ((c_impl_BlocksOfStars_ok SS hSS).atE e1 e2) rfl (by first | exact (rfl : _ = 0) | exact (rfl : _ = 1) | exact (rfl : _ = 2) | exact (rfl : _ = 3) | exact (rfl : _ = 4) | exact (rfl : _ = 5) | exact (rfl : _ = 6) | exact (rfl : _ = 7) | exact (rfl : _ = 8) | exact (rfl : _ = 9) | exact (rfl : _ = 10) | exact (rfl : _ = 11) | exact (rfl : _ = 12) | exact (rfl : _ = 13) | exact (rfl : _ = 14) | exact (rfl : _ = 15) | exact (rfl : _ = 16) | exact (rfl : _ = 17) | exact (rfl : _ = 18) | exact (rfl : _ = 19) | exact (rfl : _ = 20) | exact (rfl : _ = 21) | exact (rfl : _ = 22) | exact (rfl : _ = 23) | exact (rfl : _ = 24) | exact (rfl : _ = 25) | exact (rfl : _ = 26) | exact (rfl : _ = 27) | exact (rfl : _ = 28) | exact (rfl : _ = 29) | exact (rfl : _ = 30) | exact (rfl : _ = 31) | exact (rfl : _ = 32) | exact (rfl : _ = 33) | exact (rfl : _ = 34) | exact (rfl : _ = 35) | exact (rfl : _ = 36) | exact (rfl : _ = 37) | exact (rfl : _ = 38) | exact (rfl : _ = 39)) ?_) | (refine call_mk_look (c_impl_StarsOfBlocks_ok e1 e2 hif (starBlks SS SS.length) SS (stars_back hSS)) rfl (flat_one (FlatO.map fun _ => rfl)) (by first | exact (rfl : _ = 0) | exact (rfl : _ = 1) | exact (rfl : _ = 2) | exact (rfl : _ = 3) | exact (rfl : _ = 4) | exact (rfl : _ = 5) | exact (rfl : _ = 6) | exact (rfl : _ = 7) | exact (rfl : _ = 8) | exact (rfl : _ = 9) | exact (rfl : _ = 10) | exact (rfl : _ = 11) | exact (rfl : _ = 12) | exact (rfl : _ = 13) | exact (rfl : _ = 14) | exact (rfl : _ = 15) | exact (rfl : _ = 16) | exact (rfl : _ = 17) | exact (rfl : _ = 18) | exact (rfl : _ = 19) | exact (rfl : _ = 20) | exact (rfl : _ = 21) | exact (rfl : _ = 22) | exact (rfl : _ = 23) | exact (rfl : _ = 24) | exact (rfl : _ = 25) | exact (rfl : _ = 26) | exact (rfl : _ = 27) | exact (rfl : _ = 28) | exact (rfl : _ = 29) | exact (rfl : _ = 30) | exact (rfl : _ = 31) | exact (rfl : _ = 32) | exact (rfl : _ = 33) | exact (rfl : _ = 34) | exact (rfl : _ = 35) | exact (rfl : _ = 36) | exact (rfl : _ = 37) | exact (rfl : _ = 38) | exact (rfl : _ = 39)) ?_)) | ((with_reducible refine isCallQ ?_); first | (refine callQ_pure ((c_impl_SaveBlocks_ok LS hL).atE e1 e2) rfl rfl ?_) | (refine callQ_look ((c_spec_SameBlocks_eq LS).anyG) rfl ?_) | (refine callQ_pure ((c_spec_SaveBlocks_ok LS hL).anyG) rfl rfl ?_) | (refine callQ_pure (hw3.anyG) rfl rfl ?_) | (refine callQ_pure (hz3.anyG) rfl rfl ?_) | (refine callQ_pure (hlb) rfl rfl ?_)) | refine sP ?_ | (refine sE ?_; intro x hx) | (refine sF ?_; intro i y hi hy) | (refine sI ?_; intro i hi) | (refine sL ?_; intro hlen) | (refine sQ ?_; intro c hc hcm; try simp only [lnM, lnA, lnC, lnN] at hc) | (refine sX ?_; intro i1 i2 hi1 hi2 hj1 hj2; try simp only [cutL, lnM, lnA, lnC, lnN, lnT, lnD, lnR] at hi1 hi2 hj2) | refine sD ?_ | (refine ret_pick [] rfl rfl rfl ⟨?_, rfl⟩; conv => lhs; whnf) | (refine ret_pick [0] rfl rfl rfl ⟨rfl, ?_⟩) | (refine sH ?_; clear hn he hr Q')))
  all_goals first | (exact absurd (by assumption) hv) | skip
  refine loop_env (fun k : Nat => [(19,.sl 5 (SS.map encStar)),(22,.h 0),(24,.int .i64 k)]) (fun _ => [.row 68 5 (SS.map encStar)]) (fun k => k ≤ SS.length) (fun k => SS.length - k) 0 (Nat.zero_le _) (by refine weak_selp [5] rfl ?_ ?_ <;> (repeat' (first | exact trivial | rfl | refine And.intro ?_ ?_))) (fun k hk Q' hn he hr => ?_)
  by_cases hkl : k < SS.length
  · obtain ⟨x, hSx⟩ : ∃ x, SS[k]? = some x := ⟨_, List.getElem?_eq_getElem hkl⟩
    have hq := eqd_Star x x
    rw [eqTStar_refl] at hq
    repeat' (first | refine sC ?_ | ((with_reducible refine isAwp ?_); first | (refine sS ?_; intro Q' hn he hr) | refine sA ?_) | (refine sH ?_; clear hn he hr Q') | refine sO ?_ | ((conv => whnf); first | refine sK ?_ | (refine sB ?_; repeat' (first | refine sb0 ?_ | (refine sb2 ?_ ?_ <;> intro hb <;> try exact cls))) | (refine ElemS.the hSx ?_) | (refine InS.nat (by rw [List.length_map]; omega) ?_) | (refine EqS.mk hq ?_) | refine sP ?_ | (refine sE ?_; intro x hx) | (refine sF ?_; intro i y hi hy) | (refine sI ?_; intro i hi) | (refine sL ?_; intro hlen) | (refine sQ ?_; intro c hc hcm; try simp only [lnM, lnA, lnC, lnN] at hc) | (refine sX ?_; intro i1 i2 hi1 hi2 hj1 hj2; try simp only [cutL, lnM, lnA, lnC, lnN, lnT, lnD, lnR] at hi1 hi2 hj2) | refine sD ?_ | (refine ret_pick [] rfl rfl rfl ⟨?_, rfl⟩; conv => lhs; whnf) | (refine ret_pick [0] rfl rfl rfl ⟨rfl, ?_⟩) | (refine sH ?_; clear hn he hr Q')))
    all_goals first | exact ⟨k + 1, by omega, by omega, (by refine weak_to rfl rfl rfl ?_; ((repeat' (first | exact trivial | refine And.intro ?_ ?_)) <;> (first | rfl | (conv => rhs; whnf) <;> (first | rfl | (refine congrArg (D.int _) ?_; omega)))))⟩ | trace_state
  · repeat' (first | refine sC ?_ | ((with_reducible refine isAwp ?_); first | (refine sS ?_; intro Q' hn he hr) | refine sA ?_) | (refine sH ?_; clear hn he hr Q') | refine sO ?_ | ((conv => whnf); first | refine sK ?_ | (refine sB ?_; repeat' (first | refine sb0 ?_ | (refine sb2 ?_ ?_ <;> intro hb <;> try exact cls))) | refine sP ?_ | (refine sE ?_; intro x hx) | (refine sF ?_; intro i y hi hy) | (refine sI ?_; intro i hi) | (refine sL ?_; intro hlen) | (refine sQ ?_; intro c hc hcm; try simp only [lnM, lnA, lnC, lnN] at hc) | (refine sX ?_; intro i1 i2 hi1 hi2 hj1 hj2; try simp only [cutL, lnM, lnA, lnC, lnN, lnT, lnD, lnR] at hi1 hi2 hj2) | refine sD ?_ | (refine ret_pick [] rfl rfl rfl ⟨?_, rfl⟩; conv => lhs; whnf) | (refine ret_pick [0] rfl rfl rfl ⟨rfl, ?_⟩) | (refine sH ?_; clear hn he hr Q')))
    all_goals trace_state
end Go.Eng
