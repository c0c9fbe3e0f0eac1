/-
  Plans of loading and the findings of the media: the contracts of the program's functions and of the reference's.
  No conditions.
-/
import Derived.Test.YtigdnelbanaieaaGreatDoorED
import Derived.Test.YtigdnelbanaieaaGreatDoorMF0
import Derived.Test.YtigdnelbanaieaaGreatDoorD1
import Derived.Test.YtigdnelbanaieaaGreatDoorVY
set_option linter.unusedVariables false
set_option linter.unusedSimpArgs false
set_option maxHeartbeats 4000000
namespace Go.Eng
open Go Go.RowKit Go.Proofs
set_option maxRecDepth 100000
theorem quoUp_bound {a b : Int} (ha : 0 ≤ a ∧ a ≤ 100000000) (hb0 : 1 ≤ b ∧ b ≤ 100000) : -9223372036854775808 ≤ (a + b - 1).tdiv b ∧ (a + b - 1).tdiv b ≤ 9223372036854775807 := by
  rw [Int.tdiv_eq_ediv_of_nonneg (by omega)]
  have h1 : 0 ≤ (a + b - 1) / b := Int.ediv_nonneg (by omega) (by omega)
  have h2 := Int.ediv_le_self (b := b) (show 0 ≤ a + b - 1 by omega)
  omega
theorem c_impl_quotientUp (a b : Int) (ha : 0 ≤ a ∧ a ≤ 100000000) (hb0 : 1 ≤ b ∧ b ≤ 100000) : FnC Tryz.prog 173 G0 0 [] [.int .i64 a, .int .i64 b] (fun d os => d = .int .i64 ((a + b - 1).tdiv b) ∧ os = []) := by
  have hq := quoUp_bound ha hb0
  refine fn_rule Tryz.func173 rfl (by decide +kernel) rfl (fun w0 F0 lent β0 => ?_)
  repeat' (first | refine sC ?_ | ((with_reducible refine isAwp ?_); first | (refine sS ?_; intro Q' hn he hr) | refine sA ?_) | (refine sH ?_; clear hn he hr Q') | ((conv => whnf); first | refine sK ?_ | (refine AskS.mk ⟨by omega, ?_⟩) | (refine ArithS.in64 hq ?_) | refine sP ?_ | (refine ret_pick [] rfl rfl rfl ⟨?_, rfl⟩; conv => lhs; whnf)))
theorem c_spec_l25Load (s b : Int) (hs : 0 ≤ s ∧ s ≤ 100000) (hb0 : 1 ≤ b ∧ b ≤ 100000) : FnC Tryz.prog 145 G0 0 [] [.int .i64 s, .int .i64 b] (fun d os => d = .int .i64 ((1000 * s + b - 1).tdiv b) ∧ os = []) := by
  have hq := quoUp_bound (a := 1000 * s) (b := b) (by omega) hb0
  refine fn_rule Tryz.func145 rfl (by decide +kernel) rfl (fun w0 F0 lent β0 => ?_)
  repeat' (first | refine sC ?_ | ((with_reducible refine isAwp ?_); first | (refine sS ?_; intro Q' hn he hr) | refine sA ?_) | (refine sH ?_; clear hn he hr Q') | ((conv => whnf); first | refine sK ?_ | (refine AskS.mk ⟨by omega, ?_⟩) | (refine ArithS.in64 hq ?_) | refine sP ?_ | (refine ret_pick [] rfl rfl rfl ⟨?_, rfl⟩; conv => lhs; whnf)))
theorem c_impl_LoadTime (M : List TMedia) (n : List UInt8) (b : Int) (hv : validMs M = true) (hb0 : 1 ≤ b ∧ b ≤ 100000) (hs : ¬ sizeM M n = 0) : FnC Tryz.prog 110 G0 0 [] [.sl 2 (M.map encMedia), .str n, .int .i64 b] (fun d os => d = .tup [.int .i64 (loadT M b n), .int .i64 0] ∧ os = []) := by
  have hz := validMs_size hv n
  have hv2 : inB b 1 100000 = true := by simp [inB]; omega
  refine fn_rule Tryz.func110 rfl (by decide +kernel) rfl (fun w0 F0 lent β0 => ?_)
  repeat' (first | refine sC ?_ | ((with_reducible refine isAwp ?_); first | (refine sS ?_; intro Q' hn he hr) | refine sA ?_) | (refine sH ?_; clear hn he hr Q') | ((conv => whnf); first | refine sK ?_ | (refine sB ?_; repeat' (refine sb2 ?_ ?_ <;> intro hb <;> try exact cls)) | ((with_reducible refine isCall ?_); first | (refine call_pure (c_impl_ValidMedia M) rfl rfl ?_) | (refine call_pure (c_within _ _ _) rfl rfl ?_) | (refine call_pure (c_impl_sizeOf M n) rfl rfl ?_) | (refine call_pure (c_impl_quotientUp _ _ (by omega) (by omega)) rfl rfl ?_)) | refine sP ?_ | (refine ret_pick [] rfl rfl rfl ⟨?_, rfl⟩; conv => lhs; whnf)))
  all_goals rfl
theorem c_impl_checkNeeds (M : List TMedia) (N : List TNeed) (b : Int) (hv : (validMs M && needsQ M N) = true) (hb0 : 1 ≤ b ∧ b ≤ 100000) : FnC Tryz.prog 172 G0 0 [] [.sl 2 (M.map encMedia), .sl 2 (N.map encNeed), .int .i64 b] (fun d os => d = .int .i64 0 ∧ os = []) := by
  have hv2 : inB b 1 100000 = true := by simp [inB]; omega
  refine fn_rule Tryz.func172 rfl (by decide +kernel) rfl (fun w0 F0 lent β0 => ?_)
  repeat' (first | refine sC ?_ | ((with_reducible refine isAwp ?_); first | (refine sS ?_; intro Q' hn he hr) | refine sA ?_) | (refine sH ?_; clear hn he hr Q') | ((conv => whnf); first | refine sK ?_ | (refine sB ?_; repeat' (refine sb2 ?_ ?_ <;> intro hb <;> try exact cls)) | ((with_reducible refine isCall ?_); first | (refine call_pure (c_impl_ValidNeeds M N) rfl rfl ?_) | (refine call_pure (c_within _ _ _) rfl rfl ?_)) | (refine ret_pick [] rfl rfl rfl ⟨?_, rfl⟩; conv => lhs; whnf)))
theorem needs_len {M : List TMedia} {N : List TNeed} (h : needsQ M N = true) : N.length ≤ 16 := by
  simp only [needsQ, Bool.and_eq_true, decide_eq_true_eq] at h
  exact h.1
theorem needs_size {M : List TMedia} {N : List TNeed} (h : needsQ M N = true) {k : Nat} {x : TNeed} (hx : N[k]? = some x) : ¬ sizeM M x.fName = 0 ∧ 0 ≤ x.fTime ∧ x.fTime ≤ 7200000 := by
  simp only [needsQ, Bool.and_eq_true] at h
  have h2 := allI_at h.2 hx
  simp only [needP, inB, Bool.and_eq_true, Bool.not_eq_true', decide_eq_false_iff_not, decide_eq_true_eq] at h2
  exact ⟨h2.1, h2.2.1.1, h2.2.1.2⟩
theorem planT_to {M : List TMedia} {b : Int} {N : List TNeed} (h : validMs M = true) (hb0 : 1 ≤ b ∧ b ≤ 100000) (hl : N.length ≤ 16) (k : Nat) : 0 ≤ planT M b (N.take k) ∧ planT M b (N.take k) ≤ 1600000000 := by
  have h1 := planT_le h hb0 (N.take k)
  have h2 : (N.take k).length ≤ 16 := by rw [List.length_take]; omega
  omega
set_option maxHeartbeats 4000000 in
theorem c_impl_LoadPlan (M : List TMedia) (N : List TNeed) (b : Int) (hv : validMs M = true) (hv2 : needsQ M N = true) (hb0 : 1 ≤ b ∧ b ≤ 100000) : FnC Tryz.prog 109 G0 0 [] [.sl 2 (M.map encMedia), .sl 2 (N.map encNeed), .int .i64 b] (fun d os => d = .tup [.h 0, .int .i64 0] ∧ os = [.row 2 1 ((planR M b N).map encI)]) := by
  have hl := needs_len hv2
  have hpl := planR_len M b N
  refine fn_rule Tryz.func109 rfl (by decide +kernel) rfl (fun w0 F0 lent β0 => ?_)
  repeat' (first | refine sC ?_ | ((with_reducible refine isAwp ?_); first | (refine sS ?_; intro Q' hn he hr) | refine sA ?_) | (refine sH ?_; clear hn he hr Q') | ((conv => whnf); first | refine sK ?_ | (refine sB ?_; repeat' (refine sb2 ?_ ?_ <;> intro hb <;> try exact cls)) | ((with_reducible refine isCall ?_); (refine call_pure (c_impl_checkNeeds M N b (by rw [hv, hv2]; rfl) hb0) rfl rfl ?_)) | refine sP ?_ | (refine sL ?_; intro hlen)))
  refine loop_env (fun k : Nat => [(0,.sl 2 (M.map encMedia)),(1,.sl 2 (N.map encNeed)),(2,.int .i64 b),(9,.h 0),(10,.int .i64 (planT M b (N.take k))),(23,.sl 2 (N.map encNeed)),(24,.int .i64 N.length),(25,.int .i64 k)]) (fun k => [.row 2 1 (fill encI [.int .i64 0] (planR M b N) k)]) (fun k => k ≤ N.length) (fun k => N.length - k) 0 (by omega) (by refine weak_to rfl rfl ?_ ?_; rw [fill_zero, hpl]; rfl; exact ⟨rfl, rfl, rfl, rfl, rfl, rfl, rfl, rfl, trivial⟩) (fun k hk Q' hn he hr => ?_)
  have hpt := planT_to hv hb0 hl k
  by_cases hkl : k < N.length
  · obtain ⟨x, hx0⟩ : ∃ x, N[k]? = some x := ⟨_, List.getElem?_eq_getElem hkl⟩
    have hz := validMs_size hv x.fName
    have hld := loadT_le hv hb0 x.fName
    have hst := planT_step (M := M) (b := b) hx0
    have hat := planR_at M b hkl
    unfold loadT at hld hst
    repeat' (first | refine sC ?_ | ((with_reducible refine isAwp ?_); first | (refine sS ?_; intro Q' hn he hr) | refine sA ?_) | (refine sH ?_; clear hn he hr Q') | ((conv => whnf); first | refine sK ?_ | (refine sB ?_; repeat' (refine sb2 ?_ ?_ <;> intro hb <;> try exact cls)) | (refine ElemS.the hx0 ?_) | (refine InS.fill (by rw [hpl]; omega) ?_) | (refine ElemS.fill (by rw [hpl]; omega) ?_) | ((with_reducible refine isCall ?_); first | (refine call_pure (c_impl_sizeOf M _) rfl rfl ?_) | (refine call_pure (c_impl_quotientUp _ _ (by omega) (by omega)) rfl rfl ?_)) | refine sP ?_))
    refine ⟨k + 1, by omega, by omega, ?_⟩
    rw [hst]
    refine weak_to rfl rfl ?_ ⟨rfl, rfl, rfl, rfl, rfl, rfl, rfl, rfl, trivial⟩
    rw [← fill_set _ _ _ hat]
    rfl
  · obtain rfl : k = N.length := by omega
    have hfa : fill encI [.int .i64 0] (planR M b N) N.length = (planR M b N).map encI := by
      have := fill_all encI [.int .i64 0] (planR M b N)
      rwa [hpl] at this
    rw [hfa]
    repeat' (first | refine sC ?_ | ((with_reducible refine isAwp ?_); first | (refine sS ?_; intro Q' hn he hr) | refine sA ?_) | (refine sH ?_; clear hn he hr Q') | ((conv => whnf); first | refine sK ?_ | (refine sB ?_; repeat' (refine sb2 ?_ ?_ <;> intro hb <;> try exact cls)) | (refine ret_pick [0] rfl rfl rfl ⟨rfl, ?_⟩) | (refine sH ?_; clear hn he hr Q')))
    all_goals rfl
def planTo (M : List TMedia) (b : Int) (N : List TNeed) (k : Nat) : List Int := (List.range k).map fun k => planT M b (N.take k)
theorem planTo_succ (M : List TMedia) (b : Int) (N : List TNeed) (k : Nat) : planTo M b N (k + 1) = planTo M b N k ++ [planT M b (N.take k)] := by
  simp [planTo, List.range_succ]
theorem planTo_len (M : List TMedia) (b : Int) (N : List TNeed) (k : Nat) : (planTo M b N k).length = k := by simp [planTo]
set_option maxHeartbeats 4000000 in
theorem c_spec_l25Plan (M : List TMedia) (N : List TNeed) (b : Int) (hv : validMs M = true) (hv2 : needsQ M N = true) (hb0 : 1 ≤ b ∧ b ≤ 100000) : FnC Tryz.prog 144 G0 0 [] [.sl 2 (M.map encMedia), .sl 2 (N.map encNeed), .int .i64 b] (fun d os => d = .h 0 ∧ os = [.row 2 1 ((planR M b N).map encI)]) := by
  have hl := needs_len hv2
  refine fn_rule Tryz.func144 rfl (by decide +kernel) rfl (fun w0 F0 lent β0 => ?_)
  repeat' (first | refine sC ?_ | ((with_reducible refine isAwp ?_); first | (refine sS ?_; intro Q' hn he hr) | refine sA ?_) | (refine sH ?_; clear hn he hr Q') | ((conv => whnf); refine sK ?_))
  refine loop_env (fun k : Nat => [(0,.sl 2 (M.map encMedia)),(1,.sl 2 (N.map encNeed)),(2,.int .i64 b),(7,.h 0),(8,.int .i64 (planT M b (N.take k))),(9,.int .i64 k)]) (fun k => [.row 2 1 ((planTo M b N k).map encI)]) (fun k => k ≤ N.length) (fun k => N.length - k) 0 (by omega) (by refine weak_to rfl rfl rfl ?_; ((repeat' (first | exact trivial | refine And.intro ?_ ?_)) <;> (first | rfl | (conv => rhs; whnf) <;> (first | rfl | (refine congrArg (D.int _) ?_; omega))))) (fun k hk Q' hn he hr => ?_)
  have hpt := planT_to hv hb0 hl k
  have hlt := planTo_len M b N k
  by_cases hkl : k < N.length
  · obtain ⟨x, hx0⟩ : ∃ x, N[k]? = some x := ⟨_, List.getElem?_eq_getElem hkl⟩
    have hz := validMs_size hv x.fName
    have hld := loadT_le hv hb0 x.fName
    have hst := planT_step (M := M) (b := b) hx0
    unfold loadT at hld hst
    repeat' (first | refine sC ?_ | ((with_reducible refine isAwp ?_); first | (refine sS ?_; intro Q' hn he hr) | refine sA ?_) | (refine sH ?_; clear hn he hr Q') | ((conv => whnf); first | refine sK ?_ | (refine sB ?_; repeat' (refine sb2 ?_ ?_ <;> intro hb <;> try exact cls)) | (refine ElemS.the hx0 ?_) | ((with_reducible refine isCall ?_); first | (refine call_pure (c_spec_l25Size M _) rfl rfl ?_) | (refine call_pure (c_spec_l25Load _ _ (by omega) (by omega)) rfl rfl ?_)) | refine sP ?_ | (refine sL ?_; intro hlen)))
    refine ⟨k + 1, by omega, by omega, ?_⟩
    rw [hst]
    exact (by refine weak_to rfl rfl (by rw [planTo_succ, List.map_append]; rfl) ?_; ((repeat' (first | exact trivial | refine And.intro ?_ ?_)) <;> (first | rfl | (conv => rhs; whnf) <;> (first | rfl | (refine congrArg (D.int _) ?_; omega)))))
  · obtain rfl : k = N.length := by omega
    repeat' (first | refine sC ?_ | ((with_reducible refine isAwp ?_); first | (refine sS ?_; intro Q' hn he hr) | refine sA ?_) | (refine sH ?_; clear hn he hr Q') | ((conv => whnf); first | refine sK ?_ | (refine sB ?_; repeat' (refine sb2 ?_ ?_ <;> intro hb <;> try exact cls)) | (refine sL ?_; intro hlen) | (refine ret_pick [0] rfl rfl rfl ⟨rfl, ?_⟩) | (refine sH ?_; clear hn he hr Q')))
    all_goals rfl
def medAll (h : THouse) : List TFinding := medF h.fMedia h.fBandwidth h.fNeeds h.fNeeds.length
theorem houseB_media {h : THouse} (hv : houseB h = true) : validMs h.fMedia = true ∧ needsQ h.fMedia h.fNeeds = true ∧ 1 ≤ h.fBandwidth ∧ h.fBandwidth ≤ 100000 := by
  simp only [houseB, inB, Bool.and_eq_true, decide_eq_true_eq] at hv
  exact ⟨hv.2.2.2.2.2.2.2.1, hv.2.2.2.2.2.2.2.2.1, hv.2.2.2.2.2.2.2.2.2.2.2.2⟩
set_option maxHeartbeats 8000000 in
theorem c_impl_mediaFindings (h : THouse) (hv : houseB h = true) : FnC Tryz.prog 38 GP 0 [] [.agg (encHouse h)] (fun d os => d = .h 0 ∧ os = [.row 78 3 ((medAll h).map encFinding)]) := by
  obtain ⟨h1, h2, h3⟩ := houseB_media hv
  have hl := needs_len h2
  have hpl := planR_len h.fMedia h.fBandwidth h.fNeeds
  refine fn_rule Tryz.func38 rfl (by decide +kernel) rfl (fun w0 F0 lent β0 => ?_)
  repeat' (first | refine sC ?_ | ((with_reducible refine isAwp ?_); first | (refine sS ?_; intro Q' hn he hr) | refine sA ?_) | (refine sH ?_; clear hn he hr Q') | ((conv => whnf); first | refine sK ?_ | ((with_reducible refine isCall ?_); (refine call_mk (c_impl_LoadPlan h.fMedia h.fNeeds h.fBandwidth h1 h2 h3).anyG rfl (by first | exact (rfl : _ = 0) | exact (rfl : _ = 1) | exact (rfl : _ = 2) | exact (rfl : _ = 3) | exact (rfl : _ = 4) | exact (rfl : _ = 5) | exact (rfl : _ = 6) | exact (rfl : _ = 7) | exact (rfl : _ = 8) | exact (rfl : _ = 9) | exact (rfl : _ = 10) | exact (rfl : _ = 11) | exact (rfl : _ = 12) | exact (rfl : _ = 13) | exact (rfl : _ = 14) | exact (rfl : _ = 15) | exact (rfl : _ = 16) | exact (rfl : _ = 17) | exact (rfl : _ = 18) | exact (rfl : _ = 19) | exact (rfl : _ = 20) | exact (rfl : _ = 21) | exact (rfl : _ = 22) | exact (rfl : _ = 23) | exact (rfl : _ = 24) | exact (rfl : _ = 25) | exact (rfl : _ = 26) | exact (rfl : _ = 27) | exact (rfl : _ = 28) | exact (rfl : _ = 29) | exact (rfl : _ = 30) | exact (rfl : _ = 31) | exact (rfl : _ = 32) | exact (rfl : _ = 33) | exact (rfl : _ = 34) | exact (rfl : _ = 35) | exact (rfl : _ = 36) | exact (rfl : _ = 37) | exact (rfl : _ = 38) | exact (rfl : _ = 39)) ?_)) | (refine sL ?_; intro hlen)))
  refine loop_env (fun k : Nat => [(1,.hp 0 0),(3,.h 2),(4,.h 1),(22,.sl 2 (h.fNeeds.map encNeed)),(23,.int .i64 h.fNeeds.length),(24,.int .i64 k)]) (fun k => [.box (encHouse h), .row 2 1 ((planR h.fMedia h.fBandwidth h.fNeeds).map encI), .row 78 3 ((medF h.fMedia h.fBandwidth h.fNeeds k).map encFinding)]) (fun k => k ≤ h.fNeeds.length) (fun k => h.fNeeds.length - k) 0 (by omega) (by refine Weak.trans (weak_adopt 3 78 3 rfl rfl) (weak_to rfl rfl rfl ?_); exact ⟨rfl, rfl, rfl, rfl, rfl, rfl, trivial⟩) (fun k hk Q' hn he hr => ?_)
  have hpt := planT_to h1 h3 hl k
  have hml := medF_len h.fMedia h.fBandwidth h.fNeeds k
  by_cases hkl : k < h.fNeeds.length
  · obtain ⟨x, hx0⟩ : ∃ x, h.fNeeds[k]? = some x := ⟨_, List.getElem?_eq_getElem hkl⟩
    have hz := validMs_size h1 x.fName
    have hld := loadT_le h1 h3 x.fName
    have hst := planT_step (M := h.fMedia) (b := h.fBandwidth) hx0
    have hle : lateT h.fMedia h.fBandwidth h.fNeeds k x = planT h.fMedia h.fBandwidth (h.fNeeds.take k) + loadT h.fMedia h.fBandwidth x.fName - x.fTime := by rw [lateT, hst]
    obtain ⟨hn0, ht0⟩ := needs_size h2 hx0
    have hat := planR_at h.fMedia h.fBandwidth hkl
    repeat' (first | refine sC ?_ | ((with_reducible refine isAwp ?_); first | (refine sS ?_; intro Q' hn he hr) | refine sA ?_) | (refine sH ?_; clear hn he hr Q') | refine sO ?_ | ((conv => whnf); first | refine sK ?_ | (refine sB ?_; repeat' (refine sb2 ?_ ?_ <;> intro hb <;> try exact cls)) | (refine ElemS.the hx0 ?_) | (refine ElemS.the hat ?_) | ((with_reducible refine isCall ?_); (refine call_pure ((c_impl_LoadTime h.fMedia x.fName h.fBandwidth h1 h3 hn0).anyG) rfl rfl ?_)) | ((with_reducible refine isCallQ ?_); (refine callQ_pure (c_impl_Decimal _ (by omega)) rfl rfl ?_)) | refine sP ?_ | refine sD ?_))
    · refine ⟨k + 1, by omega, by omega, ?_⟩
      exact (by refine weak_to rfl rfl (by rw [medF_yes hx0 (by rw [hle]; assumption), hle, List.map_append]; rfl) ?_; ((repeat' (first | exact trivial | refine And.intro ?_ ?_)) <;> (first | rfl | (conv => rhs; whnf) <;> (first | rfl | (refine congrArg (D.int _) ?_; omega)))))
    · refine ⟨k + 1, by omega, by omega, ?_⟩
      exact (by refine weak_to rfl rfl (by rw [medF_no hx0 (by rw [hle]; omega)]; rfl) ?_; ((repeat' (first | exact trivial | refine And.intro ?_ ?_)) <;> (first | rfl | (conv => rhs; whnf) <;> (first | rfl | (refine congrArg (D.int _) ?_; omega)))))
  · obtain rfl : k = h.fNeeds.length := by omega
    repeat' (first | refine sC ?_ | ((with_reducible refine isAwp ?_); first | (refine sS ?_; intro Q' hn he hr) | refine sA ?_) | (refine sH ?_; clear hn he hr Q') | ((conv => whnf); first | refine sK ?_ | (refine sB ?_; repeat' (refine sb2 ?_ ?_ <;> intro hb <;> try exact cls)) | ((with_reducible refine isRet ?_); (refine ret_pick [2] rfl rfl rfl ⟨rfl, ?_⟩)) | (refine sH ?_; clear hn he hr Q')))
    all_goals rfl
set_option maxHeartbeats 8000000 in
theorem c_spec_l31Media (h : THouse) (r : List D) (hv : houseB h = true) : FnC Tryz.prog 78 G0 0 [] [.rp (encHouseR h r)] (fun d os => d = .h 0 ∧ os = [.row 78 3 ((medAll h).map encFinding)]) := by
  obtain ⟨h1, h2, h3⟩ := houseB_media hv
  have hl := needs_len h2
  have hpl := planR_len h.fMedia h.fBandwidth h.fNeeds
  refine fn_rule Tryz.func78 rfl (by decide +kernel) rfl (fun w0 F0 lent β0 => ?_)
  repeat' (first | refine sC ?_ | ((with_reducible refine isAwp ?_); first | (refine sS ?_; intro Q' hn he hr) | refine sA ?_) | (refine sH ?_; clear hn he hr Q') | refine sO ?_ | ((conv => whnf); first | refine sK ?_ | ((with_reducible refine isCallQ ?_); (refine callQ_plain (.sl 1 ((planR h.fMedia h.fBandwidth h.fNeeds).map encI)) (c_spec_l25Plan h.fMedia h.fNeeds h.fBandwidth h1 h2 h3) rfl (by rintro d os ⟨rfl, rfl⟩; rfl) ?_)) | refine sD ?_))
  refine loop_env (fun k : Nat => [(0,.rp (encHouseR h r)),(3,.h 0),(4,.sl 1 ((planR h.fMedia h.fBandwidth h.fNeeds).map encI)),(5,.int .i64 k)]) (fun k => [.row 78 3 ((medF h.fMedia h.fBandwidth h.fNeeds k).map encFinding)]) (fun k => k ≤ h.fNeeds.length) (fun k => h.fNeeds.length - k) 0 (by omega) (by refine weak_to rfl rfl rfl ?_; ((repeat' (first | exact trivial | refine And.intro ?_ ?_)) <;> (first | rfl | (conv => rhs; whnf) <;> (first | rfl | (refine congrArg (D.int _) ?_; omega))))) (fun k hk Q' hn he hr => ?_)
  have hpt := planT_to h1 h3 hl k
  have hml := medF_len h.fMedia h.fBandwidth h.fNeeds k
  by_cases hkl : k < h.fNeeds.length
  · obtain ⟨x, hx0⟩ : ∃ x, h.fNeeds[k]? = some x := ⟨_, List.getElem?_eq_getElem hkl⟩
    have hz := validMs_size h1 x.fName
    have hld := loadT_le h1 h3 x.fName
    have hst := planT_step (M := h.fMedia) (b := h.fBandwidth) hx0
    have hle : lateT h.fMedia h.fBandwidth h.fNeeds k x = planT h.fMedia h.fBandwidth (h.fNeeds.take k) + (1000 * sizeM h.fMedia x.fName + h.fBandwidth - 1).tdiv h.fBandwidth - x.fTime := by rw [lateT, hst]; rfl
    obtain ⟨hn0, ht0⟩ := needs_size h2 hx0
    have hat := planR_at h.fMedia h.fBandwidth hkl
    unfold loadT at hld
    repeat' (first | refine sC ?_ | ((with_reducible refine isAwp ?_); first | (refine sS ?_; intro Q' hn he hr) | refine sA ?_) | (refine sH ?_; clear hn he hr Q') | refine sO ?_ | ((conv => whnf); first | refine sK ?_ | (refine sB ?_; repeat' (refine sb2 ?_ ?_ <;> intro hb <;> try exact cls)) | (refine ElemS.the hx0 ?_) | (refine ElemS.the hat ?_) | ((with_reducible refine isCallQ ?_); first | (refine callQ_pure (c_spec_l25Size h.fMedia _) rfl rfl ?_) | (refine callQ_pure (c_spec_l25Load _ _ (by omega) (by omega)) rfl rfl ?_) | (refine callQ_pure (c_spec_l01Dec _ (by omega)) rfl rfl ?_)) | refine sP ?_ | (refine sL ?_; intro hlen) | refine sD ?_))
    · refine ⟨k + 1, by omega, by omega, ?_⟩
      exact (by refine weak_to rfl rfl (by rw [medF_yes hx0 (by rw [hle]; assumption), hle, List.map_append]; rfl) ?_; ((repeat' (first | exact trivial | refine And.intro ?_ ?_)) <;> (first | rfl | (conv => rhs; whnf) <;> (first | rfl | (refine congrArg (D.int _) ?_; omega)))))
    · refine ⟨k + 1, by omega, by omega, ?_⟩
      exact (by refine weak_to rfl rfl (by rw [medF_no hx0 (by rw [hle]; omega)]; rfl) ?_; ((repeat' (first | exact trivial | refine And.intro ?_ ?_)) <;> (first | rfl | (conv => rhs; whnf) <;> (first | rfl | (refine congrArg (D.int _) ?_; omega)))))
  · obtain rfl : k = h.fNeeds.length := by omega
    repeat' (first | refine sC ?_ | ((with_reducible refine isAwp ?_); first | (refine sS ?_; intro Q' hn he hr) | refine sA ?_) | (refine sH ?_; clear hn he hr Q') | ((conv => whnf); first | refine sK ?_ | (refine sB ?_; repeat' (refine sb2 ?_ ?_ <;> intro hb <;> try exact cls)) | ((with_reducible refine isRet ?_); (refine ret_pick [0] rfl rfl rfl ⟨rfl, ?_⟩)) | (refine sL ?_; intro hlen) | (refine sH ?_; clear hn he hr Q')))
    all_goals rfl
end Go.Eng
