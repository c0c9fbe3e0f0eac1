/-
  Contracts of functions of the program and of the reference, and plain laws: a bundle of texts.
  No conditions.
-/
import Derived.Test.YtieiboeboejmkaaGreatDoorED
import Derived.Test.YtieiboeboejmkaaGreatDoorAVB
import Derived.Test.YtieiboeboejmkaaGreatDoorPX
import Derived.Test.YtieiboeboejmkaaGreatDoorTPD
import Derived.Test.YtieiboeboejmkaaGreatDoorFU
import Derived.Test.YtieiboeboejmkaaGreatDoorFQ2
import Derived.Test.YtieiboeboejmkaaGreatDoorAIB
set_option linter.unusedVariables false
set_option linter.unusedSimpArgs false
set_option maxHeartbeats 4000000
namespace Go.Eng
open Go Go.RowKit Go.Proofs
set_option maxRecDepth 100000
theorem pass_parts {h : THouse} (hp : passB h = true) : houseB h = true ∧ domF h = [] ∧ cueAll h = [] ∧ seatAll h = [] ∧ medAll h = [] := by
  simp only [passB, Bool.and_eq_true, decide_eq_true_eq] at hp
  obtain ⟨h1, h2⟩ := hp
  have h3 : auditF h = [] := List.length_eq_zero_iff.1 (by omega)
  simp only [auditF, List.append_eq_nil_iff] at h3
  exact ⟨h1, h3.1.1.1, h3.1.1.2, h3.1.2, h3.2⟩
theorem dark_none {h : THouse} (h0 : domF h = []) : darkL h.fProjectors (spotsL h.fStep) = [] := List.map_eq_nil_iff.1 h0
theorem reach_some {h : THouse} (h0 : domF h = []) {a b : Int} (hs : [a, b] ∈ spotsL h.fStep) : ¬ reachN h.fProjectors a b = 0 := by
  intro e
  have h1 := List.filter_eq_nil_iff.1 (dark_none h0) [a, b] hs
  apply h1
  unfold darkB
  rw [decide_eq_true_eq]
  exact e
theorem cue_none {h : THouse} (h0 : cueAll h = []) : clashL h.fCues 0 = [] ∧ targF h.fFixtures h.fCues = [] ∧ runC h.fScript h.fBudget = 0 := by
  simp only [cueAll, cue3, cue2, cue1, List.append_eq_nil_iff] at h0
  obtain ⟨⟨⟨h1, h2⟩, h3⟩, _⟩ := h0
  refine ⟨List.map_eq_nil_iff.1 h1, h2, ?_⟩
  unfold runFi at h3
  split at h3
  · assumption
  · cases h3
theorem targ_some {h : THouse} (h0 : targF h.fFixtures h.fCues = []) {k : Nat} {c : TCue} (hc : h.fCues[k]? = some c) : ∃ f ∈ h.fFixtures, f.fName = c.fTarget := by
  have h1 := List.filter_eq_nil_iff.1 (List.map_eq_nil_iff.1 h0) c (List.mem_of_getElem? hc)
  apply Classical.byContradiction
  intro hne
  apply h1
  unfold missB
  rw [decide_eq_true_eq]
  have h2 : noneTo (isFix c.fTarget) h.fFixtures h.fFixtures.length := fun j f _ hf => by
    have h3 : ¬ f.fName = c.fTarget := fun e => hne ⟨f, List.mem_of_getElem? hf, e⟩
    simp [isFix, h3]
  rw [idxQ_none h2 (Nat.le_refl _)]
  omega
theorem seat_none {h : THouse} : ∀ {n : Nat}, seatF h n = [] → ∀ {k : Nat} {x : Int}, k < n → h.fBooked[k]? = some x → ¬ scoreS h x < h.fLeast := by
  intro n
  induction n with
  | zero => intro _ k x hk; omega
  | succ n ih =>
    intro h0 k x hk hx hl
    simp only [seatF, List.append_eq_nil_iff] at h0
    by_cases e : k = n
    · subst e
      have h2 := h0.2
      rw [hx] at h2
      simp only [if_pos hl] at h2
      cases h2
    · exact ih h0.1 (by omega) hx hl
theorem med_none {h : THouse} : ∀ {n : Nat}, medF h.fMedia h.fBandwidth h.fNeeds n = [] → ∀ {k : Nat} {x : TNeed}, k < n → h.fNeeds[k]? = some x → ¬ 0 < lateT h.fMedia h.fBandwidth h.fNeeds k x := by
  intro n
  induction n with
  | zero => intro _ k x hk; omega
  | succ n ih =>
    intro h0 k x hk hx hl
    simp only [medF, List.append_eq_nil_iff] at h0
    by_cases e : k = n
    · subst e
      have h2 := h0.2
      rw [hx] at h2
      simp only [if_pos hl] at h2
      cases h2
    · exact ih h0.1 (by omega) hx hl
end Go.Eng

namespace Go.Eng
open Go Go.RowKit Go.Proofs
set_option maxRecDepth 100000
set_option maxHeartbeats 8000000 in
theorem c_spec_RunScript (S : List TLine) (b : Int) (hv : scrsB S = true) (hb0 : 1 ≤ b ∧ b ≤ 20000) (hc : runC S b = 0) : FnC Tryz.prog 15 G0 0 [] [.sl 3 (S.map encLine), .int .i64 b] (fun d os => (∃ ev : List (Int × List UInt8), d = .tup [.sl 2 (ev.map encEv), .int .i64 0]) ∧ os = []) := by
  have h2 := c_spec_l15Do2 S b hv hb0
  rw [hc] at h2
  refine fn_rule Tryz.func15 rfl (by decide +kernel) rfl (fun w0 F0 lent β0 => ?_)
  repeat' (first | refine sC ?_ | ((with_reducible refine isAwp ?_); first | (refine sS ?_; intro Q' hn he hr) | refine sA ?_) | (refine sH ?_; clear hn he hr Q') | ((conv => whnf); first | refine sK ?_ | (refine sB ?_; repeat' (refine sb2 ?_ ?_ <;> intro hb <;> try exact cls)) | ((with_reducible refine isCall ?_); (refine call_plain h2 rfl ?_; rintro d os ⟨ev, t, l, sn, hev, rfl, rfl⟩)) | ((with_reducible refine isRet ?_); (refine ret_freeze 1 rfl (Nat.zero_le _) ?_; refine ret_pick [] rfl rfl rfl ⟨⟨ev, ?_⟩, rfl⟩)) | refine sP ?_))
  all_goals rfl
theorem c_spec_ClashesOf (C : List TCue) (hv : cuesB C = true) : FnC Tryz.prog 14 G0 0 [] [.sl 6 (C.map encCue)] (fun d os => d = .tup [.sl 1 ((clashL C 0).map encSpot), .int .i64 0] ∧ os = []) := by
  refine fn_rule Tryz.func14 rfl (by decide +kernel) rfl (fun w0 F0 lent β0 => ?_)
  repeat' (first | refine sC ?_ | ((with_reducible refine isAwp ?_); first | (refine sS ?_; intro Q' hn he hr) | refine sA ?_) | (refine sH ?_; clear hn he hr Q') | ((conv => whnf); first | refine sK ?_ | (refine sB ?_; repeat' (refine sb2 ?_ ?_ <;> intro hb <;> try exact cls)) | ((with_reducible refine isCall ?_); first | (refine call_pure (c_spec_l13Ok C) rfl rfl ?_) | (refine call_pure (c_spec_l13Clashes C hv) rfl rfl ?_)) | (refine ret_pick [] rfl rfl rfl ⟨?_, rfl⟩; conv => lhs; whnf)))
  all_goals rfl
theorem c_spec_l23Ask (R : List TRing) (k : Int) (hR : ringsB R = true) (h0 : 0 ≤ k) (h1 : k < sumC R) : FnC Tryz.prog 63 G0 0 [] [.sl 5 (R.map encRing), .int .i64 k] (fun d os => d = .int .i64 0 ∧ os = []) := by
  obtain ⟨g1, g2, g3, g4⟩ := ringsB_all hR
  have hv2 : inB k 0 (sumC R - 1) = true := by simp only [inB, decide_eq_true_eq]; omega
  refine fn_rule Tryz.func63 rfl (by decide +kernel) rfl (fun w0 F0 lent β0 => ?_)
  repeat' (first | refine sC ?_ | ((with_reducible refine isAwp ?_); first | (refine sS ?_; intro Q' hn he hr) | refine sA ?_) | (refine sH ?_; clear hn he hr Q') | ((conv => whnf); first | refine sK ?_ | (refine sB ?_; repeat' (refine sb2 ?_ ?_ <;> intro hb <;> try exact cls)) | ((with_reducible refine isCall ?_); first | (refine call_pure (c_spec_l23Ok R) rfl rfl ?_) | (refine call_pure (c_spec_l23All R g1 g2) rfl rfl ?_) | (refine call_pure (c_l00In _ _ _) rfl rfl ?_)) | refine sP ?_ | (refine ret_pick [] rfl rfl rfl ⟨?_, rfl⟩; conv => lhs; whnf)))
  all_goals first | rfl | (exact absurd (hR.symm.trans (by assumption)) (by decide)) | trace_state
theorem c_spec_SeatScore (d : TDome) (R : List TRing) (k : Int) (hv : domB d = true) (hR : ringsB R = true) (h0 : 0 ≤ k) (h1 : k < sumC R) : FnC Tryz.prog 18 G0 0 [] [.agg (encDome d), .sl 5 (R.map encRing), .int .i64 k] (fun e os => e = .tup [.int .i64 (scoreV d (placeV R k)), .int .i64 0] ∧ os = []) := by
  refine fn_rule Tryz.func18 rfl (by decide +kernel) rfl (fun w0 F0 lent β0 => ?_)
  repeat' (first | refine sC ?_ | ((with_reducible refine isAwp ?_); first | (refine sS ?_; intro Q' hn he hr) | refine sA ?_) | (refine sH ?_; clear hn he hr Q') | ((conv => whnf); first | refine sK ?_ | (refine sB ?_; repeat' (refine sb2 ?_ ?_ <;> intro hb <;> try exact cls)) | ((with_reducible refine isCall ?_); first | (refine call_look (c_spec_l09Ok d []) rfl ?_) | (refine call_pure (c_spec_l23Ask R k hR h0 h1) rfl rfl ?_) | (refine call_pure (c_spec_l23Place R k hR h0 h1) rfl rfl ?_) | (refine call_look (c_spec_l23Score d [] R k hv hR h0 h1) rfl ?_)) | (refine ret_pick [] rfl rfl rfl ⟨?_, rfl⟩; conv => lhs; whnf)))
  all_goals first | rfl | trace_state
theorem c_spec_l25Ask (M : List TMedia) (N : List TNeed) (b : Int) (hv : validMs M = true) (hv2 : needsQ M N = true) (hb0 : 1 ≤ b ∧ b ≤ 100000) : FnC Tryz.prog 66 G0 0 [] [.sl 2 (M.map encMedia), .sl 2 (N.map encNeed), .int .i64 b] (fun d os => d = .int .i64 0 ∧ os = []) := by
  have hv3 : inB b 1 100000 = true := by simp only [inB, decide_eq_true_eq]; exact hb0
  refine fn_rule Tryz.func66 rfl (by decide +kernel) rfl (fun w0 F0 lent β0 => ?_)
  repeat' (first | refine sC ?_ | ((with_reducible refine isAwp ?_); first | (refine sS ?_; intro Q' hn he hr) | refine sA ?_) | (refine sH ?_; clear hn he hr Q') | ((conv => whnf); first | refine sK ?_ | (refine sB ?_; repeat' (first | refine sb0 ?_ | (refine sb2 ?_ ?_ <;> intro hb <;> try exact cls))) | ((with_reducible refine isCall ?_); first | (refine call_pure (c_spec_l25Ok M) rfl rfl ?_) | (refine call_pure (c_spec_l25Needs M N) rfl rfl ?_) | (refine call_pure (c_spec_l25Bandwidth b) rfl rfl ?_)) | (refine ret_pick [] rfl rfl rfl ⟨?_, rfl⟩; conv => lhs; whnf)))
  all_goals first | rfl | trace_state
set_option maxHeartbeats 8000000 in
theorem c_spec_l25Late (M : List TMedia) (N : List TNeed) (b : Int) (hv : validMs M = true) (hv2 : needsQ M N = true) (hb0 : 1 ≤ b ∧ b ≤ 100000) (hn0 : ∀ (k : Nat) x, N[k]? = some x → ¬ 0 < lateT M b N k x) : FnC Tryz.prog 67 G0 0 [] [.sl 2 (M.map encMedia), .sl 2 (N.map encNeed), .int .i64 b] (fun d os => (∃ z : Int, d = .int .i64 z ∧ z ≤ 0) ∧ os = []) := by
  have hl := needs_len hv2
  have hpl := planR_len M b N
  refine fn_rule Tryz.func67 rfl (by decide +kernel) rfl (fun w0 F0 lent β0 => ?_)
  repeat' (first | refine sC ?_ | ((with_reducible refine isAwp ?_); first | (refine sS ?_; intro Q' hn he hr) | refine sA ?_) | (refine sH ?_; clear hn he hr Q') | ((conv => whnf); first | refine sK ?_ | ((with_reducible refine isCall ?_); (refine call_mk (c_spec_l25Plan M N b hv hv2 hb0) rfl (by first | exact (rfl : _ = 0) | exact (rfl : _ = 1) | exact (rfl : _ = 2) | exact (rfl : _ = 3) | exact (rfl : _ = 4) | exact (rfl : _ = 5) | exact (rfl : _ = 6) | exact (rfl : _ = 7) | exact (rfl : _ = 8) | exact (rfl : _ = 9) | exact (rfl : _ = 10) | exact (rfl : _ = 11) | exact (rfl : _ = 12) | exact (rfl : _ = 13) | exact (rfl : _ = 14) | exact (rfl : _ = 15) | exact (rfl : _ = 16) | exact (rfl : _ = 17) | exact (rfl : _ = 18) | exact (rfl : _ = 19) | exact (rfl : _ = 20) | exact (rfl : _ = 21) | exact (rfl : _ = 22) | exact (rfl : _ = 23) | exact (rfl : _ = 24) | exact (rfl : _ = 25) | exact (rfl : _ = 26) | exact (rfl : _ = 27) | exact (rfl : _ = 28) | exact (rfl : _ = 29) | exact (rfl : _ = 30) | exact (rfl : _ = 31) | exact (rfl : _ = 32) | exact (rfl : _ = 33) | exact (rfl : _ = 34) | exact (rfl : _ = 35) | exact (rfl : _ = 36) | exact (rfl : _ = 37) | exact (rfl : _ = 38) | exact (rfl : _ = 39)) ?_))))
  refine loop_env2 (fun (k : Nat) (z : Int) => [(0,.sl 2 (M.map encMedia)),(1,.sl 2 (N.map encNeed)),(2,.int .i64 b),(7,.h 0),(8,.int .i64 z),(9,.int .i64 k)]) (fun _ _ => [.row 2 1 ((planR M b N).map encI)]) (fun k z => k ≤ N.length ∧ z ≤ 0) (fun k _ => N.length - k) 0 0 ⟨by omega, by omega⟩ (by refine weak_to rfl rfl rfl ?_; ((repeat' (first | exact trivial | refine And.intro ?_ ?_)) <;> (first | rfl | (conv => rhs; whnf) <;> (first | rfl | (refine congrArg (D.int _) ?_; omega))))) (fun k z hk Q' hn he hr => ?_)
  obtain ⟨hk1, hk2⟩ := hk
  have hpt := planT_to hv hb0 hl k
  by_cases hkl : k < N.length
  · obtain ⟨x, hx0⟩ : ∃ x, N[k]? = some x := ⟨_, List.getElem?_eq_getElem hkl⟩
    have hz := validMs_size hv x.fName
    have hld := loadT_le hv hb0 x.fName
    have hst := planT_step (M := M) (b := b) hx0
    have hle : lateT M b N k x = planT M b (N.take k) + (1000 * sizeM M x.fName + b - 1).tdiv b - x.fTime := by rw [lateT, hst]; rfl
    have hno := hn0 k x hx0
    rw [hle] at hno
    obtain ⟨hm0, ht0⟩ := needs_size hv2 hx0
    have hat := planR_at M b hkl
    unfold loadT at hld
    by_cases hup : k = 0 ∨ z < (planT M b (N.take k) + (1000 * sizeM M x.fName + b - 1).tdiv b - x.fTime)
    · repeat' (first | refine sC ?_ | ((with_reducible refine isAwp ?_); first | (refine sS ?_; intro Q' hn he hr) | refine sA ?_) | (refine sH ?_; clear hn he hr Q') | refine sO ?_ | ((conv => whnf); first | refine sK ?_ | (refine sB ?_; repeat' (first | refine sb0 ?_ | (refine sb2 ?_ ?_ <;> intro hb <;> try exact cls))) | (refine ElemS.the hx0 ?_) | (refine ElemS.the hat ?_) | (refine InS.nat (by rw [List.length_map, hpl]; omega) ?_) | ((with_reducible refine isCallQ ?_); first | (refine callQ_pure (c_spec_l25Size M _) rfl rfl ?_) | (refine callQ_pure (c_spec_l25Load _ _ (by omega) (by omega)) rfl rfl ?_)) | refine sP ?_ | (refine sL ?_; intro hlen) | refine sD ?_))
      all_goals first
        | (exfalso; omega)
        | (refine ⟨k + 1, (planT M b (N.take k) + (1000 * sizeM M x.fName + b - 1).tdiv b - x.fTime), ⟨by omega, by omega⟩, by omega, ?_⟩; exact (by refine weak_to rfl rfl rfl ?_; ((repeat' (first | exact trivial | refine And.intro ?_ ?_)) <;> (first | rfl | (conv => rhs; whnf) <;> (first | rfl | (refine congrArg (D.int _) ?_; omega))))))
        | trace_state
    · repeat' (first | refine sC ?_ | ((with_reducible refine isAwp ?_); first | (refine sS ?_; intro Q' hn he hr) | refine sA ?_) | (refine sH ?_; clear hn he hr Q') | refine sO ?_ | ((conv => whnf); first | refine sK ?_ | (refine sB ?_; repeat' (first | refine sb0 ?_ | (refine sb2 ?_ ?_ <;> intro hb <;> try exact cls))) | (refine ElemS.the hx0 ?_) | (refine ElemS.the hat ?_) | (refine InS.nat (by rw [List.length_map, hpl]; omega) ?_) | ((with_reducible refine isCallQ ?_); first | (refine callQ_pure (c_spec_l25Size M _) rfl rfl ?_) | (refine callQ_pure (c_spec_l25Load _ _ (by omega) (by omega)) rfl rfl ?_)) | refine sP ?_ | (refine sL ?_; intro hlen) | refine sD ?_))
      all_goals first
        | (exfalso; omega)
        | (refine ⟨k + 1, z, ⟨by omega, by omega⟩, by omega, ?_⟩; exact (by refine weak_to rfl rfl rfl ?_; ((repeat' (first | exact trivial | refine And.intro ?_ ?_)) <;> (first | rfl | (conv => rhs; whnf) <;> (first | rfl | (refine congrArg (D.int _) ?_; omega))))))
        | trace_state
  · repeat' (first | refine sC ?_ | ((with_reducible refine isAwp ?_); first | (refine sS ?_; intro Q' hn he hr) | refine sA ?_) | (refine sH ?_; clear hn he hr Q') | ((conv => whnf); first | refine sK ?_ | (refine sB ?_; repeat' (refine sb2 ?_ ?_ <;> intro hb <;> try exact cls)) | ((with_reducible refine isRet ?_); (refine ret_pick [] rfl rfl rfl ⟨⟨z, rfl, hk2⟩, rfl⟩)) | (refine sL ?_; intro hlen) | (refine sH ?_; clear hn he hr Q')))
    all_goals trace_state
theorem c_spec_LatenessOf (M : List TMedia) (N : List TNeed) (b : Int) (hv : validMs M = true) (hv2 : needsQ M N = true) (hb0 : 1 ≤ b ∧ b ≤ 100000) (hn0 : ∀ (k : Nat) x, N[k]? = some x → ¬ 0 < lateT M b N k x) : FnC Tryz.prog 19 G0 0 [] [.sl 2 (M.map encMedia), .sl 2 (N.map encNeed), .int .i64 b] (fun d os => (∃ z e : Int, d = .tup [.int .i64 z, .int .i64 e] ∧ z ≤ 0) ∧ os = []) := by
  have hl := needs_len hv2
  refine fn_rule Tryz.func19 rfl (by decide +kernel) rfl (fun w0 F0 lent β0 => ?_)
  repeat' (first | refine sC ?_ | ((with_reducible refine isAwp ?_); first | (refine sS ?_; intro Q' hn he hr) | refine sA ?_) | (refine sH ?_; clear hn he hr Q') | ((conv => whnf); first | refine sK ?_ | (refine sB ?_; repeat' (refine sb2 ?_ ?_ <;> intro hb <;> try exact cls)) | ((with_reducible refine isCall ?_); first | (refine call_pure (c_spec_l25Ask M N b hv hv2 hb0) rfl rfl ?_) | (refine call_some (c_spec_l25Late M N b hv hv2 hb0 hn0) rfl ?_; rintro d ⟨z, rfl, hz⟩; refine ⟨rfl, ?_⟩)) | ((with_reducible refine isRet ?_); (refine ret_pick [] rfl rfl rfl ⟨⟨_, _, rfl, ?_⟩, rfl⟩)) | (refine sL ?_; intro hlen)))
  all_goals first | omega | trace_state
end Go.Eng

namespace Go.Eng
open Go Go.RowKit Go.Proofs
set_option maxRecDepth 100000
theorem eqd_Level (a b : TLevel) : EqD Tryz.prog 71 (encLevel a) (encLevel b) (eqTLevel a b) := by
  have h : EqD Tryz.prog 71 (encLevel a) (encLevel b) ((a.fTarget == b.fTarget) && ((a.fValue == b.fValue) && true)) := EqD.flat _ rfl (by decide +kernel) (by decide +kernel) (by rfl)
  simpa [eqTLevel, eqI, eqStr, eqBo] using h
theorem seat_in {h : THouse} (hv : houseB h = true) {k : Nat} {x : Int} (hx : h.fBooked[k]? = some x) : 0 ≤ x ∧ x < sumC h.fRings := by
  have hin := listOk_at (houseB_seat hv).2.2.1 hx
  simp only [inB, decide_eq_true_eq] at hin
  omega
theorem fix_len {h : THouse} (hv : houseB h = true) : h.fFixtures.length ≤ 16 := by
  simp only [houseB, fixsB, Bool.and_eq_true, decide_eq_true_eq] at hv
  exact hv.2.2.2.2.1.1
theorem spots45 {z : Int} (h : 0 ≤ z ∧ z < 4) : [45000 * z, 0] ∈ spotsL 45000 := by
  have h4 : z = 0 ∨ z = 1 ∨ z = 2 ∨ z = 3 := by omega
  rcases h4 with rfl | rfl | rfl | rfl <;> decide +kernel
theorem any_take {F : List TFixture} {k : Nat} {f : TFixture} (hf : F[k]? = some f) (t : List UInt8) : (F.take (k + 1)).any (fun f => f.fName == t) = ((F.take k).any (fun f => f.fName == t) || f.fName == t) := by
  rw [List.take_add_one, hf, Option.toList_some, List.any_append]
  simp
set_option maxHeartbeats 40000000 in
theorem c_FnTop (code more : List UInt8) (_ : ∀ x ∈ code, True) (_ : ∀ x ∈ more, True) : FnC Tryz.prog 3 GA 0 [] [.sl 1 (code.map byteE), .sl 1 (more.map byteE)] (fun d os => d = .bool true ∧ os = []) := by
  obtain ⟨z0, hz1, hz2, hz3⟩ := c_r8At_at more 0 4 (by omega) (by omega)
  obtain ⟨w1, hw1, hw2, hw3⟩ := c_r8Wide_1 more 9000 (by omega)
  refine fn_rule_s Tryz.func3 rfl (by decide +kernel) rfl (fun w0 F0 lent β0 => ?_)
  refine sem_cut (γ := Unit) (fun q => [(0,.sl 1 (code.map byteE)),(1,.sl 1 (more.map byteE))]) (fun q => []) (fun q => True) ?_ ?_
  · refine SemC.of ?_
    repeat' (first | refine sC ?_ | ((with_reducible refine isAwp ?_); refine sA ?_) | ((conv => whnf); refine sK ?_))
    exact ⟨(), trivial, (by refine weak_to rfl rfl rfl ?_; ((repeat' (first | exact trivial | refine And.intro ?_ ?_)) <;> (first | rfl | (conv => rhs; whnf) <;> (first | rfl | (refine congrArg (D.int _) ?_; omega)))))⟩
  rintro ⟨⟩ _
  refine sem_cut (γ := Unit) (fun q => [(0,.sl 1 (code.map byteE)),(1,.sl 1 (more.map byteE))]) (fun q => []) (fun q => True) ?_ ?_
  · refine SemC.of ?_
    repeat' (first | refine sC ?_ | ((with_reducible refine isAwp ?_); first | (refine sS ?_; intro Q' hn he hr) | refine sA ?_) | (refine sH ?_; clear hn he hr Q') | ((conv => whnf); first | refine sK ?_ | (refine sB ?_; repeat' (refine sb2 ?_ ?_ <;> intro hb <;> try exact cls)) | ((with_reducible refine isCall ?_); (refine call_some (c_r8Long code more).anyG rfl ?_; rintro d ⟨b9, rfl⟩; refine ⟨rfl, ?_⟩)) | (refine ret_pick [] rfl rfl rfl ⟨?_, rfl⟩; conv => lhs; whnf)))
    all_goals first | exact ⟨(), trivial, (by refine weak_to rfl rfl rfl ?_; ((repeat' (first | exact trivial | refine And.intro ?_ ?_)) <;> (first | rfl | (conv => rhs; whnf) <;> (first | rfl | (refine congrArg (D.int _) ?_; omega)))))⟩ | rfl | trace_state
  rintro ⟨⟩ _
  refine sem_cut (γ := THouse) (fun h => [(1,.sl 1 (more.map byteE)),(5,.hp 0 0)]) (fun h => [.box (encHouseR h [])]) (fun h => houseB h = true ∧ h.fStep = 45000) ?_ ?_
  · refine SemC.of ?_
    repeat' (first | refine sC ?_ | ((with_reducible refine isAwp ?_); refine sA ?_) | ((conv => whnf); first | refine sK ?_ | ((with_reducible refine isCall ?_); (refine call_some (c_R8House code).anyG rfl ?_; rintro d ⟨h, rfl, hv, hst⟩; refine ⟨rfl, ?_⟩))))
    exact ⟨h, ⟨hv, hst⟩, (by refine weak_to rfl rfl rfl ?_; ((repeat' (first | exact trivial | refine And.intro ?_ ?_)) <;> (first | rfl | (conv => rhs; whnf) <;> (first | rfl | (refine congrArg (D.int _) ?_; omega)))))⟩
  rintro h ⟨hv, hst⟩
  have hpc := c_impl_PassesAudit h
  have hal := auditF_len hv
  by_cases hpf : passB h = false
  · have hp := hpf
    rw [hp] at hpc
    have hne : (auditF h).length ≠ 0 := fun e => by
      rw [passB, hv, e] at hp
      cases hp
    refine sem_cut (γ := Unit) (fun _ => []) (fun _ => []) (fun _ => False) ?_ (fun _ h9 => h9.elim)
    refine SemC.of ?_
    repeat' (first | refine sC ?_ | ((with_reducible refine isAwp ?_); first | (refine sS ?_; intro Q' hn he hr) | refine sA ?_) | (refine sH ?_; clear hn he hr Q') | ((conv => whnf); first | refine sK ?_ | (refine sB ?_; repeat' (first | refine sb0 ?_ | (refine sb2 ?_ ?_ <;> intro hb <;> try exact cls))) | ((with_reducible refine isCall ?_); first | (refine call_pure (hpc) rfl rfl ?_) | (refine call_mk (c_impl_AuditHouse_ok h hv) rfl (by first | exact (rfl : _ = 0) | exact (rfl : _ = 1) | exact (rfl : _ = 2) | exact (rfl : _ = 3) | exact (rfl : _ = 4) | exact (rfl : _ = 5) | exact (rfl : _ = 6) | exact (rfl : _ = 7) | exact (rfl : _ = 8) | exact (rfl : _ = 9) | exact (rfl : _ = 10) | exact (rfl : _ = 11) | exact (rfl : _ = 12) | exact (rfl : _ = 13) | exact (rfl : _ = 14) | exact (rfl : _ = 15) | exact (rfl : _ = 16) | exact (rfl : _ = 17) | exact (rfl : _ = 18) | exact (rfl : _ = 19) | exact (rfl : _ = 20) | exact (rfl : _ = 21) | exact (rfl : _ = 22) | exact (rfl : _ = 23) | exact (rfl : _ = 24) | exact (rfl : _ = 25) | exact (rfl : _ = 26) | exact (rfl : _ = 27) | exact (rfl : _ = 28) | exact (rfl : _ = 29) | exact (rfl : _ = 30) | exact (rfl : _ = 31) | exact (rfl : _ = 32) | exact (rfl : _ = 33) | exact (rfl : _ = 34) | exact (rfl : _ = 35) | exact (rfl : _ = 36) | exact (rfl : _ = 37) | exact (rfl : _ = 38) | exact (rfl : _ = 39)) ?_)) | (refine sL ?_; intro hlen) | (refine ret_pick [] rfl rfl rfl ⟨?_, rfl⟩; conv => lhs; whnf)))
    all_goals first
      | (refine congrArg D.bool ?_; show decide _ = true; rw [decide_eq_true_eq]; omega)
      | rfl
      | trace_state
  have hp : passB h = true := by simpa using hpf
  rw [hp] at hpc
  obtain ⟨_, g1, g2, g3, g4⟩ := pass_parts hp
  obtain ⟨g5, g6, g7⟩ := cue_none g2
  obtain ⟨hD1, hD2, hD3⟩ := houseB_dome hv
  obtain ⟨hC1, hC2, hC3⟩ := houseB_cue hv
  obtain ⟨hS1, hS2, hS3, hS4, hS5⟩ := houseB_seat hv
  obtain ⟨hM1, hM2, hM3⟩ := houseB_media hv
  have hbl := booked_len hv
  have hcl := cues_len hC1
  have hfl : h.fFixtures.length ≤ 16 := fix_len hv
  have hds := c_spec_DarkSpots h.fProjectors h.fStep hD1 ⟨hD2, hD3⟩
  rw [dark_none g1] at hds
  have hcs := c_spec_ClashesOf h.fCues hC1
  rw [g5] at hcs
  have hrs := c_spec_RunScript h.fScript h.fBudget hC2 hC3 g7
  refine sem_cut (γ := Unit) (fun q => [(1,.sl 1 (more.map byteE)),(5,.hp 0 0)]) (fun q => [.box (encHouseR h [])]) (fun q => True) ?_ ?_
  · refine SemC.of ?_
    repeat' (first | refine sC ?_ | ((with_reducible refine isAwp ?_); first | (refine sS ?_; intro Q' hn he hr) | refine sA ?_) | (refine sH ?_; clear hn he hr Q') | ((conv => whnf); first | refine sK ?_ | (refine sB ?_; repeat' refine sb0 ?_) | ((with_reducible refine isCall ?_); (refine call_pure (hpc) rfl rfl ?_))))
    all_goals first | exact ⟨(), trivial, (by refine weak_to rfl rfl rfl ?_; ((repeat' (first | exact trivial | refine And.intro ?_ ?_)) <;> (first | rfl | (conv => rhs; whnf) <;> (first | rfl | (refine congrArg (D.int _) ?_; omega)))))⟩ | trace_state
  rintro ⟨⟩ _
  refine sem_cut (γ := Unit) (fun q => [(1,.sl 1 (more.map byteE)),(5,.hp 0 0),(8,.sl 1 []),(9,.int .i64 0)]) (fun q => [.box (encHouseR h [])]) (fun q => True) ?_ ?_
  · refine SemC.of ?_
    repeat' (first | refine sC ?_ | ((with_reducible refine isAwp ?_); refine sA ?_) | ((conv => whnf); first | refine sK ?_ | ((with_reducible refine isCall ?_); (refine call_pure (hds.anyG) rfl rfl ?_))))
    all_goals first | exact ⟨(), trivial, (by refine weak_to rfl rfl rfl ?_; ((repeat' (first | exact trivial | refine And.intro ?_ ?_)) <;> (first | rfl | (conv => rhs; whnf) <;> (first | rfl | (refine congrArg (D.int _) ?_; omega)))))⟩ | trace_state
  rintro ⟨⟩ _
  refine sem_cut (γ := Unit) (fun q => [(1,.sl 1 (more.map byteE)),(5,.hp 0 0),(8,.sl 1 []),(9,.int .i64 0),(10,.sl 1 []),(11,.int .i64 0)]) (fun q => [.box (encHouseR h [])]) (fun q => True) ?_ ?_
  · refine SemC.of ?_
    repeat' (first | refine sC ?_ | ((with_reducible refine isAwp ?_); refine sA ?_) | ((conv => whnf); first | refine sK ?_ | ((with_reducible refine isCall ?_); (refine call_pure (hcs.anyG) rfl rfl ?_))))
    all_goals first | exact ⟨(), trivial, (by refine weak_to rfl rfl rfl ?_; ((repeat' (first | exact trivial | refine And.intro ?_ ?_)) <;> (first | rfl | (conv => rhs; whnf) <;> (first | rfl | (refine congrArg (D.int _) ?_; omega)))))⟩ | trace_state
  rintro ⟨⟩ _
  refine sem_cut (γ := Unit) (fun q => [(1,.sl 1 (more.map byteE)),(5,.hp 0 0),(8,.sl 1 []),(9,.int .i64 0),(10,.sl 1 []),(11,.int .i64 0),(13,.int .i64 0)]) (fun q => [.box (encHouseR h [])]) (fun q => True) ?_ ?_
  · refine SemC.of ?_
    repeat' (first | refine sC ?_ | ((with_reducible refine isAwp ?_); refine sA ?_) | ((conv => whnf); first | refine sK ?_ | ((with_reducible refine isCall ?_); (refine call_some hrs.anyG rfl ?_; rintro d ⟨ev, rfl⟩; refine ⟨rfl, ?_⟩))))
    all_goals first | exact ⟨(), trivial, (by refine weak_to rfl rfl rfl ?_; ((repeat' (first | exact trivial | refine And.intro ?_ ?_)) <;> (first | rfl | (conv => rhs; whnf) <;> (first | rfl | (refine congrArg (D.int _) ?_; omega)))))⟩ | trace_state
  rintro ⟨⟩ _
  refine sem_cut (γ := Unit) (fun q => [(1,.sl 1 (more.map byteE)),(5,.hp 0 0)]) (fun q => [.box (encHouseR h [])]) (fun q => True) ?_ ?_
  · refine SemC.of ?_
    repeat' (first | refine sC ?_ | ((with_reducible refine isAwp ?_); first | (refine sS ?_; intro Q' hn he hr) | refine sA ?_) | (refine sH ?_; clear hn he hr Q') | ((conv => whnf); first | refine sK ?_ | (refine sB ?_; repeat' (first | refine sb0 ?_ | (refine sb2 ?_ ?_ <;> intro hb <;> try exact cls))) | refine sP ?_))
    all_goals first | exact ⟨(), trivial, (by refine weak_to rfl rfl rfl ?_; ((repeat' (first | exact trivial | refine And.intro ?_ ?_)) <;> (first | rfl | (conv => rhs; whnf) <;> (first | rfl | (refine congrArg (D.int _) ?_; omega)))))⟩ | trace_state
  rintro ⟨⟩ _
  have hsp : ¬ reachN h.fProjectors (45000 * z0) 0 = 0 := reach_some g1 (by rw [hst]; exact spots45 ⟨hz1, hz2⟩)
  have hwt := c_impl_WeightsAt h.fProjectors (45000 * z0) 0 hD1 (by simp only [domeB, inB, Bool.and_eq_true, decide_eq_true_eq]; omega) (reach_sum hD1 hsp)
  refine sem_cut (γ := List Int) (fun L => [(1,.sl 1 (more.map byteE)),(5,.hp 0 0),(14,.h 1),(15,.int .i64 0)]) (fun L => [.box (encHouseR h []), .row 2 1 (L.map encI)]) (fun L => sharesOk h.fProjectors.length 0 L) ?_ ?_
  · refine SemC.of ?_
    repeat' (first | ((with_reducible refine isAwp ?_); refine sA ?_) | ((conv => whnf); first | (refine draw_tree3 (.ins [4] (.fork 0 (.fork 1 (.fork 2 (.fork 3 (.line [5,6,7,8,9,10,11,12]) (.line [5,3,6,7,8,9,10,11,12])) (.line [5,2,3,6,7,8,9,10,11,12])) (.fork 2 (.fork 1 (.fork 3 (.line [5,6,7,8,9,10,11,12]) (.line [5,3,6,7,8,9,10,11,12])) (.fork 3 (.fork 1 (.line [5,6,7,8,9,10,11,12]) (.ins [5] (.fork 1 (.line [6,7,8,9,10,11,12]) (.line [6,1,7,8,9,10,11,12])))) (.ins [5] (.fork 1 (.line [3,6,7,8,9,10,11,12]) (.ins [3] (.fork 1 (.line [6,7,8,9,10,11,12]) (.line [6,1,7,8,9,10,11,12]))))))) (.ins [5] (.fork 1 (.line [2,3,6,7,8,9,10,11,12]) (.ins [2] (.fork 1 (.line [3,6,7,8,9,10,11,12]) (.ins [3] (.fork 1 (.line [6,7,8,9,10,11,12]) (.line [6,1,7,8,9,10,11,12]))))))))) (.fork 2 (.fork 0 (.fork 1 (.fork 3 (.line [5,6,7,8,9,10,11,12]) (.line [5,3,6,7,8,9,10,11,12])) (.fork 3 (.fork 1 (.line [5,6,7,8,9,10,11,12]) (.ins [5] (.fork 1 (.line [6,7,8,9,10,11,12]) (.line [6,1,7,8,9,10,11,12])))) (.ins [5] (.fork 1 (.line [3,6,7,8,9,10,11,12]) (.ins [3] (.fork 1 (.line [6,7,8,9,10,11,12]) (.line [6,1,7,8,9,10,11,12]))))))) (.fork 3 (.fork 0 (.fork 1 (.line [5,6,7,8,9,10,11,12]) (.ins [5] (.fork 1 (.line [6,7,8,9,10,11,12]) (.line [6,1,7,8,9,10,11,12])))) (.ins [5] (.fork 0 (.fork 1 (.line [6,7,8,9,10,11,12]) (.line [6,1,7,8,9,10,11,12])) (.line [6,0,1,7,8,9,10,11,12])))) (.ins [5] (.fork 0 (.fork 1 (.line [3,6,7,8,9,10,11,12]) (.ins [3] (.fork 1 (.line [6,7,8,9,10,11,12]) (.line [6,1,7,8,9,10,11,12])))) (.ins [3] (.fork 0 (.fork 1 (.line [6,7,8,9,10,11,12]) (.line [6,1,7,8,9,10,11,12])) (.line [6,0,1,7,8,9,10,11,12]))))))) (.ins [5] (.fork 0 (.fork 1 (.line [2,3,6,7,8,9,10,11,12]) (.ins [2] (.fork 1 (.line [3,6,7,8,9,10,11,12]) (.ins [3] (.fork 1 (.line [6,7,8,9,10,11,12]) (.line [6,1,7,8,9,10,11,12])))))) (.ins [2] (.fork 0 (.fork 1 (.line [3,6,7,8,9,10,11,12]) (.ins [3] (.fork 1 (.line [6,7,8,9,10,11,12]) (.line [6,1,7,8,9,10,11,12])))) (.ins [3] (.fork 0 (.fork 1 (.line [6,7,8,9,10,11,12]) (.line [6,1,7,8,9,10,11,12])) (.line [6,0,1,7,8,9,10,11,12])))))))))) (by decide +kernel) (by decide +kernel) (by decide +kernel) ?_) | ((with_reducible refine isTree ?_); first | refine treeK_cons rfl ?_ | refine treeK_fork rfl ?_ ?_ | refine treeK_nil ?_) | (refine ArithS.to (45000 * z0) (by rw [hst]) (wrap64 (by omega)) ?_) | ((with_reducible refine isCall ?_); first | (refine call_pure (hz3.anyG) rfl rfl ?_) | (refine call_plain hwt.spS.aS rfl ?_; rintro d os ⟨L, hL, rfl, rfl⟩))))
    all_goals first | exact ⟨L, hL, (by refine weak_to rfl rfl rfl ?_; ((repeat' (first | exact trivial | refine And.intro ?_ ?_)) <;> (first | rfl | (conv => rhs; whnf) <;> (first | rfl | (refine congrArg (D.int _) ?_; omega)))))⟩ | trace_state
  rintro L hL
  have hLl := hL.1
  have hpl := (projs_all hD1).1
  have hWL : wgtsB L := fun k x hx => by have := sharesOk_at hL hx; omega
  have hLs : L.sum = 1000 := by have := hL.2.1; omega
  refine sem_cut (γ := Unit) (fun q => [(1,.sl 1 (more.map byteE)),(5,.hp 0 0),(14,.h 1),(15,.int .i64 0),(16,.int .i64 0)]) (fun q => [.box (encHouseR h []), .row 2 1 (L.map encI)]) (fun q => True) ?_ ?_
  · refine SemC.of ?_
    repeat' (first | refine sC ?_ | ((with_reducible refine isAwp ?_); refine sA ?_) | ((conv => whnf); refine sK ?_))
    all_goals first | exact ⟨(), trivial, (by refine weak_to rfl rfl rfl ?_; ((repeat' (first | exact trivial | refine And.intro ?_ ?_)) <;> (first | rfl | (conv => rhs; whnf) <;> (first | rfl | (refine congrArg (D.int _) ?_; omega)))))⟩ | trace_state
  rintro ⟨⟩ _
  refine sem_cut (γ := Unit) (fun q => [(1,.sl 1 (more.map byteE)),(5,.hp 0 0),(14,.h 1),(15,.int .i64 0),(16,.int .i64 1000)]) (fun q => [.box (encHouseR h []), .row 2 1 (L.map encI)]) (fun q => True) ?_ ?_
  · refine SemC.of ?_
    repeat' (first | refine sC ?_ | ((with_reducible refine isAwp ?_); first | (refine sS ?_; intro Q' hn he hr) | refine sA ?_) | (refine sH ?_; clear hn he hr Q') | ((conv => whnf); refine sK ?_))
    refine loop_env (fun k : Nat => [(1,.sl 1 (more.map byteE)),(5,.hp 0 0),(14,.h 1),(15,.int .i64 0),(16,.int .i64 (L.take k).sum),(17,.int .i64 k)]) (fun _ => [.box (encHouseR h []), .row 2 1 (L.map encI)]) (fun k => k ≤ L.length) (fun k => L.length - k) 0 (by omega) (by refine weak_to rfl rfl rfl ?_; ((repeat' (first | exact trivial | refine And.intro ?_ ?_)) <;> (first | rfl | (conv => rhs; whnf) <;> (first | rfl | (refine congrArg (D.int _) ?_; omega))))) (fun k hk Q' hn he hr => ?_)
    have hb8 := sum_bound hWL k hk
    by_cases hkl : k < L.length
    · obtain ⟨x, hx0⟩ : ∃ x, L[k]? = some x := ⟨_, List.getElem?_eq_getElem hkl⟩
      have hxb := sharesOk_at hL hx0
      have hst2 := sum_take hx0
      repeat' (first | refine sC ?_ | ((with_reducible refine isAwp ?_); first | (refine sS ?_; intro Q' hn he hr) | refine sA ?_) | (refine sH ?_; clear hn he hr Q') | ((conv => whnf); first | refine sK ?_ | (refine sB ?_; repeat' (refine sb2 ?_ ?_ <;> intro hb <;> try exact cls)) | (refine ElemS.the hx0 ?_) | refine sP ?_ | (refine sL ?_; intro hlen)))
      all_goals first
        | (refine ⟨k + 1, by omega, by omega, ?_⟩; rw [hst2]; exact (by refine weak_to rfl rfl rfl ?_; ((repeat' (first | exact trivial | refine And.intro ?_ ?_)) <;> (first | rfl | (conv => rhs; whnf) <;> (first | rfl | (refine congrArg (D.int _) ?_; omega))))))
        | trace_state
    · obtain rfl : k = L.length := by omega
      rw [List.take_length, hLs]
      repeat' (first | refine sC ?_ | ((with_reducible refine isAwp ?_); first | (refine sS ?_; intro Q' hn he hr) | refine sA ?_) | (refine sH ?_; clear hn he hr Q') | ((conv => whnf); first | refine sK ?_ | (refine sB ?_; repeat' (refine sb2 ?_ ?_ <;> intro hb <;> try exact cls)) | (refine sL ?_; intro hlen)))
      all_goals first | exact ⟨(), trivial, (by refine weak_to rfl rfl rfl ?_; ((repeat' (first | exact trivial | refine And.intro ?_ ?_)) <;> (first | rfl | (conv => rhs; whnf) <;> (first | rfl | (refine congrArg (D.int _) ?_; omega)))))⟩ | trace_state
  rintro ⟨⟩ _
  refine sem_cut (γ := Unit) (fun q => [(1,.sl 1 (more.map byteE)),(5,.hp 0 0)]) (fun q => [.box (encHouseR h [])]) (fun q => True) ?_ ?_
  · refine SemC.of ?_
    repeat' (first | refine sC ?_ | ((with_reducible refine isAwp ?_); first | (refine sS ?_; intro Q' hn he hr) | refine sA ?_) | (refine sH ?_; clear hn he hr Q') | ((conv => whnf); first | refine sK ?_ | (refine sB ?_; repeat' (first | refine sb0 ?_ | (refine sb2 ?_ ?_ <;> intro hb <;> try exact cls)))))
    all_goals first | exact ⟨(), trivial, (by refine weak_to rfl rfl rfl ?_; ((repeat' (first | exact trivial | refine And.intro ?_ ?_)) <;> (first | rfl | (conv => rhs; whnf) <;> (first | rfl | (refine congrArg (D.int _) ?_; omega)))))⟩ | trace_state
  rintro ⟨⟩ _
  refine sem_cut (γ := Unit) (fun q => [(1,.sl 1 (more.map byteE)),(5,.hp 0 0)]) (fun q => [.box (encHouseR h [])]) (fun q => True) ?_ ?_
  · refine SemC.of ?_
    repeat' (first | refine sC ?_ | ((with_reducible refine isAwp ?_); first | (refine sS ?_; intro Q' hn he hr) | refine sA ?_) | (refine sH ?_; clear hn he hr Q') | ((conv => whnf); refine sK ?_))
    refine loop_env (fun k : Nat => [(1,.sl 1 (more.map byteE)),(5,.hp 0 0),(18,.int .i64 k)]) (fun _ => [.box (encHouseR h [])]) (fun k => k ≤ h.fBooked.length) (fun k => h.fBooked.length - k) 0 (by omega) (by refine weak_to rfl rfl rfl ?_; ((repeat' (first | exact trivial | refine And.intro ?_ ?_)) <;> (first | rfl | (conv => rhs; whnf) <;> (first | rfl | (refine congrArg (D.int _) ?_; omega))))) (fun k hk Q' hn he hr => ?_)
    by_cases hkl : k < h.fBooked.length
    · obtain ⟨x, hx0⟩ : ∃ x, h.fBooked[k]? = some x := ⟨_, List.getElem?_eq_getElem hkl⟩
      have hxi := seat_in hv hx0
      have hsn := seat_none g3 hkl hx0
      unfold scoreS at hsn
      repeat' (first | refine sC ?_ | ((with_reducible refine isAwp ?_); first | (refine sS ?_; intro Q' hn he hr) | refine sA ?_) | (refine sH ?_; clear hn he hr Q') | refine sO ?_ | ((conv => whnf); first | refine sK ?_ | (refine sB ?_; repeat' (first | refine sb0 ?_ | (refine sb2 ?_ ?_ <;> intro hb <;> try exact cls))) | (refine ElemS.the hx0 ?_) | ((with_reducible refine isCallQ ?_); (refine callQ_pure ((c_spec_SeatScore h.fDome h.fRings x hS1 hS2 hxi.1 hxi.2).anyG) rfl rfl ?_)) | refine sP ?_ | (refine sL ?_; intro hlen) | refine sD ?_))
      all_goals first
        | (exfalso; omega)
        | (refine ⟨k + 1, by omega, by omega, ?_⟩; exact (by refine weak_to rfl rfl rfl ?_; ((repeat' (first | exact trivial | refine And.intro ?_ ?_)) <;> (first | rfl | (conv => rhs; whnf) <;> (first | rfl | (refine congrArg (D.int _) ?_; omega))))))
        | trace_state
    · repeat' (first | refine sC ?_ | ((with_reducible refine isAwp ?_); first | (refine sS ?_; intro Q' hn he hr) | refine sA ?_) | (refine sH ?_; clear hn he hr Q') | ((conv => whnf); first | refine sK ?_ | (refine sB ?_; repeat' (refine sb2 ?_ ?_ <;> intro hb <;> try exact cls)) | (refine sL ?_; intro hlen)))
      all_goals first | exact ⟨(), trivial, (by refine weak_to rfl rfl rfl ?_; ((repeat' (first | exact trivial | refine And.intro ?_ ?_)) <;> (first | rfl | (conv => rhs; whnf) <;> (first | rfl | (refine congrArg (D.int _) ?_; omega)))))⟩ | trace_state
  rintro ⟨⟩ _
  have hlt := c_spec_LatenessOf h.fMedia h.fNeeds h.fBandwidth hM1 hM2 hM3 (fun k x hx => med_none g4 (List.getElem?_eq_some_iff.1 hx).1 hx)
  refine sem_cut (γ := Int × Int) (fun q => [(1,.sl 1 (more.map byteE)),(5,.hp 0 0),(21,.int .i64 q.1),(22,.int .i64 q.2)]) (fun q => [.box (encHouseR h [])]) (fun q => q.1 ≤ 0) ?_ ?_
  · refine SemC.of ?_
    repeat' (first | refine sC ?_ | ((with_reducible refine isAwp ?_); refine sA ?_) | ((conv => whnf); first | refine sK ?_ | ((with_reducible refine isCall ?_); (refine call_some hlt.anyG rfl ?_; rintro d ⟨z, e, rfl, hz⟩; refine ⟨rfl, ?_⟩))))
    all_goals first | exact ⟨(z, e), hz, (by refine weak_to rfl rfl rfl ?_; ((repeat' (first | exact trivial | refine And.intro ?_ ?_)) <;> (first | rfl | (conv => rhs; whnf) <;> (first | rfl | (refine congrArg (D.int _) ?_; omega)))))⟩ | trace_state
  rintro ⟨lz, le⟩ hlz
  dsimp only at hlz ⊢
  refine sem_cut (γ := Unit) (fun q => [(1,.sl 1 (more.map byteE)),(5,.hp 0 0)]) (fun q => [.box (encHouseR h [])]) (fun q => True) ?_ ?_
  · refine SemC.of ?_
    repeat' (first | refine sC ?_ | ((with_reducible refine isAwp ?_); first | (refine sS ?_; intro Q' hn he hr) | refine sA ?_) | (refine sH ?_; clear hn he hr Q') | ((conv => whnf); first | refine sK ?_ | (refine sB ?_; repeat' (first | refine sb0 ?_ | (refine sb2 ?_ ?_ <;> intro hb <;> try exact cls)))))
    all_goals first | exact ⟨(), trivial, (by refine weak_to rfl rfl rfl ?_; ((repeat' (first | exact trivial | refine And.intro ?_ ?_)) <;> (first | rfl | (conv => rhs; whnf) <;> (first | rfl | (refine congrArg (D.int _) ?_; omega)))))⟩ | (exfalso; omega) | trace_state
  rintro ⟨⟩ _
  refine sem_cut (γ := Unit) (fun q => [(1,.sl 1 (more.map byteE)),(5,.hp 0 0)]) (fun q => [.box (encHouseR h [])]) (fun q => True) ?_ ?_
  · refine SemC.of ?_
    repeat' (first | refine sC ?_ | ((with_reducible refine isAwp ?_); first | (refine sS ?_; intro Q' hn he hr) | refine sA ?_) | (refine sH ?_; clear hn he hr Q') | ((conv => whnf); refine sK ?_))
    refine loop_env (fun k : Nat => [(1,.sl 1 (more.map byteE)),(5,.hp 0 0),(23,.int .i64 k)]) (fun _ => [.box (encHouseR h [])]) (fun k => k ≤ h.fCues.length) (fun k => h.fCues.length - k) 0 (by omega) (by refine weak_to rfl rfl rfl ?_; ((repeat' (first | exact trivial | refine And.intro ?_ ?_)) <;> (first | rfl | (conv => rhs; whnf) <;> (first | rfl | (refine congrArg (D.int _) ?_; omega))))) (fun k hk Q' hn he hr => ?_)
    by_cases hkl : k < h.fCues.length
    · obtain ⟨c, hc0⟩ : ∃ c, h.fCues[k]? = some c := ⟨_, List.getElem?_eq_getElem hkl⟩
      obtain ⟨f0, hf1, hf2⟩ := targ_some g6 hc0
      have hany : h.fFixtures.any (fun f => f.fName == c.fTarget) = true := List.any_eq_true.2 ⟨f0, hf1, by simp [hf2]⟩
      repeat' (first | refine sC ?_ | ((with_reducible refine isAwp ?_); first | (refine sS ?_; intro Q' hn he hr) | refine sA ?_) | (refine sH ?_; clear hn he hr Q') | ((conv => whnf); first | refine sK ?_ | (refine sB ?_; repeat' (refine sb2 ?_ ?_ <;> intro hb <;> try exact cls)) | (refine sL ?_; intro hlen)))
      refine loop_env (fun j : Nat => [(1,.sl 1 (more.map byteE)),(5,.hp 0 0),(23,.int .i64 k),(24,.bool ((h.fFixtures.take j).any (fun f => f.fName == c.fTarget))),(25,.int .i64 j)]) (fun _ => [.box (encHouseR h [])]) (fun j => j ≤ h.fFixtures.length) (fun j => h.fFixtures.length - j) 0 (by omega) (by refine weak_to rfl rfl rfl ?_; ((repeat' (first | exact trivial | refine And.intro ?_ ?_)) <;> (first | rfl | (conv => rhs; whnf) <;> (first | rfl | (refine congrArg (D.int _) ?_; omega))))) (fun j hj Q' hn he hr => ?_)
      by_cases hjl : j < h.fFixtures.length
      · obtain ⟨f, hf0⟩ : ∃ f, h.fFixtures[j]? = some f := ⟨_, List.getElem?_eq_getElem hjl⟩
        have hst3 := any_take hf0 c.fTarget
        cases hb7 : (h.fFixtures.take j).any (fun f => f.fName == c.fTarget) with
        | true =>
          rw [hb7] at hst3
          repeat' (first | refine sC ?_ | ((with_reducible refine isAwp ?_); first | (refine sS ?_; intro Q' hn he hr) | refine sA ?_) | (refine sH ?_; clear hn he hr Q') | refine sO ?_ | ((conv => whnf); first | refine sK ?_ | (refine sB ?_; repeat' (first | refine sb0 ?_ | (refine sb2 ?_ ?_ <;> intro hb <;> try exact cls))) | (refine draw_n 16 (by decide +kernel) (by decide +kernel) ?_) | refine sP ?_ | (refine sL ?_; intro hlen)))
          all_goals first
            | (refine ⟨j + 1, by omega, by omega, ?_⟩; rw [hst3]; exact (by refine weak_to rfl rfl rfl ?_; ((repeat' (first | exact trivial | refine And.intro ?_ ?_)) <;> (first | rfl | (conv => rhs; whnf) <;> (first | rfl | (refine congrArg (D.int _) ?_; omega))))))
            | trace_state
        | false =>
          rw [hb7, Bool.false_or] at hst3
          repeat' (first | refine sC ?_ | ((with_reducible refine isAwp ?_); first | (refine sS ?_; intro Q' hn he hr) | refine sA ?_) | (refine sH ?_; clear hn he hr Q') | refine sO ?_ | ((conv => whnf); first | refine sK ?_ | (refine sB ?_; repeat' (first | refine sb0 ?_ | (refine sb2 ?_ ?_ <;> intro hb <;> try exact cls))) | (refine draw_n 16 (by decide +kernel) (by decide +kernel) ?_) | (refine ElemS.the hf0 ?_) | (refine ElemS.the hc0 ?_) | refine sP ?_ | (refine sL ?_; intro hlen)))
          all_goals first
            | (refine ⟨j + 1, by omega, by omega, ?_⟩; rw [hst3]; exact (by refine weak_to rfl rfl rfl ?_; ((repeat' (first | exact trivial | refine And.intro ?_ ?_)) <;> (first | rfl | (conv => rhs; whnf) <;> (first | rfl | (refine congrArg (D.int _) ?_; omega))))))
            | trace_state
      · obtain rfl : j = h.fFixtures.length := by omega
        rw [List.take_length, hany]
        repeat' (first | refine sC ?_ | ((with_reducible refine isAwp ?_); first | (refine sS ?_; intro Q' hn he hr) | refine sA ?_) | (refine sH ?_; clear hn he hr Q') | ((conv => whnf); first | refine sK ?_ | (refine sB ?_; repeat' (first | refine sb0 ?_ | (refine sb2 ?_ ?_ <;> intro hb <;> try exact cls))) | refine sP ?_ | (refine sL ?_; intro hlen) | (refine sH ?_; clear hn he hr Q')))
        all_goals first
          | (refine ⟨k + 1, by omega, by omega, ?_⟩; exact (by refine weak_to rfl rfl rfl ?_; ((repeat' (first | exact trivial | refine And.intro ?_ ?_)) <;> (first | rfl | (conv => rhs; whnf) <;> (first | rfl | (refine congrArg (D.int _) ?_; omega))))))
          | trace_state
    · repeat' (first | refine sC ?_ | ((with_reducible refine isAwp ?_); first | (refine sS ?_; intro Q' hn he hr) | refine sA ?_) | (refine sH ?_; clear hn he hr Q') | ((conv => whnf); first | refine sK ?_ | (refine sB ?_; repeat' (refine sb2 ?_ ?_ <;> intro hb <;> try exact cls)) | (refine sL ?_; intro hlen)))
      all_goals first | exact ⟨(), trivial, (by refine weak_to rfl rfl rfl ?_; ((repeat' (first | exact trivial | refine And.intro ?_ ?_)) <;> (first | rfl | (conv => rhs; whnf) <;> (first | rfl | (refine congrArg (D.int _) ?_; omega)))))⟩ | trace_state
  rintro ⟨⟩ _
  have hpv : ∀ t r b, 0 ≤ t ∧ t ≤ endC h.fCues → r = 1000 → playB ⟨h.fCues, t, r, b⟩ = true := fun t r b ht hr => by
    subst hr
    simp only [playB, hC1, inB, Bool.true_and, Bool.and_eq_true, decide_eq_true_eq]
    omega
  have hE := endC_all hC1
  have htk := c_impl_TickBy h.fCues w1 hC1 ⟨hw1, by omega⟩
  refine sem_cut (γ := Unit) (fun q => [(1,.sl 1 (more.map byteE)),(5,.hp 0 0),(26,.hp 1 0),(27,.int .i64 0)]) (fun q => [.box (encHouseR h []), .box (encPlayer ⟨h.fCues, 0, 1000, false⟩)]) (fun q => True) ?_ ?_
  · refine SemC.of ?_
    repeat' (first | refine sC ?_ | ((with_reducible refine isAwp ?_); refine sA ?_) | ((conv => whnf); first | refine sK ?_ | ((with_reducible refine isCall ?_); (refine call_pure ((c_impl_NewPlayer h.fCues hC1).anyG) rfl rfl ?_))))
    all_goals first | exact ⟨(), trivial, (by refine weak_to rfl rfl rfl ?_; ((repeat' (first | exact trivial | refine And.intro ?_ ?_)) <;> (first | rfl | (conv => rhs; whnf) <;> (first | rfl | (refine congrArg (D.int _) ?_; omega)))))⟩ | trace_state
  rintro ⟨⟩ _
  refine sem_cut (γ := Unit) (fun q => [(1,.sl 1 (more.map byteE)),(5,.hp 0 0),(26,.hp 1 0),(27,.int .i64 0),(28,.hp 2 0),(29,.int .i64 0)]) (fun q => [.box (encHouseR h []), .box (encPlayer ⟨h.fCues, 0, 1000, false⟩), .box (encPlayer ⟨h.fCues, 0, 1000, true⟩)]) (fun q => True) ?_ ?_
  · refine SemC.of ?_
    repeat' (first | refine sC ?_ | ((with_reducible refine isAwp ?_); refine sA ?_) | ((conv => whnf); first | refine sK ?_ | ((with_reducible refine isCall ?_); (refine call_pure ((c_impl_PlayOn h.fCues 0 1000 (hpv 0 1000 false ⟨by omega, hE.1⟩ rfl) hC1).anyG) rfl rfl ?_))))
    all_goals first | exact ⟨(), trivial, (by refine weak_to rfl rfl rfl ?_; ((repeat' (first | exact trivial | refine And.intro ?_ ?_)) <;> (first | rfl | (conv => rhs; whnf) <;> (first | rfl | (refine congrArg (D.int _) ?_; omega)))))⟩ | trace_state
  rintro ⟨⟩ _
  refine sem_cut (γ := Int × Bool) (fun q => [(1,.sl 1 (more.map byteE)),(5,.hp 0 0),(26,.hp 1 0),(27,.int .i64 0),(28,.hp 2 0),(29,.int .i64 0),(30,.hp 3 0),(32,.int .i64 0)]) (fun q => [.box (encHouseR h []), .box (encPlayer ⟨h.fCues, 0, 1000, false⟩), .box (encPlayer ⟨h.fCues, 0, 1000, true⟩), .box (encPlayer ⟨h.fCues, q.1, 1000, q.2⟩)]) (fun q => 0 ≤ q.1 ∧ q.1 ≤ endC h.fCues) ?_ ?_
  · refine SemC.of ?_
    repeat' (first | ((with_reducible refine isAwp ?_); refine sA ?_) | ((conv => whnf); first | (refine draw_tree3 (.ins [1] (.fork 0 (.fork 2 (.fork 3 (.line [4,5,6,7,8,9,10,11]) (.line [8,3,4,5,6,7,9,10,11])) (.line [8,2,3,4,5,6,7,9,10,11])) (.fork 2 (.fork 0 (.fork 3 (.line [4,5,6,7,8,9,10,11]) (.line [8,3,4,5,6,7,9,10,11])) (.line [8,0,3,4,5,6,7,9,10,11])) (.ins [8] (.fork 0 (.line [2,3,4,5,6,7,9,10,11]) (.line [2,0,3,4,5,6,7,9,10,11])))))) (by decide +kernel) (by decide +kernel) (by decide +kernel) ?_) | ((with_reducible refine isTree ?_); first | refine treeK_cons rfl ?_ | refine treeK_fork rfl ?_ ?_ | refine treeK_nil ?_) | ((with_reducible refine isCall ?_); first | (refine call_pure (hw3.anyG) rfl rfl ?_) | (refine call_some htk.anyG rfl ?_; rintro d ⟨t, b, ht, rfl⟩; refine ⟨rfl, ?_⟩))))
    all_goals first | exact ⟨(t, b), ht, (by refine weak_to rfl rfl rfl ?_; ((repeat' (first | exact trivial | refine And.intro ?_ ?_)) <;> (first | rfl | (conv => rhs; whnf) <;> (first | rfl | (refine congrArg (D.int _) ?_; omega)))))⟩ | trace_state
  rintro ⟨t, b⟩ ht
  dsimp only at ht ⊢
  refine sem_cut (γ := Unit) (fun q => [(1,.sl 1 (more.map byteE)),(5,.hp 0 0),(26,.hp 1 0),(27,.int .i64 0),(28,.hp 2 0),(29,.int .i64 0),(30,.hp 3 0),(32,.int .i64 0),(33,.hp 4 0),(34,.int .i64 0)]) (fun q => [.box (encHouseR h []), .box (encPlayer ⟨h.fCues, 0, 1000, false⟩), .box (encPlayer ⟨h.fCues, 0, 1000, true⟩), .box (encPlayer ⟨h.fCues, t, 1000, b⟩), .box (encPlayer ⟨h.fCues, t, 1000, false⟩)]) (fun q => True) ?_ ?_
  · refine SemC.of ?_
    repeat' (first | refine sC ?_ | ((with_reducible refine isAwp ?_); refine sA ?_) | ((conv => whnf); first | refine sK ?_ | ((with_reducible refine isCall ?_); (refine call_pure ((c_impl_SeekTo h.fCues 0 1000 t false (hpv 0 1000 false ⟨by omega, hE.1⟩ rfl) hC1 ht).anyG) rfl rfl ?_))))
    all_goals first | exact ⟨(), trivial, (by refine weak_to rfl rfl rfl ?_; ((repeat' (first | exact trivial | refine And.intro ?_ ?_)) <;> (first | rfl | (conv => rhs; whnf) <;> (first | rfl | (refine congrArg (D.int _) ?_; omega)))))⟩ | trace_state
  rintro ⟨⟩ _
  have hlv1 := c_impl_LevelsOf h.fCues t 1000 b hC1 ht (hpv t 1000 b ht rfl)
  have hlv2 := c_impl_LevelsOf h.fCues t 1000 false hC1 ht (hpv t 1000 false ht rfl)
  have hll : (levL h.fCues t).length ≤ 32 := by
    have := targS_len h.fCues
    simp only [levL, List.length_map]
    omega
  refine SemC.of ?_
  repeat' (first | refine sC ?_ | ((with_reducible refine isAwp ?_); first | (refine sS ?_; intro Q' hn he hr) | refine sA ?_) | (refine sH ?_; clear hn he hr Q') | ((conv => whnf); first | refine sK ?_ | (refine sB ?_; repeat' (first | refine sb0 ?_ | (refine sb2 ?_ ?_ <;> intro hb <;> try exact cls))) | ((with_reducible refine isCall ?_); first | (refine call_mk hlv1.anyG rfl (by first | exact (rfl : _ = 0) | exact (rfl : _ = 1) | exact (rfl : _ = 2) | exact (rfl : _ = 3) | exact (rfl : _ = 4) | exact (rfl : _ = 5) | exact (rfl : _ = 6) | exact (rfl : _ = 7) | exact (rfl : _ = 8) | exact (rfl : _ = 9) | exact (rfl : _ = 10) | exact (rfl : _ = 11) | exact (rfl : _ = 12) | exact (rfl : _ = 13) | exact (rfl : _ = 14) | exact (rfl : _ = 15) | exact (rfl : _ = 16) | exact (rfl : _ = 17) | exact (rfl : _ = 18) | exact (rfl : _ = 19) | exact (rfl : _ = 20) | exact (rfl : _ = 21) | exact (rfl : _ = 22) | exact (rfl : _ = 23) | exact (rfl : _ = 24) | exact (rfl : _ = 25) | exact (rfl : _ = 26) | exact (rfl : _ = 27) | exact (rfl : _ = 28) | exact (rfl : _ = 29) | exact (rfl : _ = 30) | exact (rfl : _ = 31) | exact (rfl : _ = 32) | exact (rfl : _ = 33) | exact (rfl : _ = 34) | exact (rfl : _ = 35) | exact (rfl : _ = 36) | exact (rfl : _ = 37) | exact (rfl : _ = 38) | exact (rfl : _ = 39)) ?_) | (refine call_mk hlv2.anyG rfl (by first | exact (rfl : _ = 0) | exact (rfl : _ = 1) | exact (rfl : _ = 2) | exact (rfl : _ = 3) | exact (rfl : _ = 4) | exact (rfl : _ = 5) | exact (rfl : _ = 6) | exact (rfl : _ = 7) | exact (rfl : _ = 8) | exact (rfl : _ = 9) | exact (rfl : _ = 10) | exact (rfl : _ = 11) | exact (rfl : _ = 12) | exact (rfl : _ = 13) | exact (rfl : _ = 14) | exact (rfl : _ = 15) | exact (rfl : _ = 16) | exact (rfl : _ = 17) | exact (rfl : _ = 18) | exact (rfl : _ = 19) | exact (rfl : _ = 20) | exact (rfl : _ = 21) | exact (rfl : _ = 22) | exact (rfl : _ = 23) | exact (rfl : _ = 24) | exact (rfl : _ = 25) | exact (rfl : _ = 26) | exact (rfl : _ = 27) | exact (rfl : _ = 28) | exact (rfl : _ = 29) | exact (rfl : _ = 30) | exact (rfl : _ = 31) | exact (rfl : _ = 32) | exact (rfl : _ = 33) | exact (rfl : _ = 34) | exact (rfl : _ = 35) | exact (rfl : _ = 36) | exact (rfl : _ = 37) | exact (rfl : _ = 38) | exact (rfl : _ = 39)) ?_)) | (refine sL ?_; intro hlen)))
  refine loop_env (fun k : Nat => [(35,.h 5),(37,.h 6),(39,.int .i64 k)]) (fun _ => [.box (encHouseR h []), .box (encPlayer ⟨h.fCues, 0, 1000, false⟩), .box (encPlayer ⟨h.fCues, 0, 1000, true⟩), .box (encPlayer ⟨h.fCues, t, 1000, b⟩), .box (encPlayer ⟨h.fCues, t, 1000, false⟩), .row 71 2 ((levL h.fCues t).map encLevel), .row 71 2 ((levL h.fCues t).map encLevel)]) (fun k => k ≤ (levL h.fCues t).length) (fun k => (levL h.fCues t).length - k) 0 (by omega) (by refine weak_to rfl rfl rfl ?_; ((repeat' (first | exact trivial | refine And.intro ?_ ?_)) <;> (first | rfl | (conv => rhs; whnf) <;> (first | rfl | (refine congrArg (D.int _) ?_; omega))))) (fun k hk Q' hn he hr => ?_)
  by_cases hkl : k < (levL h.fCues t).length
  · obtain ⟨x, hx0⟩ : ∃ x, (levL h.fCues t)[k]? = some x := ⟨_, List.getElem?_eq_getElem hkl⟩
    have hq := eqd_Level x x
    rw [eqTLevel_refl] at hq
    repeat' (first | refine sC ?_ | ((with_reducible refine isAwp ?_); first | (refine sS ?_; intro Q' hn he hr) | refine sA ?_) | (refine sH ?_; clear hn he hr Q') | refine sO ?_ | ((conv => whnf); first | refine sK ?_ | (refine sB ?_; repeat' (first | refine sb0 ?_ | (refine sb2 ?_ ?_ <;> intro hb <;> try exact cls))) | (refine ElemS.the hx0 ?_) | (refine InS.nat (by rw [List.length_map]; omega) ?_) | (refine EqS.mk hq ?_) | refine sP ?_ | (refine sL ?_; intro hlen) | refine sD ?_))
    all_goals first
      | (refine ⟨k + 1, by omega, by omega, ?_⟩; exact (by refine weak_to rfl rfl rfl ?_; ((repeat' (first | exact trivial | refine And.intro ?_ ?_)) <;> (first | rfl | (conv => rhs; whnf) <;> (first | rfl | (refine congrArg (D.int _) ?_; omega))))))
      | trace_state
  · repeat' (first | refine sC ?_ | ((with_reducible refine isAwp ?_); first | (refine sS ?_; intro Q' hn he hr) | refine sA ?_) | (refine sH ?_; clear hn he hr Q') | ((conv => whnf); first | refine sK ?_ | (refine sB ?_; repeat' (refine sb2 ?_ ?_ <;> intro hb <;> try exact cls)) | (refine sL ?_; intro hlen) | (refine ret_pick [] rfl rfl rfl ⟨?_, rfl⟩; conv => lhs; whnf) | (refine sH ?_; clear hn he hr Q')))
    all_goals first | rfl | trace_state
end Go.Eng
