/-
  Contracts of functions of the program and of the reference, and plain laws: a bundle of texts.
  No conditions.
-/
import Derived.Test.YtieiboeboejmkaaGreatDoorED
import Derived.Test.YtieiboeboejmkaaGreatDoorMF0
import Derived.Test.YtieiboeboejmkaaGreatDoorW1
import Derived.Test.YtieiboeboejmkaaGreatDoorP1
import Derived.Test.YtieiboeboejmkaaGreatDoorAU
set_option linter.unusedVariables false
set_option linter.unusedSimpArgs false
set_option maxHeartbeats 4000000
namespace Go.Eng
open Go Go.RowKit Go.Proofs
set_option maxRecDepth 100000
def kindNames : List (List UInt8) := [[100, 97, 114, 107], [99, 108, 97, 115, 104], [115, 99, 114, 105, 112, 116], [116, 97, 114, 103, 101, 116], [115, 101, 97, 116], [109, 101, 100, 105, 97]]
def GN : Nat → Option (List D) := G1 0 (kindNames.map .str)
def kindName (n : Int) : List UInt8 := if 1 ≤ n ∧ n ≤ 6 then kindNames.getD (n - 1).toNat [] else []
theorem c_impl_FindingName (n : Int) (h : -9223372036854775808 ≤ n ∧ n ≤ 9223372036854775807) : FnC Tryz.prog 32 GN 0 [] [.int .i64 n] (fun d os => d = .str (kindName n) ∧ os = []) := by
  by_cases h6 : 1 ≤ n ∧ n ≤ 6
  · have h7 : n = 1 ∨ n = 2 ∨ n = 3 ∨ n = 4 ∨ n = 5 ∨ n = 6 := by omega
    rcases h7 with rfl | rfl | rfl | rfl | rfl | rfl
    all_goals
      refine fn_rule Tryz.func32 rfl (by decide +kernel) rfl (fun w0 F0 lent β0 => ?_)
      repeat' (first | refine sC ?_ | ((with_reducible refine isAwp ?_); first | (refine sS ?_; intro Q' hn he hr) | refine sA ?_) | (refine sH ?_; clear hn he hr Q') | ((conv => whnf); first | refine sK ?_ | (refine sB ?_; repeat' (refine sb2 ?_ ?_ <;> intro hb <;> try exact cls)) | (refine ElemS.lit 0 rfl rfl ?_) | (refine ElemS.lit 1 rfl rfl ?_) | (refine ElemS.lit 2 rfl rfl ?_) | (refine ElemS.lit 3 rfl rfl ?_) | (refine ElemS.lit 4 rfl rfl ?_) | (refine ElemS.lit 5 rfl rfl ?_) | ((with_reducible refine isCall ?_); (refine call_pure (FnC.anyG (c_within _ _ _)) rfl rfl ?_)) | refine sP ?_ | (refine ret_pick [] rfl rfl rfl ⟨?_, rfl⟩; conv => lhs; whnf)))
    all_goals first
      | rfl
      | (exfalso; exact hb (by decide))
  · have hv : inB n 1 6 = false := by simp only [inB, decide_eq_false_iff_not]; exact h6
    refine fn_rule Tryz.func32 rfl (by decide +kernel) rfl (fun w0 F0 lent β0 => ?_)
    repeat' (first | refine sC ?_ | ((with_reducible refine isAwp ?_); first | (refine sS ?_; intro Q' hn he hr) | refine sA ?_) | (refine sH ?_; clear hn he hr Q') | ((conv => whnf); first | refine sK ?_ | (refine sB ?_; repeat' (refine sb2 ?_ ?_ <;> intro hb <;> try exact cls)) | ((with_reducible refine isCall ?_); (refine call_pure (FnC.anyG (c_within _ _ _)) rfl rfl ?_)) | (refine ret_pick [] rfl rfl rfl ⟨?_, rfl⟩; conv => lhs; whnf)))
    rw [kindName, if_neg h6]
def findingText (f : TFinding) : List UInt8 := if kindName f.fKind = [] then [] else kindName f.fKind ++ [32] ++ f.fWho ++ [32] ++ f.fWhat
theorem kindName_len (n : Int) : (kindName n).length ≤ 6 := by
  unfold kindName
  split
  · rename_i h
    have h7 : n = 1 ∨ n = 2 ∨ n = 3 ∨ n = 4 ∨ n = 5 ∨ n = 6 := by omega
    rcases h7 with rfl | rfl | rfl | rfl | rfl | rfl <;> decide
  · simp
theorem c_impl_FindingText (f : TFinding) (h : -9223372036854775808 ≤ f.fKind ∧ f.fKind ≤ 9223372036854775807) (hz : f.fWho.length + f.fWhat.length ≤ 1048576) : FnC Tryz.prog 31 GN 0 [] [.agg (encFinding f)] (fun d os => d = .str (findingText f) ∧ os = []) := by
  have h6 := kindName_len f.fKind
  refine fn_rule Tryz.func31 rfl (by decide +kernel) rfl (fun w0 F0 lent β0 => ?_)
  repeat' (first | refine sC ?_ | ((with_reducible refine isAwp ?_); first | (refine sS ?_; intro Q' hn he hr) | refine sA ?_) | (refine sH ?_; clear hn he hr Q') | ((conv => whnf); first | refine sK ?_ | (refine sB ?_; repeat' (refine sb2 ?_ ?_ <;> intro hb <;> try exact cls)) | (refine AskS.mk ⟨by simp only [List.length_append, List.length_cons, List.length_nil, maxLen]; omega, ?_⟩) | ((with_reducible refine isCall ?_); (refine call_pure (c_impl_FindingName _ (by omega)) rfl rfl ?_)) | (refine ret_pick [] rfl rfl rfl ⟨?_, rfl⟩; conv => lhs; whnf)))
  all_goals simp [findingText, *]
/-- What is counted under number i. -/
def kindB (i : Nat) (x : TFinding) : Bool := match i with
  | 0 => decide (1 ≤ x.fKind ∧ x.fKind ≤ 6)
  | i + 1 => decide (x.fKind = (i : Int) + 1)
def cnt (a : List TFinding) (k i : Nat) : Int := (((a.take k).countP (kindB i) : Nat) : Int)
theorem cnt_succ {a : List TFinding} {k : Nat} {x : TFinding} (h : a[k]? = some x) (i : Nat) : cnt a (k + 1) i = cnt a k i + if kindB i x = true then 1 else 0 := by
  unfold cnt
  rw [List.take_add_one, h]
  by_cases hx : kindB i x = true <;> simp [hx]
theorem cnt_le (a : List TFinding) (k i : Nat) : 0 ≤ cnt a k i ∧ cnt a k i ≤ k := by
  unfold cnt
  have h1 : (a.take k).countP (kindB i) ≤ (a.take k).length := List.countP_le_length
  simp at h1
  omega
def cnts (a : List TFinding) (k : Nat) : List Int := [cnt a k 0, cnt a k 1, cnt a k 2, cnt a k 3, cnt a k 4, cnt a k 5, cnt a k 6]

theorem c_impl_CountFindings (a : List TFinding) : FnC Tryz.prog 30 G0 0 [] [.sl 3 (a.map encFinding)] (fun d os => d = .h 0 ∧ os = [.row 2 1 ((cnts a a.length).map encI)]) := by
  refine fn_rule Tryz.func30 rfl (by decide +kernel) rfl (fun w0 F0 lent β0 => ?_)
  repeat' (first | refine sC ?_ | ((with_reducible refine isAwp ?_); first | (refine sS ?_; intro Q' hn he hr) | refine sA ?_) | (refine sH ?_; clear hn he hr Q') | ((conv => whnf); first | refine sK ?_ | (refine MakeS.lit 7 rfl rfl rfl rfl ?_) | (refine sL ?_; intro hlen)))
  refine loop_env (fun k : Nat => [(3,.h 0),(7,.sl 3 (a.map encFinding)),(8,.int .i64 a.length),(9,.int .i64 k)]) (fun k => [.row 2 1 ((cnts a k).map encI)]) (fun k => k ≤ a.length) (fun k => a.length - k) 0 (by omega) (by refine weak_to rfl rfl ?_ ?_; rfl; exact ⟨rfl, rfl, rfl, rfl, trivial⟩) (fun k hk Q' hn he hr => ?_)
  repeat' (first | refine sC ?_ | ((with_reducible refine isAwp ?_); first | (refine sS ?_; intro Q' hn he hr) | refine sA ?_) | (refine sH ?_; clear hn he hr Q') | ((conv => whnf); first | refine sK ?_ | (refine sB ?_; repeat' (refine sb2 ?_ ?_ <;> intro hb <;> try exact cls)) | ((with_reducible refine isCall ?_); (refine call_pure (c_within _ _ _) rfl rfl ?_)) | ((with_reducible refine isRet ?_); (refine ret_pick [0] rfl rfl rfl ⟨rfl, ?_⟩)) | refine sP ?_ | (refine sE ?_; intro x hx) | (refine sH ?_; clear hn he hr Q')))
  · obtain ⟨kd, who, what⟩ := x
    have h6 : kd = 1 ∨ kd = 2 ∨ kd = 3 ∨ kd = 4 ∨ kd = 5 ∨ kd = 6 := by have hb2 : 1 ≤ kd ∧ kd ≤ 6 := of_decide_eq_true hb; omega
    have g0 := cnt_le a k 0
    have g1 := cnt_le a k 1
    have g2 := cnt_le a k 2
    have g3 := cnt_le a k 3
    have g4 := cnt_le a k 4
    have g5 := cnt_le a k 5
    have g6 := cnt_le a k 6
    have hs := cnt_succ hx
    rcases h6 with rfl | rfl | rfl | rfl | rfl | rfl
    all_goals
      repeat' (first | refine sC ?_ | ((with_reducible refine isAwp ?_); refine sA ?_) | (refine sH ?_; clear hn he hr Q') | ((conv => whnf); first | refine sK ?_ | (refine InS.lit 0 rfl rfl ?_) | (refine ElemS.lit 0 rfl rfl ?_) | (refine InS.lit 1 rfl rfl ?_) | (refine ElemS.lit 1 rfl rfl ?_) | (refine InS.lit 2 rfl rfl ?_) | (refine ElemS.lit 2 rfl rfl ?_) | (refine InS.lit 3 rfl rfl ?_) | (refine ElemS.lit 3 rfl rfl ?_) | (refine InS.lit 4 rfl rfl ?_) | (refine ElemS.lit 4 rfl rfl ?_) | (refine InS.lit 5 rfl rfl ?_) | (refine ElemS.lit 5 rfl rfl ?_) | (refine InS.lit 6 rfl rfl ?_) | (refine ElemS.lit 6 rfl rfl ?_) | refine sP ?_))
    all_goals
      refine ⟨k + 1, by omega, by omega, ?_⟩
      refine weak_to rfl rfl ?_ ⟨rfl, rfl, rfl, rfl, trivial⟩
      simp only [cnts, hs, kindB]
      simp
      rfl
  · refine ⟨k + 1, by omega, by omega, ?_⟩
    refine weak_to rfl rfl ?_ ⟨rfl, rfl, rfl, rfl, trivial⟩
    have hs : ∀ i, i ≤ 6 → cnt a (k + 1) i = cnt a k i := fun i hi => by
      rw [cnt_succ hx]
      have : kindB i x = false := by
        match i, hi with
        | 0, _ => exact hb
        | i + 1, _ =>
          simp only [kindB, decide_eq_false_iff_not]
          intro h
          exact of_decide_eq_false (show decide (1 ≤ x.fKind ∧ x.fKind ≤ 6) = false from hb) (by omega)
      simp [this]
    simp only [cnts, hs 0 (by decide), hs 1 (by decide), hs 2 (by decide), hs 3 (by decide), hs 4 (by decide), hs 5 (by decide), hs 6 (by decide)]
    rfl
  · have h2 : k = a.length := by omega
    subst h2
    rfl
end Go.Eng

namespace Go.Eng
open Go Go.RowKit Go.Proofs
set_option maxRecDepth 100000
def fdOk (f : TFinding) : Prop := (1 ≤ f.fKind ∧ f.fKind ≤ 6) ∧ f.fWho.length ≤ 100 ∧ f.fWhat.length ≤ 100
theorem av_name {l : List UInt8} (h : nameB l = true) : l.length ≤ 10 := by
  simp only [nameB, Bool.and_eq_true, decide_eq_true_eq] at h
  exact h.2.1
theorem domF_fd {h : THouse} (hv : houseB h = true) : ∀ f ∈ domF h, fdOk f := by
  obtain ⟨_, h2, h3⟩ := houseB_dome hv
  intro f hf
  obtain ⟨s, hs, rfl⟩ := List.mem_map.1 hf
  obtain ⟨a, b, rfl, ha, hb⟩ := spotsL_mem (by omega) (darkL_mem hs)
  have l1 := Lib.itoa_length_le a (by omega) (by omega)
  have l2 := Lib.itoa_length_le b (by omega) (by omega)
  refine ⟨by simp [darkF], by simp [darkF, domeT], ?_⟩
  simp only [darkF, List.map_cons, List.map_nil, joinL, List.length_append, List.length_cons]
  omega
theorem cue_names {C : List TCue} (hv : cuesB C = true) {c : TCue} (hc : c ∈ C) : c.fId.length ≤ 10 ∧ c.fTarget.length ≤ 10 := by
  obtain ⟨k, hk⟩ := List.getElem?_of_mem hc
  have h1 := allI_at (show allI (cueP C) C = true by simp only [cuesB, Bool.and_eq_true] at hv; exact hv.2) hk
  simp only [cueP, cueB, Bool.and_eq_true] at h1
  exact ⟨av_name h1.1.1, av_name h1.1.2.1⟩
theorem pairF_fd {C : List TCue} (hv : cuesB C = true) (s : List Int) : fdOk (pairF C s) := by
  have hg : ∀ i, (C.getD i noCue).fId.length ≤ 10 := fun i => by
    rw [List.getD_eq_getElem?_getD]
    cases h : C[i]? with
    | none => simp [noCue]
    | some c => exact (cue_names hv (List.mem_of_getElem? h)).1
  refine ⟨by simp [pairF], ?_, ?_⟩
  · have := hg (s.getD 0 0).toNat
    show (C.getD (s.getD 0 0).toNat noCue).fId.length ≤ 100
    omega
  · have := hg (s.getD 1 0).toNat
    show (C.getD (s.getD 1 0).toNat noCue).fId.length ≤ 100
    omega
theorem insS_fold {y : List UInt8} : ∀ (l a : List (List UInt8)), y ∈ l.foldl insS a → y ∈ a ∨ y ∈ l := by
  intro l
  induction l with
  | nil => intro a h; exact .inl h
  | cons x r ih =>
    intro a h
    rcases ih _ h with h | h
    · rcases insS_mem.1 h with h | h
      · exact .inr (by simp [h])
      · exact .inl h
    · exact .inr (by simp [h])
theorem fireS_name {S : List TLine} (hv : scrsB S = true) {n : List UInt8} (hn : n ∈ fireS S) : n.length ≤ 10 := by
  rcases insS_fold _ _ hn with h | h
  · cases h
  · obtain ⟨x, hx, rfl⟩ := List.mem_map.1 h
    obtain ⟨hx1, hx2⟩ := List.mem_filter.1 hx
    obtain ⟨k, hk⟩ := List.getElem?_of_mem hx1
    have h1 := allI_at (show allI (scrP S) S = true by simp only [scrsB, Bool.and_eq_true] at hv; exact hv.2) hk
    have h3 : x.fKind = 3 := of_decide_eq_true hx2
    simp only [scrP, Bool.and_eq_true] at h1
    have h4 := h1.1
    rw [scrB, if_pos (Or.inr h3), Bool.and_eq_true] at h4
    exact av_name h4.1
theorem cueAll_fd {h : THouse} (hv : houseB h = true) : ∀ f ∈ cueAll h, fdOk f := by
  obtain ⟨h1, h2, _⟩ := houseB_cue hv
  intro f hf
  simp only [cueAll, cue3, cue2, List.mem_append] at hf
  rcases hf with ((hf | hf) | hf) | hf
  · obtain ⟨s, _, rfl⟩ := List.mem_map.1 hf
    exact pairF_fd h1 s
  · obtain ⟨c, hc, rfl⟩ := List.mem_map.1 hf
    have := cue_names h1 (List.mem_filter.1 hc).1
    exact ⟨by simp, by simp only; omega, by simp only; omega⟩
  · unfold runFi at hf
    split at hf
    · cases hf
    · obtain rfl := List.mem_singleton.1 hf
      have := codeT_len (runC h.fScript h.fBudget)
      exact ⟨by simp, by simp [runT], by simp only; omega⟩
  · obtain ⟨n, hn, rfl⟩ := List.mem_map.1 hf
    have := fireS_name h2 (List.mem_filter.1 hn).1
    exact ⟨by simp, by simp only; omega, by simp [unknT]⟩
theorem seatF_fd {h : THouse} (hv : houseB h = true) : ∀ k, ∀ f ∈ seatF h k, fdOk f := by
  obtain ⟨h1, h2, h3, h4, h5⟩ := houseB_seat hv
  obtain ⟨g1, g2, g3⟩ := ringsB_all h2
  intro k
  induction k with
  | zero => intro f hf; simp [seatF] at hf
  | succ k ih =>
    intro f hf
    simp only [seatF, List.mem_append] at hf
    rcases hf with hf | hf
    · exact ih f hf
    · split at hf
      · cases hf
      · rename_i x hx
        split at hf
        · obtain rfl := List.mem_singleton.1 hf
          have hin := listOk_at h3 hx
          simp only [inB, decide_eq_true_eq] at hin
          obtain ⟨r, hr, hr1, hr2⟩ := splitR_ok (R := h.fRings) (k := x) (by omega) (by omega)
          have hrl := (List.getElem?_eq_some_iff.1 hr).1
          have hrb := g1 _ _ hr
          simp only [ringB, inB, Bool.and_eq_true, decide_eq_true_eq] at hrb
          have hs := scoreV_bound h.fDome (placeV h.fRings x)
          have l1 := Lib.itoa_length_le (((splitR h.fRings x).1 : Int) + 1) (by omega) (by omega)
          have l2 := Lib.itoa_length_le ((splitR h.fRings x).2 + 1) (by omega) (by omega)
          have l3 := Lib.itoa_length_le (scoreS h x) (by unfold scoreS; omega) (by unfold scoreS; omega)
          refine ⟨by simp, ?_, by simp only; omega⟩
          simp only [seatT, List.length_cons, List.length_append]
          omega
        · cases hf
theorem sizeM_mem {M : List TMedia} {n : List UInt8} (h : ¬ sizeM M n = 0) : ∃ m ∈ M, m.fName = n := by
  unfold sizeM at h
  split at h
  · rename_i m hm
    refine ⟨m, List.mem_of_getElem? hm, ?_⟩
    have := (firstAt_spec (fun m : TMedia => m.fName == n) M).2 m hm
    simpa using this
  · exact absurd rfl h
theorem media_name {M : List TMedia} (h : validMs M = true) {m : TMedia} (hm : m ∈ M) : m.fName.length ≤ 10 := by
  obtain ⟨k, hk⟩ := List.getElem?_of_mem hm
  have h3 := listOk_at (show listOk validM ltMedia M = true by simp only [validMs, Bool.and_eq_true] at h; exact h.2) hk
  simp only [validM, Bool.and_eq_true] at h3
  exact av_name h3.1
theorem need_at {M : List TMedia} {N : List TNeed} (h : needsQ M N = true) {k : Nat} {x : TNeed} (hx : N[k]? = some x) : ¬ sizeM M x.fName = 0 ∧ 0 ≤ x.fTime ∧ x.fTime ≤ 7200000 := by
  have h1 := allI_at (show allI (needP M N) N = true by simp only [needsQ, Bool.and_eq_true] at h; exact h.2) hx
  simp only [needP, inB, Bool.and_eq_true, decide_eq_true_eq, Bool.not_eq_true', decide_eq_false_iff_not] at h1
  exact ⟨h1.1, h1.2.1⟩
theorem lateT_small {h : THouse} (hv : houseB h = true) {k : Nat} {x : TNeed} (hx : h.fNeeds[k]? = some x) : -7200000 ≤ lateT h.fMedia h.fBandwidth h.fNeeds k x ∧ lateT h.fMedia h.fBandwidth h.fNeeds k x ≤ 1600000000 := by
  obtain ⟨h1, h2, h3⟩ := houseB_media hv
  have h4 := need_at h2 hx
  have h5 := planT_le h1 h3 (h.fNeeds.take (k + 1))
  have h6 := needs_len h2
  have h7 : (h.fNeeds.take (k + 1)).length ≤ 16 := by rw [List.length_take]; omega
  unfold lateT
  omega
theorem medF_fd {h : THouse} (hv : houseB h = true) : ∀ k, ∀ f ∈ medF h.fMedia h.fBandwidth h.fNeeds k, fdOk f := by
  obtain ⟨h1, h2, h3⟩ := houseB_media hv
  intro k
  induction k with
  | zero => intro f hf; simp [medF] at hf
  | succ k ih =>
    intro f hf
    simp only [medF, List.mem_append] at hf
    rcases hf with hf | hf
    · exact ih f hf
    · split at hf
      · cases hf
      · rename_i x hx
        split at hf
        · obtain rfl := List.mem_singleton.1 hf
          obtain ⟨m, hm, e⟩ := sizeM_mem (need_at h2 hx).1
          have hn := media_name h1 hm
          rw [e] at hn
          have hs := lateT_small hv hx
          have l3 := Lib.itoa_length_le (lateT h.fMedia h.fBandwidth h.fNeeds k x) (by omega) (by omega)
          exact ⟨by simp, by simp only; omega, by simp only; omega⟩
        · cases hf
theorem audit_fd {h : THouse} (hv : houseB h = true) : ∀ f ∈ auditF h, fdOk f := by
  intro f hf
  simp only [auditF, List.mem_append] at hf
  rcases hf with ((hf | hf) | hf) | hf
  · exact domF_fd hv f hf
  · exact cueAll_fd hv f hf
  · exact seatF_fd hv _ f hf
  · exact medF_fd hv _ f hf
theorem cnt_all {a : List TFinding} (h : ∀ f ∈ a, fdOk f) : cnt a a.length 0 = a.length := by
  unfold cnt
  rw [List.take_length, List.countP_eq_length.2 fun f hf => by simpa [kindB] using (h f hf).1]
theorem kindName_ne {n : Int} (h : 1 ≤ n ∧ n ≤ 6) : ¬ kindName n = [] := by
  have h7 : n = 1 ∨ n = 2 ∨ n = 3 ∨ n = 4 ∨ n = 5 ∨ n = 6 := by omega
  rcases h7 with rfl | rfl | rfl | rfl | rfl | rfl <;> decide
theorem findingText_ne {f : TFinding} (h : fdOk f) : ¬ findingText f = [] := by
  unfold findingText
  rw [if_neg (kindName_ne h.1)]
  simp
/-- A house without its fixtures. -/
def bareH (h : THouse) : THouse := { h with fFixtures := [] }
theorem bareH_ok {h : THouse} (hv : houseB h = true) : houseB (bareH h) = true := by
  have e : fixsB [] = true := by decide
  simp only [houseB, Bool.and_eq_true] at hv
  simp only [houseB, bareH, Bool.and_eq_true]
  exact ⟨hv.1, hv.2.1, hv.2.2.1, hv.2.2.2.1, e, hv.2.2.2.2.2⟩
theorem missB_nil (c : TCue) : missB [] c = true := by
  simp [missB, idxQ, firstAt]
theorem bare_count (h : THouse) : cnt (cueAll (bareH h)) (cueAll (bareH h)).length 4 = h.fCues.length := by
  have e1 : ∀ C : List TCue, ∀ L : List (List Int), (L.map (pairF C)).countP (kindB 4) = 0 := fun C L => by
    rw [List.countP_eq_zero]
    intro f hf
    obtain ⟨s, _, rfl⟩ := List.mem_map.1 hf
    simp [kindB, pairF]
  have e2 : (targF [] h.fCues).countP (kindB 4) = h.fCues.length := by
    have e : targF [] h.fCues = h.fCues.map fun c => ⟨4, c.fId, c.fTarget⟩ := by
      unfold targF
      rw [List.filter_eq_self.2 fun c _ => missB_nil c]
    rw [e, List.countP_eq_length.2, List.length_map]
    intro f hf
    obtain ⟨c, _, rfl⟩ := List.mem_map.1 hf
    simp [kindB]
  have e3 : ∀ z : Int, (runFi z).countP (kindB 4) = 0 := fun z => by
    unfold runFi
    split <;> simp [kindB]
  have e4 : ∀ (C : List TCue) (N : List (List UInt8)), (unkF C N).countP (kindB 4) = 0 := fun C N => by
    rw [List.countP_eq_zero]
    intro f hf
    obtain ⟨s, _, rfl⟩ := List.mem_map.1 hf
    simp [kindB]
  unfold cnt
  rw [List.take_length]
  simp only [cueAll, cue3, cue2, cue1, bareH, List.countP_append, e1, e2, e3, e4]
  omega
end Go.Eng
