/-
  The findings of cues and script: the contracts of the program's functions and of the reference's.
  No conditions.
-/
import Derived.Test.YtigdnelbanaieaaGreatDoorED
import Derived.Test.YtigdnelbanaieaaGreatDoorQX
import Derived.Test.YtigdnelbanaieaaGreatDoorFQ2
import Derived.Test.YtigdnelbanaieaaGreatDoorFQ4
import Derived.Test.YtigdnelbanaieaaGreatDoorFM
import Derived.Test.YtigdnelbanaieaaGreatDoorFX
set_option linter.unusedVariables false
set_option linter.unusedSimpArgs false
set_option maxHeartbeats 4000000
namespace Go.Eng
open Go Go.RowKit Go.Proofs
set_option maxRecDepth 100000
theorem houseB_cue {h : THouse} (hv : houseB h = true) : cuesB h.fCues = true ∧ scrsB h.fScript = true ∧ 1 ≤ h.fBudget ∧ h.fBudget ≤ 20000 := by
  simp only [houseB, inB, Bool.and_eq_true, decide_eq_true_eq] at hv
  exact ⟨hv.2.2.2.2.2.1, hv.2.2.2.2.2.2.1, hv.2.2.2.2.2.2.2.2.2.2.2.1⟩
theorem pairF_at {C : List TCue} {i k : Nat} {a b : TCue} (ha : C[i]? = some a) (hb : C[k]? = some b) : pairF C [(i : Int), (k : Int)] = ⟨2, a.fId, b.fId⟩ := by
  simp [pairF, List.getD_eq_getElem?_getD, ha, hb]
theorem runFi_no {c : Int} (h : c = 0) : runFi c = [] := by rw [runFi, if_pos h]
theorem runFi_yes {c : Int} (h : ¬ c = 0) : runFi c = [⟨3, runT, codeT c⟩] := by rw [runFi, if_neg h]
def pairTo (h : THouse) (k : Nat) : List TFinding := ((clashL h.fCues 0).take k).map (pairF h.fCues)
theorem pairTo_succ {h : THouse} {k : Nat} {s : List Int} (hs : (clashL h.fCues 0)[k]? = some s) : pairTo h (k + 1) = pairTo h k ++ [pairF h.fCues s] := by
  unfold pairTo
  rw [List.take_add_one, hs]
  simp
theorem pairTo_len (h : THouse) (k : Nat) : (pairTo h k).length ≤ (clashL h.fCues 0).length := by
  simp only [pairTo, List.length_map, List.length_take]
  omega
theorem cue1_len {h : THouse} (hl : h.fCues.length ≤ 32) : (cue1 h).length ≤ 1024 := by
  have := clashL_len h.fCues 0 hl
  simp only [cue1, List.length_map]
  omega
theorem runFi_len (c : Int) : (runFi c).length ≤ 1 := by unfold runFi; split <;> simp
theorem app_nil' {α : Type} {a b : List α} (h : b = []) : a ++ b = a := by rw [h, List.append_nil]
set_option maxHeartbeats 16000000 in
theorem c_impl_cueFindings (h : THouse) (hv : houseB h = true) : FnC Tryz.prog 36 GK 0 [] [.agg (encHouse h)] (fun d os => d = .h 0 ∧ os = [.row 78 3 ((cueAll h).map encFinding)]) := by
  obtain ⟨h1, h2, h3⟩ := houseB_cue hv
  have hcl := cues_len h1
  have hsl := scrs_len h2
  have hpl := clashL_len h.fCues 0 hcl
  have hc1 := cue1_len hcl
  have hrc := runC_code h.fScript h.fBudget
  have hrl := runFi_len (runC h.fScript h.fBudget)
  have htl := targF_len h.fFixtures h.fCues
  have hfl := fireS_len h.fScript
  refine fn_rule Tryz.func36 rfl (by decide +kernel) rfl (fun w0 F0 lent β0 => ?_)
  repeat' (first | refine sC ?_ | ((with_reducible refine isAwp ?_); first | (refine sS ?_; intro Q' hn he hr) | refine sA ?_) | (refine sH ?_; clear hn he hr Q') | ((conv => whnf); first | refine sK ?_ | ((with_reducible refine isCall ?_); (refine call_pure ((c_impl_ClashesOf h.fCues h1).anyG) rfl rfl ?_)) | (refine sL ?_; intro hlen)))
  refine loop_env (fun k : Nat => [(1,.hp 0 0),(3,.h 1),(22,.sl 1 ((clashL h.fCues 0).map encSpot)),(23,.int .i64 (clashL h.fCues 0).length),(24,.int .i64 k)]) (fun k => [.box (encHouse h), .row 78 3 ((pairTo h k).map encFinding)]) (fun k => k ≤ (clashL h.fCues 0).length) (fun k => (clashL h.fCues 0).length - k) 0 (by omega) (by refine Weak.trans (weak_adopt 3 78 3 rfl rfl) (weak_to rfl rfl rfl ?_); exact ⟨rfl, rfl, rfl, rfl, rfl, trivial⟩) (fun k hk Q' hn he hr => ?_)
  have hml := pairTo_len h k
  by_cases hkl : k < (clashL h.fCues 0).length
  · obtain ⟨s, hs⟩ : ∃ s, (clashL h.fCues 0)[k]? = some s := ⟨_, List.getElem?_eq_getElem hkl⟩
    obtain ⟨i0, k0, rfl, hi0, hk0⟩ := clashL_mem h.fCues.length h.fCues 0 (by omega) s (List.mem_of_getElem? hs)
    obtain ⟨a, ha⟩ : ∃ a, h.fCues[i0]? = some a := ⟨_, List.getElem?_eq_getElem hi0⟩
    obtain ⟨b, hb0⟩ : ∃ b, h.fCues[k0]? = some b := ⟨_, List.getElem?_eq_getElem hk0⟩
    have hpf := pairF_at ha hb0
    repeat' (first | refine sC ?_ | ((with_reducible refine isAwp ?_); first | (refine sS ?_; intro Q' hn he hr) | refine sA ?_) | (refine sH ?_; clear hn he hr Q') | refine sO ?_ | ((conv => whnf); first | refine sK ?_ | (refine sB ?_; repeat' (refine sb2 ?_ ?_ <;> intro hb <;> try exact cls)) | (refine ElemS.the hs ?_) | (refine ElemS.the ha ?_) | (refine ElemS.the hb0 ?_) | (refine ElemS.lit 0 rfl rfl ?_) | (refine ElemS.lit 1 rfl rfl ?_) | refine sP ?_ | refine sD ?_))
    refine ⟨k + 1, by omega, by omega, ?_⟩
    exact (by refine weak_to rfl rfl (by rw [pairTo_succ hs, hpf, List.map_append]; rfl) ?_; ((repeat' (first | exact trivial | refine And.intro ?_ ?_)) <;> (first | rfl | (conv => rhs; whnf) <;> (first | rfl | (refine congrArg (D.int _) ?_; omega)))))
  · obtain rfl : k = (clashL h.fCues 0).length := by omega
    have e1 : pairTo h (clashL h.fCues 0).length = cue1 h := by unfold pairTo cue1; rw [List.take_length]
    rw [e1]
    repeat' (first | refine sC ?_ | ((with_reducible refine isAwp ?_); first | (refine sS ?_; intro Q' hn he hr) | refine sA ?_) | (refine sH ?_; clear hn he hr Q') | ((conv => whnf); first | refine sK ?_ | (refine sB ?_; repeat' (refine sb2 ?_ ?_ <;> intro hb <;> try exact cls)) | (refine sL ?_; intro hlen) | (refine sH ?_; clear hn he hr Q')))
    refine loop_env (fun k : Nat => [(1,.hp 0 0),(3,.h 1),(50,.sl 6 (h.fCues.map encCue)),(51,.int .i64 h.fCues.length),(52,.int .i64 k)]) (fun k => [.box (encHouse h), .row 78 3 ((cue1 h ++ targF h.fFixtures (h.fCues.take k)).map encFinding)]) (fun k => k ≤ h.fCues.length) (fun k => h.fCues.length - k) 0 (by omega) (by refine weak_to rfl rfl (by rw [List.take_zero, app_nil' (show targF h.fFixtures [] = [] from rfl)]; rfl) ?_; ((repeat' (first | exact trivial | refine And.intro ?_ ?_)) <;> (first | rfl | (conv => rhs; whnf) <;> (first | rfl | (refine congrArg (D.int _) ?_; omega))))) (fun k hk Q' hn he hr => ?_)
    have hml := targF_len h.fFixtures (h.fCues.take k)
    have htk : (h.fCues.take k).length ≤ 32 := by rw [List.length_take]; omega
    have hal : (cue1 h ++ targF h.fFixtures (h.fCues.take k)).length ≤ 1056 := by rw [List.length_append]; omega
    by_cases hkl : k < h.fCues.length
    · obtain ⟨c, hc⟩ : ∃ c, h.fCues[k]? = some c := ⟨_, List.getElem?_eq_getElem hkl⟩
      repeat' (first | refine sC ?_ | ((with_reducible refine isAwp ?_); first | (refine sS ?_; intro Q' hn he hr) | refine sA ?_) | (refine sH ?_; clear hn he hr Q') | ((conv => whnf); first | refine sK ?_ | (refine sB ?_; repeat' (refine sb2 ?_ ?_ <;> intro hb <;> try exact cls)) | (refine ElemS.the hc ?_) | ((with_reducible refine isCall ?_); (refine call_look ((c_slices_ContainsFix h.fFixtures c).anyG) rfl ?_)) | refine sP ?_))
      all_goals first
        | (refine ⟨k + 1, by omega, by omega, ?_⟩
           exact (by refine weak_to rfl rfl (by rw [targF_yes hc (by omega), ← List.append_assoc, List.map_append (l₂ := [_])]; rfl) ?_; ((repeat' (first | exact trivial | refine And.intro ?_ ?_)) <;> (first | rfl | (conv => rhs; whnf) <;> (first | rfl | (refine congrArg (D.int _) ?_; omega))))))
        | (refine ⟨k + 1, by omega, by omega, ?_⟩
           exact (by refine weak_to rfl rfl (by rw [targF_no hc (by omega)]; rfl) ?_; ((repeat' (first | exact trivial | refine And.intro ?_ ?_)) <;> (first | rfl | (conv => rhs; whnf) <;> (first | rfl | (refine congrArg (D.int _) ?_; omega))))))
    · obtain rfl : k = h.fCues.length := by omega
      have e2 : cue1 h ++ targF h.fFixtures (h.fCues.take h.fCues.length) = cue2 h := by rw [List.take_length]; rfl
      rw [e2] at hal ⊢
      have h3l : (cue3 h).length ≤ 1060 := by unfold cue3; rw [List.length_append]; omega
      have hfin : ∀ k, ((cue3 h ++ unkF h.fCues ((fireS h.fScript).take k))).length ≤ 1200 := fun k => by
        have h5 := unkF_len h.fCues ((fireS h.fScript).take k)
        have h6 : ((fireS h.fScript).take k).length ≤ 40 := by rw [List.length_take]; omega
        rw [List.length_append]; omega
      by_cases hz : runC h.fScript h.fBudget = 0
      · have e3 : cue2 h = cue3 h := by rw [cue3, runFi_no hz, List.append_nil]
        rw [e3] at hal ⊢
        have hrs := c_impl_RunScript h.fScript h.fBudget h2 h3
        rw [hz] at hrs
        repeat' (first | refine sC ?_ | ((with_reducible refine isAwp ?_); first | (refine sS ?_; intro Q' hn he hr) | refine sA ?_) | (refine sH ?_; clear hn he hr Q') | ((conv => whnf); first | refine sK ?_ | (refine sB ?_; repeat' (refine sb2 ?_ ?_ <;> intro hb <;> try exact cls)) | ((with_reducible refine isCall ?_); first | (refine call_pure (hrs.anyG) rfl rfl ?_) | (refine call_pure ((c_impl_CuesOfScript h.fScript h2).anyG) rfl rfl ?_)) | (refine sL ?_; intro hlen) | (refine sH ?_; clear hn he hr Q')))
        refine loop_env (fun k : Nat => [(1,.hp 0 0),(3,.h 1),(92,.sl 1 ((fireS h.fScript).map encS)),(93,.int .i64 (fireS h.fScript).length),(94,.int .i64 k)]) (fun k => [.box (encHouse h), .row 78 3 ((cue3 h ++ unkF h.fCues ((fireS h.fScript).take k)).map encFinding)]) (fun k => k ≤ (fireS h.fScript).length) (fun k => (fireS h.fScript).length - k) 0 (by omega) (by refine weak_to rfl rfl (by rw [List.take_zero, app_nil' (show unkF h.fCues [] = [] from rfl)]; first | rfl | (rw [e3, List.map_append]; rfl)) ?_; ((repeat' (first | exact trivial | refine And.intro ?_ ?_)) <;> (first | rfl | (conv => rhs; whnf) <;> (first | rfl | (refine congrArg (D.int _) ?_; omega))))) (fun k hk Q' hn he hr => ?_)
        have hkl2 := hfin k
        have hkl3 := hfin k
        rw [List.length_append] at hkl3
        by_cases hkl : k < (fireS h.fScript).length
        · obtain ⟨m, hm⟩ : ∃ m, (fireS h.fScript)[k]? = some m := ⟨_, List.getElem?_eq_getElem hkl⟩
          repeat' (first | refine sC ?_ | ((with_reducible refine isAwp ?_); first | (refine sS ?_; intro Q' hn he hr) | refine sA ?_) | (refine sH ?_; clear hn he hr Q') | ((conv => whnf); first | refine sK ?_ | (refine sB ?_; repeat' (refine sb2 ?_ ?_ <;> intro hb <;> try exact cls)) | (refine ElemS.the hm ?_) | ((with_reducible refine isCall ?_); (refine call_pure ((c_impl_cueIndex h.fCues m).anyG) rfl rfl ?_)) | refine sP ?_))
          all_goals first
            | (refine ⟨k + 1, by omega, by omega, ?_⟩
               exact (by refine weak_to rfl rfl (by rw [unkF_yes hm (by omega), ← List.append_assoc, List.map_append (l₂ := [_])]; rfl) ?_; ((repeat' (first | exact trivial | refine And.intro ?_ ?_)) <;> (first | rfl | (conv => rhs; whnf) <;> (first | rfl | (refine congrArg (D.int _) ?_; omega))))))
            | (refine ⟨k + 1, by omega, by omega, ?_⟩
               exact (by refine weak_to rfl rfl (by rw [unkF_no hm (by omega)]; rfl) ?_; ((repeat' (first | exact trivial | refine And.intro ?_ ?_)) <;> (first | rfl | (conv => rhs; whnf) <;> (first | rfl | (refine congrArg (D.int _) ?_; omega))))))
        · obtain rfl : k = (fireS h.fScript).length := by omega
          rw [List.take_length]
          repeat' (first | refine sC ?_ | ((with_reducible refine isAwp ?_); first | (refine sS ?_; intro Q' hn he hr) | refine sA ?_) | (refine sH ?_; clear hn he hr Q') | ((conv => whnf); first | refine sK ?_ | (refine sB ?_; repeat' (refine sb2 ?_ ?_ <;> intro hb <;> try exact cls)) | ((with_reducible refine isRet ?_); (refine ret_pick [1] rfl rfl rfl ⟨rfl, ?_⟩)) | (refine sH ?_; clear hn he hr Q')))
          all_goals rfl
      · have e3 : cue3 h = cue2 h ++ [⟨3, runT, codeT (runC h.fScript h.fBudget)⟩] := by rw [cue3, runFi_yes hz]
        repeat' (first | refine sC ?_ | ((with_reducible refine isAwp ?_); first | (refine sS ?_; intro Q' hn he hr) | refine sA ?_) | (refine sH ?_; clear hn he hr Q') | ((conv => whnf); first | refine sK ?_ | (refine sB ?_; repeat' (refine sb2 ?_ ?_ <;> intro hb <;> try exact cls)) | ((with_reducible refine isCall ?_); first | (refine call_pure ((c_impl_RunScript h.fScript h.fBudget h2 h3).anyG) rfl rfl ?_) | (refine call_pure (c_impl_CodeName (runC h.fScript h.fBudget) (by omega)) rfl rfl ?_) | (refine call_pure ((c_impl_CuesOfScript h.fScript h2).anyG) rfl rfl ?_)) | refine sP ?_ | (refine sL ?_; intro hlen) | (refine sH ?_; clear hn he hr Q')))
        refine loop_env (fun k : Nat => [(1,.hp 0 0),(3,.h 1),(92,.sl 1 ((fireS h.fScript).map encS)),(93,.int .i64 (fireS h.fScript).length),(94,.int .i64 k)]) (fun k => [.box (encHouse h), .row 78 3 ((cue3 h ++ unkF h.fCues ((fireS h.fScript).take k)).map encFinding)]) (fun k => k ≤ (fireS h.fScript).length) (fun k => (fireS h.fScript).length - k) 0 (by omega) (by refine weak_to rfl rfl (by rw [List.take_zero, app_nil' (show unkF h.fCues [] = [] from rfl)]; first | rfl | (rw [e3, List.map_append]; rfl)) ?_; ((repeat' (first | exact trivial | refine And.intro ?_ ?_)) <;> (first | rfl | (conv => rhs; whnf) <;> (first | rfl | (refine congrArg (D.int _) ?_; omega))))) (fun k hk Q' hn he hr => ?_)
        have hkl2 := hfin k
        have hkl3 := hfin k
        rw [List.length_append] at hkl3
        by_cases hkl : k < (fireS h.fScript).length
        · obtain ⟨m, hm⟩ : ∃ m, (fireS h.fScript)[k]? = some m := ⟨_, List.getElem?_eq_getElem hkl⟩
          repeat' (first | refine sC ?_ | ((with_reducible refine isAwp ?_); first | (refine sS ?_; intro Q' hn he hr) | refine sA ?_) | (refine sH ?_; clear hn he hr Q') | ((conv => whnf); first | refine sK ?_ | (refine sB ?_; repeat' (refine sb2 ?_ ?_ <;> intro hb <;> try exact cls)) | (refine ElemS.the hm ?_) | ((with_reducible refine isCall ?_); (refine call_pure ((c_impl_cueIndex h.fCues m).anyG) rfl rfl ?_)) | refine sP ?_))
          all_goals first
            | (refine ⟨k + 1, by omega, by omega, ?_⟩
               exact (by refine weak_to rfl rfl (by rw [unkF_yes hm (by omega), ← List.append_assoc, List.map_append (l₂ := [_])]; rfl) ?_; ((repeat' (first | exact trivial | refine And.intro ?_ ?_)) <;> (first | rfl | (conv => rhs; whnf) <;> (first | rfl | (refine congrArg (D.int _) ?_; omega))))))
            | (refine ⟨k + 1, by omega, by omega, ?_⟩
               exact (by refine weak_to rfl rfl (by rw [unkF_no hm (by omega)]; rfl) ?_; ((repeat' (first | exact trivial | refine And.intro ?_ ?_)) <;> (first | rfl | (conv => rhs; whnf) <;> (first | rfl | (refine congrArg (D.int _) ?_; omega))))))
        · obtain rfl : k = (fireS h.fScript).length := by omega
          rw [List.take_length]
          repeat' (first | refine sC ?_ | ((with_reducible refine isAwp ?_); first | (refine sS ?_; intro Q' hn he hr) | refine sA ?_) | (refine sH ?_; clear hn he hr Q') | ((conv => whnf); first | refine sK ?_ | (refine sB ?_; repeat' (refine sb2 ?_ ?_ <;> intro hb <;> try exact cls)) | ((with_reducible refine isRet ?_); (refine ret_pick [1] rfl rfl rfl ⟨rfl, ?_⟩)) | (refine sH ?_; clear hn he hr Q')))
          all_goals rfl
set_option maxHeartbeats 16000000 in
theorem c_spec_l31Cue (h : THouse) (r : List D) (hv : houseB h = true) : FnC Tryz.prog 76 G0 0 [] [.rp (encHouseR h r)] (fun d os => d = .h 0 ∧ os = [.row 78 3 ((cueAll h).map encFinding)]) := by
  obtain ⟨h1, h2, h3⟩ := houseB_cue hv
  have hcl := cues_len h1
  have hsl := scrs_len h2
  have hpl := clashL_len h.fCues 0 hcl
  have hc1 := cue1_len hcl
  have hrc := runC_code h.fScript h.fBudget
  have hrl := runFi_len (runC h.fScript h.fBudget)
  have htl := targF_len h.fFixtures h.fCues
  have hfl := fireS_len h.fScript
  refine fn_rule Tryz.func76 rfl (by decide +kernel) rfl (fun w0 F0 lent β0 => ?_)
  repeat' (first | refine sC ?_ | ((with_reducible refine isAwp ?_); first | (refine sS ?_; intro Q' hn he hr) | refine sA ?_) | (refine sH ?_; clear hn he hr Q') | ((conv => whnf); first | refine sK ?_ | ((with_reducible refine isCall ?_); (refine call_pure (c_spec_l13Clashes h.fCues h1) rfl rfl ?_))))
  refine loop_env (fun k : Nat => [(0,.rp (encHouseR h r)),(3,.h 0),(4,.sl 1 ((clashL h.fCues 0).map encSpot)),(5,.int .i64 k)]) (fun k => [.row 78 3 ((pairTo h k).map encFinding)]) (fun k => k ≤ (clashL h.fCues 0).length) (fun k => (clashL h.fCues 0).length - k) 0 (by omega) (by refine weak_to rfl rfl rfl ?_; ((repeat' (first | exact trivial | refine And.intro ?_ ?_)) <;> (first | rfl | (conv => rhs; whnf) <;> (first | rfl | (refine congrArg (D.int _) ?_; omega))))) (fun k hk Q' hn he hr => ?_)
  have hml := pairTo_len h k
  by_cases hkl : k < (clashL h.fCues 0).length
  · obtain ⟨s, hs⟩ : ∃ s, (clashL h.fCues 0)[k]? = some s := ⟨_, List.getElem?_eq_getElem hkl⟩
    obtain ⟨i0, k0, rfl, hi0, hk0⟩ := clashL_mem h.fCues.length h.fCues 0 (by omega) s (List.mem_of_getElem? hs)
    obtain ⟨a, ha⟩ : ∃ a, h.fCues[i0]? = some a := ⟨_, List.getElem?_eq_getElem hi0⟩
    obtain ⟨b, hb0⟩ : ∃ b, h.fCues[k0]? = some b := ⟨_, List.getElem?_eq_getElem hk0⟩
    have hpf := pairF_at ha hb0
    repeat' (first | refine sC ?_ | ((with_reducible refine isAwp ?_); first | (refine sS ?_; intro Q' hn he hr) | refine sA ?_) | (refine sH ?_; clear hn he hr Q') | refine sO ?_ | ((conv => whnf); first | refine sK ?_ | (refine sB ?_; repeat' (refine sb2 ?_ ?_ <;> intro hb <;> try exact cls)) | (refine ElemS.the hs ?_) | (refine ElemS.the ha ?_) | (refine ElemS.the hb0 ?_) | (refine ElemS.lit 0 rfl rfl ?_) | (refine ElemS.lit 1 rfl rfl ?_) | refine sP ?_ | (refine sL ?_; intro hlen) | refine sD ?_))
    refine ⟨k + 1, by omega, by omega, ?_⟩
    exact (by refine weak_to rfl rfl (by rw [pairTo_succ hs, hpf, List.map_append]; rfl) ?_; ((repeat' (first | exact trivial | refine And.intro ?_ ?_)) <;> (first | rfl | (conv => rhs; whnf) <;> (first | rfl | (refine congrArg (D.int _) ?_; omega)))))
  · obtain rfl : k = (clashL h.fCues 0).length := by omega
    have e1 : pairTo h (clashL h.fCues 0).length = cue1 h := by unfold pairTo cue1; rw [List.take_length]
    rw [e1]
    repeat' (first | refine sC ?_ | ((with_reducible refine isAwp ?_); first | (refine sS ?_; intro Q' hn he hr) | refine sA ?_) | (refine sH ?_; clear hn he hr Q') | ((conv => whnf); first | refine sK ?_ | (refine sB ?_; repeat' (refine sb2 ?_ ?_ <;> intro hb <;> try exact cls)) | (refine sL ?_; intro hlen) | (refine sH ?_; clear hn he hr Q')))
    refine loop_env (fun k : Nat => [(0,.rp (encHouseR h r)),(3,.h 0),(6,.int .i64 k)]) (fun k => [.row 78 3 ((cue1 h ++ targF h.fFixtures (h.fCues.take k)).map encFinding)]) (fun k => k ≤ h.fCues.length) (fun k => h.fCues.length - k) 0 (by omega) (by refine weak_to rfl rfl (by rw [List.take_zero, app_nil' (show targF h.fFixtures [] = [] from rfl)]; rfl) ?_; ((repeat' (first | exact trivial | refine And.intro ?_ ?_)) <;> (first | rfl | (conv => rhs; whnf) <;> (first | rfl | (refine congrArg (D.int _) ?_; omega))))) (fun k hk Q' hn he hr => ?_)
    have hml := targF_len h.fFixtures (h.fCues.take k)
    have htk : (h.fCues.take k).length ≤ 32 := by rw [List.length_take]; omega
    have hal : (cue1 h ++ targF h.fFixtures (h.fCues.take k)).length ≤ 1056 := by rw [List.length_append]; omega
    by_cases hkl : k < h.fCues.length
    · obtain ⟨c, hc⟩ : ∃ c, h.fCues[k]? = some c := ⟨_, List.getElem?_eq_getElem hkl⟩
      repeat' (first | refine sC ?_ | ((with_reducible refine isAwp ?_); first | (refine sS ?_; intro Q' hn he hr) | refine sA ?_) | (refine sH ?_; clear hn he hr Q') | refine sO ?_ | ((conv => whnf); first | refine sK ?_ | (refine sB ?_; repeat' (refine sb2 ?_ ?_ <;> intro hb <;> try exact cls)) | (refine ElemS.the hc ?_) | ((with_reducible refine isCall ?_); (refine call_pure (c_spec_l31Fixture h r c.fTarget) rfl rfl ?_)) | refine sP ?_ | (refine sL ?_; intro hlen) | refine sD ?_))
      all_goals first
        | (refine ⟨k + 1, by omega, by omega, ?_⟩
           exact (by refine weak_to rfl rfl (by rw [targF_yes hc (by omega), ← List.append_assoc, List.map_append (l₂ := [_])]; rfl) ?_; ((repeat' (first | exact trivial | refine And.intro ?_ ?_)) <;> (first | rfl | (conv => rhs; whnf) <;> (first | rfl | (refine congrArg (D.int _) ?_; omega))))))
        | (refine ⟨k + 1, by omega, by omega, ?_⟩
           exact (by refine weak_to rfl rfl (by rw [targF_no hc (by omega)]; rfl) ?_; ((repeat' (first | exact trivial | refine And.intro ?_ ?_)) <;> (first | rfl | (conv => rhs; whnf) <;> (first | rfl | (refine congrArg (D.int _) ?_; omega))))))
    · obtain rfl : k = h.fCues.length := by omega
      have e2 : cue1 h ++ targF h.fFixtures (h.fCues.take h.fCues.length) = cue2 h := by rw [List.take_length]; rfl
      rw [e2] at hal ⊢
      have h3l : (cue3 h).length ≤ 1060 := by unfold cue3; rw [List.length_append]; omega
      have hfin : ∀ k, ((cue3 h ++ unkF h.fCues ((fireS h.fScript).take k))).length ≤ 1200 := fun k => by
        have h5 := unkF_len h.fCues ((fireS h.fScript).take k)
        have h6 : ((fireS h.fScript).take k).length ≤ 40 := by rw [List.length_take]; omega
        rw [List.length_append]; omega
      by_cases hz : runC h.fScript h.fBudget = 0
      · have e3 : cue2 h = cue3 h := by rw [cue3, runFi_no hz, List.append_nil]
        rw [e3] at hal ⊢
        have hrs := c_spec_l15Do h.fScript h.fBudget h2 h3
        rw [hz] at hrs
        repeat' (first | refine sC ?_ | ((with_reducible refine isAwp ?_); first | (refine sS ?_; intro Q' hn he hr) | refine sA ?_) | (refine sH ?_; clear hn he hr Q') | refine sO ?_ | ((conv => whnf); first | refine sK ?_ | (refine sB ?_; repeat' (refine sb2 ?_ ?_ <;> intro hb <;> try exact cls)) | ((with_reducible refine isCall ?_); (refine call_pure (c_spec_CuesOfScript h.fScript h2) rfl rfl ?_)) | ((with_reducible refine isCallQ ?_); (refine callQ_pure (hrs) rfl rfl ?_)) | (refine sL ?_; intro hlen) | refine sD ?_ | (refine sH ?_; clear hn he hr Q')))
        refine loop_env (fun k : Nat => [(0,.rp (encHouseR h r)),(3,.h 0),(9,.sl 1 ((fireS h.fScript).map encS)),(11,.int .i64 k)]) (fun k => [.row 78 3 ((cue3 h ++ unkF h.fCues ((fireS h.fScript).take k)).map encFinding)]) (fun k => k ≤ (fireS h.fScript).length) (fun k => (fireS h.fScript).length - k) 0 (by omega) (by refine weak_to rfl rfl (by rw [List.take_zero, app_nil' (show unkF h.fCues [] = [] from rfl)]; first | rfl | (rw [e3, List.map_append]; rfl)) ?_; ((repeat' (first | exact trivial | refine And.intro ?_ ?_)) <;> (first | rfl | (conv => rhs; whnf) <;> (first | rfl | (refine congrArg (D.int _) ?_; omega))))) (fun k hk Q' hn he hr => ?_)
        have hkl2 := hfin k
        have hkl3 := hfin k
        rw [List.length_append] at hkl3
        by_cases hkl : k < (fireS h.fScript).length
        · obtain ⟨m, hm⟩ : ∃ m, (fireS h.fScript)[k]? = some m := ⟨_, List.getElem?_eq_getElem hkl⟩
          repeat' (first | refine sC ?_ | ((with_reducible refine isAwp ?_); first | (refine sS ?_; intro Q' hn he hr) | refine sA ?_) | (refine sH ?_; clear hn he hr Q') | refine sO ?_ | ((conv => whnf); first | refine sK ?_ | (refine sB ?_; repeat' (refine sb2 ?_ ?_ <;> intro hb <;> try exact cls)) | (refine ElemS.the hm ?_) | ((with_reducible refine isCallQ ?_); (refine callQ_pure (c_spec_l13Find h.fCues m) rfl rfl ?_)) | refine sP ?_ | (refine sL ?_; intro hlen) | refine sD ?_))
          all_goals first
            | (refine ⟨k + 1, by omega, by omega, ?_⟩
               exact (by refine weak_to rfl rfl (by rw [unkF_yes hm (by omega), ← List.append_assoc, List.map_append (l₂ := [_])]; rfl) ?_; ((repeat' (first | exact trivial | refine And.intro ?_ ?_)) <;> (first | rfl | (conv => rhs; whnf) <;> (first | rfl | (refine congrArg (D.int _) ?_; omega))))))
            | (refine ⟨k + 1, by omega, by omega, ?_⟩
               exact (by refine weak_to rfl rfl (by rw [unkF_no hm (by omega)]; rfl) ?_; ((repeat' (first | exact trivial | refine And.intro ?_ ?_)) <;> (first | rfl | (conv => rhs; whnf) <;> (first | rfl | (refine congrArg (D.int _) ?_; omega))))))
        · obtain rfl : k = (fireS h.fScript).length := by omega
          rw [List.take_length]
          repeat' (first | refine sC ?_ | ((with_reducible refine isAwp ?_); first | (refine sS ?_; intro Q' hn he hr) | refine sA ?_) | (refine sH ?_; clear hn he hr Q') | ((conv => whnf); first | refine sK ?_ | (refine sB ?_; repeat' (refine sb2 ?_ ?_ <;> intro hb <;> try exact cls)) | ((with_reducible refine isRet ?_); (refine ret_pick [0] rfl rfl rfl ⟨rfl, ?_⟩)) | (refine sL ?_; intro hlen) | (refine sH ?_; clear hn he hr Q')))
          all_goals rfl
      · have e3 : cue3 h = cue2 h ++ [⟨3, runT, codeT (runC h.fScript h.fBudget)⟩] := by rw [cue3, runFi_yes hz]
        repeat' (first | refine sC ?_ | ((with_reducible refine isAwp ?_); first | (refine sS ?_; intro Q' hn he hr) | refine sA ?_) | (refine sH ?_; clear hn he hr Q') | refine sO ?_ | ((conv => whnf); first | refine sK ?_ | (refine sB ?_; repeat' (refine sb2 ?_ ?_ <;> intro hb <;> try exact cls)) | ((with_reducible refine isCall ?_); first | (refine call_pure (c_spec_CodeName (runC h.fScript h.fBudget) (by omega)) rfl rfl ?_) | (refine call_pure (c_spec_CuesOfScript h.fScript h2) rfl rfl ?_)) | ((with_reducible refine isCallQ ?_); (refine callQ_pure (c_spec_l15Do h.fScript h.fBudget h2 h3) rfl rfl ?_)) | refine sP ?_ | (refine sL ?_; intro hlen) | refine sD ?_ | (refine sH ?_; clear hn he hr Q')))
        refine loop_env (fun k : Nat => [(0,.rp (encHouseR h r)),(3,.h 0),(9,.sl 1 ((fireS h.fScript).map encS)),(11,.int .i64 k)]) (fun k => [.row 78 3 ((cue3 h ++ unkF h.fCues ((fireS h.fScript).take k)).map encFinding)]) (fun k => k ≤ (fireS h.fScript).length) (fun k => (fireS h.fScript).length - k) 0 (by omega) (by refine weak_to rfl rfl (by rw [List.take_zero, app_nil' (show unkF h.fCues [] = [] from rfl)]; first | rfl | (rw [e3, List.map_append]; rfl)) ?_; ((repeat' (first | exact trivial | refine And.intro ?_ ?_)) <;> (first | rfl | (conv => rhs; whnf) <;> (first | rfl | (refine congrArg (D.int _) ?_; omega))))) (fun k hk Q' hn he hr => ?_)
        have hkl2 := hfin k
        have hkl3 := hfin k
        rw [List.length_append] at hkl3
        by_cases hkl : k < (fireS h.fScript).length
        · obtain ⟨m, hm⟩ : ∃ m, (fireS h.fScript)[k]? = some m := ⟨_, List.getElem?_eq_getElem hkl⟩
          repeat' (first | refine sC ?_ | ((with_reducible refine isAwp ?_); first | (refine sS ?_; intro Q' hn he hr) | refine sA ?_) | (refine sH ?_; clear hn he hr Q') | refine sO ?_ | ((conv => whnf); first | refine sK ?_ | (refine sB ?_; repeat' (refine sb2 ?_ ?_ <;> intro hb <;> try exact cls)) | (refine ElemS.the hm ?_) | ((with_reducible refine isCallQ ?_); (refine callQ_pure (c_spec_l13Find h.fCues m) rfl rfl ?_)) | refine sP ?_ | (refine sL ?_; intro hlen) | refine sD ?_))
          all_goals first
            | (refine ⟨k + 1, by omega, by omega, ?_⟩
               exact (by refine weak_to rfl rfl (by rw [unkF_yes hm (by omega), ← List.append_assoc, List.map_append (l₂ := [_])]; rfl) ?_; ((repeat' (first | exact trivial | refine And.intro ?_ ?_)) <;> (first | rfl | (conv => rhs; whnf) <;> (first | rfl | (refine congrArg (D.int _) ?_; omega))))))
            | (refine ⟨k + 1, by omega, by omega, ?_⟩
               exact (by refine weak_to rfl rfl (by rw [unkF_no hm (by omega)]; rfl) ?_; ((repeat' (first | exact trivial | refine And.intro ?_ ?_)) <;> (first | rfl | (conv => rhs; whnf) <;> (first | rfl | (refine congrArg (D.int _) ?_; omega))))))
        · obtain rfl : k = (fireS h.fScript).length := by omega
          rw [List.take_length]
          repeat' (first | refine sC ?_ | ((with_reducible refine isAwp ?_); first | (refine sS ?_; intro Q' hn he hr) | refine sA ?_) | (refine sH ?_; clear hn he hr Q') | ((conv => whnf); first | refine sK ?_ | (refine sB ?_; repeat' (refine sb2 ?_ ?_ <;> intro hb <;> try exact cls)) | ((with_reducible refine isRet ?_); (refine ret_pick [0] rfl rfl rfl ⟨rfl, ?_⟩)) | (refine sL ?_; intro hlen) | (refine sH ?_; clear hn he hr Q')))
          all_goals rfl
theorem cueAll_len {h : THouse} (hv : houseB h = true) : (cueAll h).length ≤ 1200 := by
  obtain ⟨h1, h2, _⟩ := houseB_cue hv
  have hcl := cues_len h1
  have hsl := scrs_len h2
  have hc1 := cue1_len hcl
  have hrl := runFi_len (runC h.fScript h.fBudget)
  have htl := targF_len h.fFixtures h.fCues
  have hfl := fireS_len h.fScript
  have hul := unkF_len h.fCues (fireS h.fScript)
  simp only [cueAll, cue3, cue2, List.length_append]
  omega
end Go.Eng
