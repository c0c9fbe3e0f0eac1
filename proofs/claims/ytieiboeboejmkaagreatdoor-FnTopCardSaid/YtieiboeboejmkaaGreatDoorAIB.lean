/-
  Contracts of functions of the program and of the reference, and plain laws: a bundle of texts.
  No conditions.
-/
import Derived.Test.YtieiboeboejmkaaGreatDoorED
import Derived.Test.YtieiboeboejmkaaGreatDoorPK
import Derived.Test.YtieiboeboejmkaaGreatDoorFQ2
import Derived.Test.YtieiboeboejmkaaGreatDoorDM
import Derived.Test.YtieiboeboejmkaaGreatDoorQX
import Derived.Test.YtieiboeboejmkaaGreatDoorVY
import Derived.Test.YtieiboeboejmkaaGreatDoorVX
import Derived.Test.YtieiboeboejmkaaGreatDoorLT
set_option linter.unusedVariables false
set_option linter.unusedSimpArgs false
set_option maxHeartbeats 4000000
namespace Go.Eng
open Go Go.RowKit
theorem weak_frz {st : St} (o : Nat) {e : TypeId} {s : Nat} {es : List (List D)} (ho : st.obj o = .row e s es) (hp : st.pin ≤ o) : Weak st (st.frz o s es) :=
  fun _ _ _ _ h => h.frz ho hp
theorem weak_nil_box {env : List (Nat × D)} {nt : Nat} {objs : List Obj} {g : Nat → Option (List D)} {pin : Nat} (o j : Nat) (s : Nat) {cs : List D} (ho : objs.getD o .dead = .box cs) (hol : Nat.blt o objs.length = true)
    (hj : cs.getD j .junk = .v (.slice none 0 0)) (hjl : Nat.blt j cs.length = true) :
    Weak ⟨env, nt, objs, g, pin⟩ ⟨env, nt, objs.set o (.box (cs.set j (.sl s []))), g, pin⟩ := by
  intro X β a w h
  have hol : o < objs.length := by simpa using hol
  have hjl : j < cs.length := by simpa using hjl
  have ho1 : (St.mk env nt objs g pin).obj o = .box cs := ho
  obtain ⟨x, hx, hw⟩ := h.own o hol (by rw [ho1]; trivial)
  rw [ho1] at hw
  obtain ⟨b, c, T, rfl, hg, hs, hone, hr⟩ := hw
  have h2 := h.store hx (w' := w) ⟨rfl, rfl, rfl, Nat.le_refl _, fun _ _ _ => rfl⟩ (.box (cs.set j (.sl s []))) trivial (fun F' hF' => by
    refine ⟨b, c, T, rfl, hg, by simp [hs], hone, fun i hi => ?_⟩
    have hi' : i < cs.length := by simpa using hi
    by_cases e1 : i = j
    · subst e1
      have hv := hr i hi'
      rw [hj] at hv
      have hv := hv.v_inv
      have e3 : (cs.set i (D.sl s [])).getD i .junk = .sl s [] := by rw [List.getD_eq_getElem?_getD, List.getElem?_set_self hi']; rfl
      rw [hv, e3]
      exact .ro _ _ (.slnil _ _ _)
    · have e3 : (cs.set j (D.sl s [])).getD i .junk = cs.getD i .junk := by rw [List.getD_eq_getElem?_getD, List.getD_eq_getElem?_getD, List.getElem?_set_ne (Ne.symm e1)]
      rw [e3]
      exact (hr i hi').mono hF' (fun _ _ h => h))
  exact ⟨β, h2⟩
/-- Cells of which some are empty slices without memory, read as empty rows. -/
def nilTo : List D → List D → Prop
  | [], [] => True
  | a :: r, b :: r' => (a = b ∨ (a = .v (.slice none 0 0) ∧ ∃ s, b = .sl s [])) ∧ nilTo r r'
  | _, _ => False
theorem nilTo_at : ∀ {cs ds : List D}, nilTo cs ds → cs.length = ds.length ∧ ∀ i, i < ds.length → (cs.getD i .junk = ds.getD i .junk ∨ (cs.getD i .junk = .v (.slice none 0 0) ∧ ∃ s, ds.getD i .junk = .sl s []))
  | [], [], _ => ⟨rfl, fun i hi => absurd hi (Nat.not_lt_zero _)⟩
  | a :: r, b :: r', h => by
    obtain ⟨h1, h2⟩ := nilTo_at h.2
    refine ⟨by simp [h1], fun i hi => ?_⟩
    cases i with
    | zero => exact h.1
    | succ i => exact h2 i (by simpa using hi)
  | [], _ :: _, h => h.elim
  | _ :: _, [], h => h.elim
theorem Rep.nils {F : Nat → Prop} {β : Nat → Option Value} {w : World} {v : Value} {cs ds : List D} (hn : nilTo cs ds) (h : Rep F β w v (.agg cs)) : Rep F β w v (.agg ds) := by
  obtain ⟨hl, hat⟩ := nilTo_at hn
  obtain ⟨vs, rfl, h1, h2, h3⟩ := h.agg_inv
  refine .agg _ _ (by rw [h1, hl]) h2 (fun i hi => ?_)
  have h4 := h3 i (by omega)
  rcases hat i hi with e | ⟨e, s, e2⟩
  · rw [← e]
    exact h4
  · rw [e] at h4
    rw [e2, h4.v_inv]
    exact .ro _ _ (.slnil _ _ _)
theorem ret_nils {X : Ctx} {G : Nat → Option (List D)} {pin : Nat} {st : St} {cs ds : List D} {post : D → List Obj → Prop} (hn : nilTo cs ds) (h : RetS X G pin st (.agg ds) post) : RetS X G pin st (.agg cs) post :=
  RetS.mk fun β a w v hr hv => h.use β a w v hr (hv.nils hn)
end Go.Eng

namespace Go.Eng
open Go Go.RowKit Go.Proofs
set_option maxRecDepth 100000
theorem ltCue_trans {x y z : TCue} (h : ltCue x y = true) (k : ltCue y z = true) : ltCue x z = true := by
  simp only [ltCue, Bool.or_eq_true, Bool.and_eq_true, decide_eq_true_eq] at h k ⊢
  rcases h with h | ⟨h, h'⟩ <;> rcases k with k | ⟨k, k'⟩
  · exact .inl (by omega)
  · exact .inl (by omega)
  · exact .inl (by omega)
  · exact .inr ⟨by omega, less_trans h' k'⟩
theorem ltCue_tri {x y : TCue} (h : ltCue x y = false) (hn : x.fId ≠ y.fId) : ltCue y x = true := by
  simp only [ltCue, Bool.or_eq_false_iff, Bool.and_eq_false_iff, decide_eq_false_iff_not] at h
  simp only [ltCue, Bool.or_eq_true, Bool.and_eq_true, decide_eq_true_eq]
  rcases h with ⟨h1, h2 | h2⟩
  · exact .inl (by omega)
  · by_cases e : x.fTime = y.fTime
    · exact .inr ⟨e.symm, less_tri h2 hn⟩
    · exact .inl (by omega)
def cuesOk (L : List TCue) : Prop := L.length ≤ 32 ∧ ∀ (k : Nat) x, L[k]? = some x → cueB x = true ∧ ∀ (i : Nat) y, i < k → L[i]? = some y → ltCue y x = true ∧ y.fId ≠ x.fId
theorem cues_spec {L : List TCue} (h : cuesB L = true) : cuesOk L := by
  have hl := cues_len h
  have ha : allI (cueP L) L = true := by
    simp only [cuesB, Bool.and_eq_true] at h
    exact h.2
  have hc : chain ltCue L = true := by
    rw [chain_iff]
    intro j x y hx hy
    have h1 := allI_at ha hy
    simp only [cueP, Bool.and_eq_true] at h1
    have h2 := h1.2.1
    rwa [prevB_at rfl hx] at h2
  refine ⟨hl, fun k x hx => ?_⟩
  have h1 := allI_at ha hx
  simp only [cueP, Bool.and_eq_true] at h1
  refine ⟨h1.1, fun i y hi hy => ⟨chain_sorted (lt := ltCue) (a := L) (fun h9 k9 => ltCue_trans h9 k9) hc hi hy hx, fun e => ?_⟩⟩
  have h3 := noneB_bad (q := isCue x.fId) hy hi (by simp [isCue, e])
  rw [h1.2.2] at h3
  cases h3
theorem cues_make {L : List TCue} (h : cuesOk L) : cuesB L = true := by
  obtain ⟨hl, h⟩ := h
  simp only [cuesB, Bool.and_eq_true, decide_eq_true_eq]
  refine ⟨hl, allI_of (k := L.length) (fun j x _ hx => ?_) (Nat.le_refl _)⟩
  obtain ⟨h1, h2⟩ := h j x hx
  refine cueP_yes h1 ?_ (noneB_of fun i y hi hy => ?_)
  · cases j with
    | zero => rfl
    | succ j =>
      obtain ⟨y, hy⟩ : ∃ y, L[j]? = some y := ⟨_, List.getElem?_eq_getElem (by have := (List.getElem?_eq_some_iff.1 hx).1; omega)⟩
      rw [prevB_at rfl hy]
      exact (h2 j y (by omega) hy).1
  · have := (h2 i y hi hy).2
    simp [isCue, this]
theorem ins_get {α : Type} {C : List α} {c : α} {k : Nat} (hk : k ≤ C.length) (i : Nat) : (C.take k ++ c :: C.drop k)[i]? = if i < k then C[i]? else if i = k then some c else C[i - 1]? := by
  rw [List.getElem?_append, List.length_take, Nat.min_eq_left hk]
  by_cases h : i < k
  · rw [if_pos h, if_pos h, List.getElem?_take_of_lt h]
  · rw [if_neg h, if_neg h]
    by_cases e : i = k
    · subst e
      simp
    · rw [if_neg e]
      obtain ⟨m, rfl⟩ : ∃ m, i = k + 1 + m := ⟨i - k - 1, by omega⟩
      have e1 : k + 1 + m - k = m + 1 := by omega
      have e2 : k + 1 + m - 1 = k + m := by omega
      rw [e1, e2, List.getElem?_cons_succ, List.getElem?_drop]
theorem put_cues {C : List TCue} {c : TCue} {k : Nat} (hC : cuesB C = true) (hc : cueB c = true) (hl : C.length ≠ 32) (hne : ∀ y ∈ C, y.fId ≠ c.fId) (hk : k ≤ C.length)
    (hhi : ∀ (i : Nat) y, k ≤ i → C[i]? = some y → ltCue c y = true) (hlo : ∀ (i : Nat) y, i + 1 = k → C[i]? = some y → ltCue c y = false) : cuesB (C.take k ++ c :: C.drop k) = true := by
  obtain ⟨h1, h2⟩ := cues_spec hC
  have hlow : ∀ i y, i < k → C[i]? = some y → ltCue y c = true := fun i y hi hy => by
    obtain ⟨z, hz⟩ : ∃ z, C[k - 1]? = some z := ⟨_, List.getElem?_eq_getElem (by omega)⟩
    have hzc : ltCue z c = true := ltCue_tri (hlo (k - 1) z (by omega) hz) (fun e => hne z (List.mem_of_getElem? hz) e.symm)
    by_cases e : i = k - 1
    · subst e
      rw [hz] at hy
      cases hy
      exact hzc
    · exact ltCue_trans ((h2 _ _ hz).2 i y (by omega) hy).1 hzc
  refine cues_make ⟨by simp; omega, fun j x hx => ?_⟩
  rw [ins_get hk] at hx
  split at hx
  · rename_i hj
    refine ⟨(h2 j x hx).1, fun i y hi hy => ?_⟩
    rw [ins_get hk, if_pos (by omega)] at hy
    exact (h2 j x hx).2 i y hi hy
  · split at hx
    · rename_i hj hjk
      cases hx
      refine ⟨hc, fun i y hi hy => ?_⟩
      rw [ins_get hk, if_pos (by omega)] at hy
      exact ⟨hlow i y (by omega) hy, hne y (List.mem_of_getElem? hy)⟩
    · rename_i hj hjk
      refine ⟨(h2 _ x hx).1, fun i y hi hy => ?_⟩
      rw [ins_get hk] at hy
      split at hy
      · exact (h2 _ x hx).2 i y (by omega) hy
      · split at hy
        · cases hy
          exact ⟨hhi (j - 1) x (by omega) hx, fun e => hne x (List.mem_of_getElem? hx) e.symm⟩
        · exact (h2 _ x hx).2 (i - 1) y (by omega) hy
end Go.Eng

namespace Go.Eng
open Go Go.RowKit Go.Proofs
set_option maxRecDepth 100000
theorem idxQ_neg {C : List TCue} {id : List UInt8} (h : idxQ (isCue id) C < 0) : ∀ y ∈ C, y.fId ≠ id := by
  intro y hy e
  obtain ⟨j, hj⟩ := List.getElem?_of_mem hy
  have h1 := idxQ_lt (q := isCue id) hj (by simp [isCue, e])
  have h2 := idxQ_range (isCue id) C
  have h3 : idxQ (isCue id) C = -1 ∨ 0 ≤ idxQ (isCue id) C := by omega
  unfold idxQ at h
  split at h
  · omega
  · rename_i hn
    have h4 := (firstAt_spec (isCue id) C).1 j y (by have := (List.getElem?_eq_some_iff.1 hj).1; omega) hj
    simp [isCue, e] at h4
/-- A list of cues with a further one at its place. -/
def insC (C : List TCue) (c : TCue) : List TCue := C.take (firstAt (ltCue c) C) ++ c :: C.drop (firstAt (ltCue c) C)
theorem cue_place {C : List TCue} {c : TCue} {k : Nat} (hC : cuesB C = true) (hk : k ≤ C.length) (hhi : ∀ (i : Nat) y, k ≤ i → C[i]? = some y → ltCue c y = true) (hlo : ∀ (i : Nat) y, i + 1 = k → C[i]? = some y → ltCue c y = false) : firstAt (ltCue c) C = k := by
  refine firstAt_eq hk (fun j x hj hx => ?_) (fun x hx => hhi k x (Nat.le_refl _) hx)
  obtain ⟨z, hz⟩ : ∃ z, C[k - 1]? = some z := ⟨_, List.getElem?_eq_getElem (by omega)⟩
  have h1 := hlo (k - 1) z (by omega) hz
  by_cases e : j = k - 1
  · subst e
    rw [hz] at hx
    cases hx
    exact h1
  · cases h2 : ltCue c x with
    | false => rfl
    | true =>
      have h3 := (((cues_spec hC).2 _ z hz).2 j x (by omega) hx).1
      rw [ltCue_trans h2 h3] at h1
      cases h1
/-- What comes of adding a cue. -/
def addE (C : List TCue) (c : TCue) : Int := if cuesB C = true ∧ cueB c = true then (if 0 ≤ idxQ (isCue c.fId) C then 4 else if C.length = 32 then 5 else 0) else 1
def addL (C : List TCue) (c : TCue) : List TCue := if addE C c = 0 then insC C c else []
theorem addE_ok {C : List TCue} {c : TCue} (h : addE C c = 0) : cuesB C = true ∧ cueB c = true ∧ idxQ (isCue c.fId) C < 0 ∧ C.length ≠ 32 := by
  unfold addE at h
  split at h
  · rename_i h1
    split at h
    · cases h
    · split at h
      · cases h
      · exact ⟨h1.1, h1.2, by omega, by assumption⟩
  · cases h
theorem addL_ok {C : List TCue} {c : TCue} (h : addE C c = 0) : cuesB (addL C c) = true := by
  obtain ⟨h1, h2, h3, h4⟩ := addE_ok h
  rw [addL, if_pos h]
  have hf := firstAt_spec (ltCue c) C
  have hfl := firstAt_le (ltCue c) C
  refine put_cues h1 h2 h4 (idxQ_neg h3) hfl (fun i y hi hy => ?_) (fun i y hi hy => hf.1 i y (by omega) hy)
  obtain ⟨z, hz⟩ : ∃ z, C[firstAt (ltCue c) C]? = some z := ⟨_, List.getElem?_eq_getElem (by have := (List.getElem?_eq_some_iff.1 hy).1; omega)⟩
  have h5 := hf.2 z hz
  by_cases e : i = firstAt (ltCue c) C
  · subst e
    rw [hz] at hy
    cases hy
    exact h5
  · exact ltCue_trans h5 (((cues_spec h1).2 i y hy).2 _ z (by omega) hz).1
theorem put_rowC (a : List TCue) (x : TCue) (k : Nat) : [] ++ (a.map encCue).take k ++ [encCue x] ++ (a.map encCue).drop k = (a.take k ++ x :: a.drop k).map encCue := by simp
set_option maxHeartbeats 8000000 in
theorem c_spec_l13Put (C : List TCue) (c : TCue) (hv : cuesB C = true) : FnC Tryz.prog 210 G0 0 [] [.sl 6 (C.map encCue), .agg (encCue c)] (fun d os => d = .sl 6 ((insC C c).map encCue) ∧ os = []) := by
  have hl2 := cues_len hv
  refine fn_rule Tryz.func210 rfl (by decide +kernel) rfl (fun w0 F0 lent β0 => ?_)
  repeat' (first | refine sC ?_ | ((with_reducible refine isAwp ?_); first | (refine sS ?_; intro Q' hn he hr) | refine sA ?_) | (refine sH ?_; clear hn he hr Q') | ((conv => whnf); first | refine sK ?_ | (refine sL ?_; intro hlen)))
  refine loop_env (fun k : Nat => [(0,.sl 6 (C.map encCue)),(3,.hp 0 0),(5,.int .i64 k)]) (fun k => [.box (encCue c)]) (fun k => k ≤ C.length ∧ ∀ i y, k ≤ i → C[i]? = some y → ltCue c y = true) (fun k => k) C.length ⟨Nat.le_refl _, fun i y h1 h2 => by have := (List.getElem?_eq_some_iff.1 h2).1; omega⟩ (by refine weak_to rfl rfl rfl ?_; ((repeat' (first | exact trivial | refine And.intro ?_ ?_)) <;> (first | rfl | (conv => rhs; whnf) <;> (first | rfl | (refine congrArg (D.int _) ?_; omega))))) (fun k hk Q' hn he hr => ?_)
  obtain ⟨hk1, hk2⟩ := hk
  by_cases hk0 : k = 0
  · subst hk0
    have hp := cue_place hv (Nat.zero_le _) hk2 (fun i y h1 => by omega)
    repeat' (first | refine sC ?_ | ((with_reducible refine isAwp ?_); first | (refine sS ?_; intro Q' hn he hr) | refine sA ?_) | (refine sH ?_; clear hn he hr Q') | ((conv => whnf); first | refine sK ?_ | (refine sB ?_; repeat' (first | refine sb0 ?_ | (refine sb2 ?_ ?_ <;> intro hb <;> try exact cls))) | ((with_reducible refine isRet ?_); (refine ret_freeze 1 rfl (Nat.zero_le _) ?_; refine ret_pick [] rfl rfl rfl ⟨?_, rfl⟩)) | refine sP ?_ | (refine sH ?_; clear hn he hr Q')))
    all_goals first
      | (refine (rfl : _ = D.sl 6 ([] ++ (C.map encCue).take 0 ++ [encCue c] ++ (C.map encCue).drop 0)).trans ?_
         rw [put_rowC, insC, hp])
      | trace_state
  · obtain ⟨z, hz⟩ : ∃ z, C[k - 1]? = some z := ⟨_, List.getElem?_eq_getElem (by omega)⟩
    have hkz : ((k - 1 : Nat) : Int) = (k : Int) - 1 := by omega
    cases hlt : ltCue c z with
    | true =>
      repeat' (first | refine sC ?_ | ((with_reducible refine isAwp ?_); first | (refine sS ?_; intro Q' hn he hr) | refine sA ?_) | (refine sH ?_; clear hn he hr Q') | ((conv => whnf); first | refine sK ?_ | (refine sB ?_; repeat' (first | refine sb0 ?_ | (refine sb2 ?_ ?_ <;> intro hb <;> try exact cls))) | (refine ArithS.to ((k - 1 : Nat) : Int) (by omega) (wrap64 (by omega)) ?_) | (refine ElemS.the hz ?_) | ((with_reducible refine isCall ?_); (refine call_look (c_spec_l13Before c z) rfl ?_)) | refine sP ?_ | (refine sX ?_; intro i1 i2 hi1 hi2 hj1 hj2; try simp only [cutL, lnM, lnA, lnC, lnN, lnT, lnD, lnR] at hi1 hi2 hj2) | (refine ret_pick [] rfl rfl rfl ⟨?_, rfl⟩; conv => lhs; whnf) | (refine sH ?_; clear hn he hr Q')))
      all_goals first
        | exact absurd (hlt.symm.trans (by assumption)) (by decide)
        | exact ⟨k - 1, ⟨by omega, fun i3 y2 h1 h2 => by
            by_cases e : i3 = k - 1
            · subst e; rw [hz] at h2; cases h2; exact hlt
            · exact hk2 i3 y2 (by omega) h2⟩, by omega, (by refine weak_to rfl rfl rfl ?_; ((repeat' (first | exact trivial | refine And.intro ?_ ?_)) <;> (first | rfl | (conv => rhs; whnf) <;> (first | rfl | (refine congrArg (D.int _) ?_; omega)))))⟩
        | trace_state
    | false =>
      have hp := cue_place hv hk1 hk2 (fun i3 y2 h1 h2 => by
        obtain rfl : i3 = k - 1 := by omega
        rw [hz] at h2; cases h2; exact hlt)
      repeat' (first | refine sC ?_ | ((with_reducible refine isAwp ?_); first | (refine sS ?_; intro Q' hn he hr) | refine sA ?_) | (refine sH ?_; clear hn he hr Q') | ((conv => whnf); first | refine sK ?_ | (refine sB ?_; repeat' (first | refine sb0 ?_ | (refine sb2 ?_ ?_ <;> intro hb <;> try exact cls))) | (refine ArithS.to ((k - 1 : Nat) : Int) (by omega) (wrap64 (by omega)) ?_) | (refine ElemS.the hz ?_) | ((with_reducible refine isCall ?_); (refine call_look (c_spec_l13Before c z) rfl ?_)) | ((with_reducible refine isRet ?_); (refine ret_freeze 1 rfl (Nat.zero_le _) ?_; refine ret_pick [] rfl rfl rfl ⟨?_, rfl⟩)) | refine sP ?_ | (refine sX ?_; intro i1 i2 hi1 hi2 hj1 hj2; try simp only [cutL, lnM, lnA, lnC, lnN, lnT, lnD, lnR] at hi1 hi2 hj2) | (refine sH ?_; clear hn he hr Q')))
      all_goals first
        | exact absurd (hlt.symm.trans (by assumption)) (by decide)
        | (obtain rfl : i1 = k := by omega
           refine (rfl : _ = D.sl 6 ([] ++ (C.map encCue).take i1 ++ [encCue c] ++ (C.map encCue).drop i1)).trans ?_
           rw [put_rowC, insC, hp])
        | trace_state
set_option maxHeartbeats 8000000 in
theorem c_spec_AddCue (C : List TCue) (c : TCue) : FnC Tryz.prog 118 G0 0 [] [.sl 6 (C.map encCue), .agg (encCue c)] (fun d os => d = .tup [.sl 6 ((addL C c).map encCue), .int .i64 (addE C c)] ∧ os = []) := by
  cases hv : cuesB C with
  | false =>
    have he : addE C c = 1 := by unfold addE; rw [if_neg (by simp [hv])]
    have hl : addL C c = [] := by unfold addL; rw [if_neg (by omega)]
    refine fn_rule Tryz.func118 rfl (by decide +kernel) rfl (fun w0 F0 lent β0 => ?_)
    repeat' (first | refine sC ?_ | ((with_reducible refine isAwp ?_); first | (refine sS ?_; intro Q' hn he hr) | refine sA ?_) | (refine sH ?_; clear hn he hr Q') | ((conv => whnf); first | refine sK ?_ | (refine sB ?_; repeat' (first | refine sb0 ?_ | (refine sb2 ?_ ?_ <;> intro hb <;> try exact cls))) | ((with_reducible refine isCall ?_); (refine call_pure (c_spec_l13Ok C) rfl rfl ?_)) | ((with_reducible refine isRet ?_); (refine ret_nil 6 ?_; refine ret_pick [] rfl rfl rfl ⟨?_, rfl⟩))))
    all_goals (rw [hl, he]; rfl)
  | true =>
    have hl2 := cues_len hv
    cases hv2 : cueB c with
    | false =>
      have he : addE C c = 1 := by unfold addE; rw [if_neg (by simp [hv2])]
      have hl : addL C c = [] := by unfold addL; rw [if_neg (by omega)]
      refine fn_rule Tryz.func118 rfl (by decide +kernel) rfl (fun w0 F0 lent β0 => ?_)
      repeat' (first | refine sC ?_ | ((with_reducible refine isAwp ?_); first | (refine sS ?_; intro Q' hn he hr) | refine sA ?_) | (refine sH ?_; clear hn he hr Q') | ((conv => whnf); first | refine sK ?_ | (refine sB ?_; repeat' (first | refine sb0 ?_ | (refine sb2 ?_ ?_ <;> intro hb <;> try exact cls))) | ((with_reducible refine isCall ?_); first | (refine call_pure (c_spec_l13Ok C) rfl rfl ?_) | (refine call_look (c_spec_l13One c) rfl ?_)) | ((with_reducible refine isRet ?_); (refine ret_nil 6 ?_; refine ret_pick [] rfl rfl rfl ⟨?_, rfl⟩))))
      all_goals (rw [hl, he]; rfl)
    | true =>
      have hE : addE C c = if 0 ≤ idxQ (isCue c.fId) C then 4 else if C.length = 32 then 5 else 0 := by unfold addE; rw [if_pos ⟨hv, hv2⟩]
      refine fn_rule Tryz.func118 rfl (by decide +kernel) rfl (fun w0 F0 lent β0 => ?_)
      repeat' (first | refine sC ?_ | ((with_reducible refine isAwp ?_); first | (refine sS ?_; intro Q' hn he hr) | refine sA ?_) | (refine sH ?_; clear hn he hr Q') | ((conv => whnf); first | refine sK ?_ | (refine sB ?_; repeat' (first | refine sb0 ?_ | (refine sb2 ?_ ?_ <;> intro hb <;> try exact cls))) | ((with_reducible refine isCall ?_); first | (refine call_pure (c_spec_l13Ok C) rfl rfl ?_) | (refine call_look (c_spec_l13One c) rfl ?_) | (refine call_pure (c_spec_l13Find C c.fId) rfl rfl ?_) | (refine call_pure (c_spec_l13Put C c hv) rfl rfl ?_)) | ((with_reducible refine isRet ?_); (refine ret_nil 6 ?_; refine ret_pick [] rfl rfl rfl ⟨?_, rfl⟩)) | (refine sL ?_; intro hlen)))
      all_goals first
        | (have he : addE C c = 4 := by rw [hE, if_pos (by omega)]
           rw [show addL C c = [] by unfold addL; rw [if_neg (by omega)], he]; rfl)
        | (have he : addE C c = 5 := by rw [hE, if_neg (by omega), if_pos (by omega)]
           rw [show addL C c = [] by unfold addL; rw [if_neg (by omega)], he]; rfl)
        | (have he : addE C c = 0 := by rw [hE, if_neg (by omega), if_neg (by omega)]
           rw [show addL C c = insC C c by unfold addL; rw [if_pos he], he]; rfl)
        | trace_state
theorem c_l13DrawOne (code : List UInt8) (p sd : Int) (hp : 0 ≤ p ∧ p ≤ 1152921504606846976) : FnC Tryz.prog 117 G0 1 [.box [.sl 1 (code.map byteE), .int .i64 p, .int .u64 sd]] [.hp 0 0] (fun d os => ∃ (c : TCue) (p' sd' : Int), d = .agg (encCue c) ∧ (p ≤ p' ∧ p' ≤ p + 20) ∧ os = [.box [.sl 1 (code.map byteE), .int .i64 p', .int .u64 sd']]) := by
  refine fn_rule Tryz.func117 rfl (by decide +kernel) rfl (fun w0 F0 lent β0 => ?_)
  repeat' (first | refine sC ?_ | ((with_reducible refine isAwp ?_); first | (refine sS ?_; intro Q' hn he hr) | refine sA ?_) | (refine sH ?_; clear hn he hr Q') | ((conv => whnf); first | refine sK ?_ | (refine sB ?_; repeat' (refine sb2 ?_ ?_ <;> intro hb <;> try exact cls)) | ((with_reducible refine isCall ?_); first | (refine call_lend 0 rfl (c_pick code _ _ _ (by omega) (by omega)) ?_; rintro d os ⟨z, p1, sd1, rfl, hz, hz2, rfl⟩; refine ⟨_, _, rfl, ?_⟩) | (refine call_frzi 1 (callFunc_enter Tryz.func209 rfl (by decide +kernel)) rfl ?_) | (refine call_lend 0 rfl (c_text code _ _ [[97], [98], [99], [100], [101], [102], [103], [104], [105], [107]] (by omega) (by decide) (by decide)) ?_; rintro d os ⟨tx, p1, sd1, rfl, htx, hz2, rfl⟩; refine ⟨_, _, rfl, ?_⟩) | (refine call_lend 0 rfl (c_text code _ _ [[115, 116, 97, 114, 115], [115, 117, 110], [104, 97, 108, 108]] (by omega) (by decide) (by decide)) ?_; rintro d os ⟨tx, p1, sd1, rfl, htx, hz2, rfl⟩; refine ⟨_, _, rfl, ?_⟩)) | ((with_reducible refine isRet ?_); (refine ret_pick [0] rfl rfl rfl ⟨⟨_, _, _, _, _, _⟩, _, _, rfl, ?_, rfl⟩)) | refine sP ?_))
  all_goals first | omega | trace_state
end Go.Eng

namespace Go.Eng
open Go Go.RowKit Go.Proofs
set_option maxRecDepth 100000
def names6 : List (List UInt8) := [[97], [98], [99], [100], [101], [102]]
set_option maxHeartbeats 8000000 in
theorem c_l25Draw (code : List UInt8) (p sd : Int) (hp : 0 ≤ p ∧ p ≤ 1152921504606846976) : FnC Tryz.prog 119 G0 1 [.box [.sl 1 (code.map byteE), .int .i64 p, .int .u64 sd]] [.hp 0 0] (fun d os => ∃ (M : List TMedia) (p' sd' : Int), d = .sl 2 (M.map encMedia) ∧ M.length ≤ 6 ∧ (p ≤ p' ∧ p' ≤ p + 40) ∧ os = [.box [.sl 1 (code.map byteE), .int .i64 p', .int .u64 sd']]) := by
  refine fn_rule Tryz.func119 rfl (by decide +kernel) rfl (fun w0 F0 lent β0 => ?_)
  repeat' (first | refine sC ?_ | ((with_reducible refine isAwp ?_); first | (refine sS ?_; intro Q' hn he hr) | refine sA ?_) | (refine sH ?_; clear hn he hr Q') | ((conv => whnf); first | refine sK ?_ | ((with_reducible refine isCall ?_); (refine call_lend 0 rfl (c_pick code _ _ _ (by omega) (by omega)) ?_; rintro d os ⟨z, p1, sd1, rfl, hz, hz2, rfl⟩; refine ⟨_, _, rfl, ?_⟩))))
  refine loop_env3 (fun (k : Nat) (M : List TMedia) (q : Int × Int) => [(0,.hp 0 0),(3,.h 1),(4,.int .i64 z),(5,.h 2),(6,.int .i64 k)]) (fun k M q => [srcO code q, .row 9 1 (names6.map encS), .row 185 2 (M.map encMedia)]) (fun k M q => M.length = k ∧ k ≤ 6 ∧ p ≤ q.1 ∧ q.1 ≤ p + 2 + 2 * k) (fun k M q => 6 - k) 0 [] (p1, sd1) ⟨rfl, by omega, by simp only; omega, by simp only; omega⟩ (by refine weak_to rfl rfl rfl ?_; ((repeat' (first | exact trivial | refine And.intro ?_ ?_)) <;> (first | rfl | (conv => rhs; whnf) <;> (first | rfl | (refine congrArg (D.int _) ?_; omega))))) (fun k M q hk Q' hn he hr => ?_)
  obtain ⟨q1, q2⟩ := q
  obtain ⟨hk1, hk2, hk3, hk4⟩ := hk
  dsimp only at hk3 hk4
  unfold srcO
  have h6 : names6.length = 6 := rfl
  by_cases hkz : (k : Int) < z
  · obtain ⟨nm, hnm⟩ : ∃ nm, names6[k]? = some nm := ⟨_, List.getElem?_eq_getElem (show k < 6 by omega)⟩
    repeat' (first | refine sC ?_ | ((with_reducible refine isAwp ?_); first | (refine sS ?_; intro Q' hn he hr) | refine sA ?_) | (refine sH ?_; clear hn he hr Q') | ((conv => whnf); first | refine sK ?_ | (refine sB ?_; repeat' (refine sb2 ?_ ?_ <;> intro hb <;> try exact cls)) | (refine draw_tree3 (.ins [0,1,2,5] (.fork 3 (.fork 4 (.line [6,7,8,9,10,11]) (.ins [6] (.fork 4 (.line [7,8,9,10,11]) (.line [7,4,8,9,10,11])))) (.ins [6] (.fork 3 (.fork 4 (.line [7,8,9,10,11]) (.line [7,4,8,9,10,11])) (.line [7,3,4,8,9,10,11]))))) (by decide +kernel) (by decide +kernel) (by decide +kernel) ?_) | ((with_reducible refine isTree ?_); first | refine treeK_cons rfl ?_ | refine treeK_fork rfl ?_ ?_ | refine treeK_nil ?_) | (refine ElemS.the hnm ?_) | ((with_reducible refine isCall ?_); (refine call_lend 0 rfl (c_pick code _ _ _ (by omega) (by omega)) ?_; rintro d os ⟨z2, p2, sd2, rfl, hz3, hz4, rfl⟩; refine ⟨_, _, rfl, ?_⟩)) | refine sP ?_))
    all_goals first
      | (refine ⟨k + 1, M ++ [⟨nm, 1 + z2⟩], (p2, sd2), ⟨by simp; omega, by omega, by simp only; omega, by simp only; omega⟩, by omega, ?_⟩
         exact (by refine weak_to rfl rfl (by rw [List.map_append]; rfl) ?_; ((repeat' (first | exact trivial | refine And.intro ?_ ?_)) <;> (first | rfl | (conv => rhs; whnf) <;> (first | rfl | (refine congrArg (D.int _) ?_; omega))))))
      | trace_state
  · repeat' (first | refine sC ?_ | ((with_reducible refine isAwp ?_); first | (refine sS ?_; intro Q' hn he hr) | refine sA ?_) | (refine sH ?_; clear hn he hr Q') | ((conv => whnf); first | refine sK ?_ | (refine sB ?_; repeat' (refine sb2 ?_ ?_ <;> intro hb <;> try exact cls)) | ((with_reducible refine isRet ?_); (refine ret_freeze 2 rfl (Nat.le_of_ble_eq_true rfl) ?_; refine ret_pick [0] rfl rfl rfl ⟨M, q1, q2, rfl, by omega, by omega, rfl⟩)) | (refine sH ?_; clear hn he hr Q')))
    all_goals trace_state
theorem c_l15DrawLine (code : List UInt8) (p sd : Int) (hp : 0 ≤ p ∧ p ≤ 1152921504606846976) : FnC Tryz.prog 211 G0 1 [.box [.sl 1 (code.map byteE), .int .i64 p, .int .u64 sd]] [.hp 0 0] (fun d os => ∃ (x : TLine) (p' sd' : Int), d = .agg (encLine x) ∧ (p ≤ p' ∧ p' ≤ p + 10) ∧ os = [.box [.sl 1 (code.map byteE), .int .i64 p', .int .u64 sd']]) := by
  refine fn_rule Tryz.func211 rfl (by decide +kernel) rfl (fun w0 F0 lent β0 => ?_)
  repeat' (first | refine sC ?_ | ((with_reducible refine isAwp ?_); first | (refine sS ?_; intro Q' hn he hr) | refine sA ?_) | (refine sH ?_; clear hn he hr Q') | ((conv => whnf); first | refine sK ?_ | (refine sB ?_; repeat' (refine sb2 ?_ ?_ <;> intro hb <;> try exact cls)) | ((with_reducible refine isCall ?_); first | (refine call_lend 0 rfl (c_pick code _ _ _ (by omega) (by omega)) ?_; rintro d os ⟨z, p1, sd1, rfl, hz, hz2, rfl⟩; refine ⟨_, _, rfl, ?_⟩) | (refine call_lend 0 rfl (c_one code _ _ _ (by omega) (by omega)) ?_; rintro d os ⟨b1, p1, sd1, rfl, hz2, rfl⟩; refine ⟨_, _, rfl, ?_⟩) | (refine call_frzi 1 (callFunc_enter Tryz.func209 rfl (by decide +kernel)) rfl ?_) | (refine call_lend 0 rfl (c_text code _ _ [[116, 111, 112], [109, 105, 100]] (by omega) (by decide) (by decide)) ?_; rintro d os ⟨tx, p1, sd1, rfl, htx, hz2, rfl⟩; refine ⟨_, _, rfl, ?_⟩) | (refine call_lend 0 rfl (c_text code _ _ [[97], [98], [99], [100]] (by omega) (by decide) (by decide)) ?_; rintro d os ⟨tx, p1, sd1, rfl, htx, hz2, rfl⟩; refine ⟨_, _, rfl, ?_⟩)) | ((with_reducible refine isRet ?_); (refine ret_pick [0] rfl rfl rfl ⟨⟨_, _, _⟩, _, _, rfl, ?_, rfl⟩)) | refine sP ?_))
  all_goals first | omega | trace_state
end Go.Eng

namespace Go.Eng
open Go Go.RowKit Go.Proofs
set_option maxRecDepth 100000
def topT : List UInt8 := [116, 111, 112]
def midT : List UInt8 := [109, 105, 100]
set_option maxHeartbeats 8000000 in
theorem c_l15Draw (code : List UInt8) (p sd : Int) (hp : 0 ≤ p ∧ p ≤ 576460752303423488) : FnC Tryz.prog 121 G0 1 [.box [.sl 1 (code.map byteE), .int .i64 p, .int .u64 sd]] [.hp 0 0] (fun d os => ∃ (S : List TLine) (p' sd' : Int), d = .sl 3 (S.map encLine) ∧ S.length ≤ 20 ∧ (p ≤ p' ∧ p' ≤ p + 200) ∧ os = [.box [.sl 1 (code.map byteE), .int .i64 p', .int .u64 sd']]) := by
  refine fn_rule_s Tryz.func121 rfl (by decide +kernel) rfl (fun w0 F0 lent β0 => ?_)
  refine sem_cut (γ := Unit) (fun _ => [(0,.hp 0 0)]) (fun _ => [srcO code (p, sd)]) (fun _ => True) ?_ ?_
  · refine SemC.of ?_
    repeat' (first | refine sC ?_ | ((with_reducible refine isAwp ?_); refine sA ?_) | ((conv => whnf); refine sK ?_))
    exact ⟨(), trivial, (by refine weak_to rfl rfl rfl ?_; ((repeat' (first | exact trivial | refine And.intro ?_ ?_)) <;> (first | rfl | (conv => rhs; whnf) <;> (first | rfl | (refine congrArg (D.int _) ?_; omega)))))⟩
  rintro ⟨⟩ _
  unfold srcO
  refine sem_cut (γ := Unit) (fun _ => [(0,.hp 0 0),(3,.h 1)]) (fun _ => [srcO code (p, sd), .row 182 3 []]) (fun _ => True) ?_ ?_
  · refine SemC.of ?_
    repeat' (first | refine sC ?_ | ((with_reducible refine isAwp ?_); refine sA ?_) | ((conv => whnf); refine sK ?_))
    exact ⟨(), trivial, (by refine weak_to rfl rfl rfl ?_; ((repeat' (first | exact trivial | refine And.intro ?_ ?_)) <;> (first | rfl | (conv => rhs; whnf) <;> (first | rfl | (refine congrArg (D.int _) ?_; omega)))))⟩
  rintro ⟨⟩ _
  unfold srcO
  refine sem_cut (γ := List TLine × Int × Int) (fun q => [(0,.hp 0 0),(3,.h 1)]) (fun q => [srcO code q.2, .row 182 3 (q.1.map encLine)]) (fun q => q.1.length ≤ 1 ∧ p ≤ q.2.1 ∧ q.2.1 ≤ p + 2) ?_ ?_
  · refine SemC.of ?_
    repeat' (first | refine sC ?_ | ((with_reducible refine isAwp ?_); first | (refine sS ?_; intro Q' hn he hr) | refine sA ?_) | (refine sH ?_; clear hn he hr Q') | ((conv => whnf); first | refine sK ?_ | (refine sB ?_; repeat' (refine sb2 ?_ ?_ <;> intro hb <;> try exact cls)) | ((with_reducible refine isCall ?_); (refine call_lend 0 rfl (c_pick code _ _ _ (by omega) (by omega)) ?_; rintro d os ⟨z, p1, sd1, rfl, hz, hz2, rfl⟩; refine ⟨_, _, rfl, ?_⟩)) | refine sP ?_))
    all_goals first
      | exact ⟨([⟨1, topT, 0⟩], p1, sd1), ⟨by simp, by simp only; omega, by simp only; omega⟩, (by refine weak_to rfl rfl rfl ?_; ((repeat' (first | exact trivial | refine And.intro ?_ ?_)) <;> (first | rfl | (conv => rhs; whnf) <;> (first | rfl | (refine congrArg (D.int _) ?_; omega)))))⟩
      | exact ⟨([], p1, sd1), ⟨by simp, by simp only; omega, by simp only; omega⟩, (by refine weak_to rfl rfl rfl ?_; ((repeat' (first | exact trivial | refine And.intro ?_ ?_)) <;> (first | rfl | (conv => rhs; whnf) <;> (first | rfl | (refine congrArg (D.int _) ?_; omega)))))⟩
      | trace_state
  rintro ⟨S1, qa⟩ ⟨hS1, ha1, ha2⟩
  obtain ⟨pa, sda⟩ := qa
  dsimp only at hS1 ha1 ha2 ⊢
  unfold srcO
  refine sem_cut (γ := List TLine × Int × Int) (fun q => [(0,.hp 0 0),(3,.h 1)]) (fun q => [srcO code q.2, .row 182 3 (q.1.map encLine)]) (fun q => q.1.length ≤ 5 ∧ p ≤ q.2.1 ∧ q.2.1 ≤ p + 60) ?_ ?_
  · refine SemC.of ?_
    repeat' (first | refine sC ?_ | ((with_reducible refine isAwp ?_); first | (refine sS ?_; intro Q' hn he hr) | refine sA ?_) | (refine sH ?_; clear hn he hr Q') | ((conv => whnf); first | refine sK ?_ | ((with_reducible refine isCall ?_); (refine call_lend 0 rfl (c_pick code _ _ _ (by omega) (by omega)) ?_; rintro d os ⟨z, p1, sd1, rfl, hz, hz2, rfl⟩; refine ⟨_, _, rfl, ?_⟩))))
    refine loop_env3 (fun (k : Nat) (S : List TLine) (q : Int × Int) => [(0,.hp 0 0),(3,.h 1),(4,.int .i64 k)]) (fun k S q => [srcO code q, .row 182 3 (S.map encLine)]) (fun k S q => k ≤ 3 ∧ S.length + k ≤ 5 ∧ p ≤ q.1 ∧ q.1 + 10 * k ≤ p + 40) (fun k S q => k) z.toNat S1 (p1, sd1) ⟨by omega, by omega, by simp only; omega, by simp only; omega⟩ (by refine weak_to rfl rfl rfl ?_; ((repeat' (first | exact trivial | refine And.intro ?_ ?_)) <;> (first | rfl | (conv => rhs; whnf) <;> (first | rfl | (refine congrArg (D.int _) ?_; omega))))) (fun k S q hk Q' hn he hr => ?_)
    obtain ⟨q1, q2⟩ := q
    obtain ⟨hk1, hk2, hk3, hk4⟩ := hk
    dsimp only at hk3 hk4
    unfold srcO
    repeat' (first | refine sC ?_ | ((with_reducible refine isAwp ?_); first | (refine sS ?_; intro Q' hn he hr) | refine sA ?_) | (refine sH ?_; clear hn he hr Q') | ((conv => whnf); first | refine sK ?_ | (refine sB ?_; repeat' (refine sb2 ?_ ?_ <;> intro hb <;> try exact cls)) | ((with_reducible refine isCall ?_); (refine call_lend 0 rfl (c_l15DrawLine code _ _ (by omega)) ?_; rintro d os ⟨ln, p2, sd2, rfl, hz3, rfl⟩; refine ⟨_, _, rfl, ?_⟩)) | refine sP ?_))
    all_goals first
      | (refine ⟨k - 1, S ++ [ln], (p2, sd2), ⟨by omega, by simp; omega, by simp only; omega, by simp only; omega⟩, by omega, ?_⟩
         exact (by refine weak_to rfl rfl (by rw [List.map_append]; rfl) ?_; ((repeat' (first | exact trivial | refine And.intro ?_ ?_)) <;> (first | rfl | (conv => rhs; whnf) <;> (first | rfl | (refine congrArg (D.int _) ?_; omega))))))
      | exact ⟨(S, q1, q2), ⟨by simp only; omega, by simp only; omega, by simp only; omega⟩, (by refine weak_to rfl rfl rfl ?_; ((repeat' (first | exact trivial | refine And.intro ?_ ?_)) <;> (first | rfl | (conv => rhs; whnf) <;> (first | rfl | (refine congrArg (D.int _) ?_; omega)))))⟩
      | trace_state
  rintro ⟨S2, qb⟩ ⟨hS2, hb1, hb2⟩
  obtain ⟨pb, sdb⟩ := qb
  dsimp only at hS2 hb1 hb2 ⊢
  unfold srcO
  refine sem_cut (γ := List TLine × Int × Int) (fun q => [(0,.hp 0 0),(3,.h 1)]) (fun q => [srcO code q.2, .row 182 3 (q.1.map encLine)]) (fun q => q.1.length ≤ 6 ∧ p ≤ q.2.1 ∧ q.2.1 ≤ p + 64) ?_ ?_
  · refine SemC.of ?_
    repeat' (first | refine sC ?_ | ((with_reducible refine isAwp ?_); first | (refine sS ?_; intro Q' hn he hr) | refine sA ?_) | (refine sH ?_; clear hn he hr Q') | ((conv => whnf); first | refine sK ?_ | (refine sB ?_; repeat' (refine sb2 ?_ ?_ <;> intro hb <;> try exact cls)) | ((with_reducible refine isCall ?_); (refine call_lend 0 rfl (c_pick code _ _ _ (by omega) (by omega)) ?_; rintro d os ⟨z, p1, sd1, rfl, hz, hz2, rfl⟩; refine ⟨_, _, rfl, ?_⟩)) | refine sP ?_))
    all_goals first
      | exact ⟨(S2 ++ [⟨1, midT, 0⟩], p1, sd1), ⟨by simp; omega, by simp only; omega, by simp only; omega⟩, (by refine weak_to rfl rfl (by rw [List.map_append]; rfl) ?_; ((repeat' (first | exact trivial | refine And.intro ?_ ?_)) <;> (first | rfl | (conv => rhs; whnf) <;> (first | rfl | (refine congrArg (D.int _) ?_; omega)))))⟩
      | exact ⟨(S2, p1, sd1), ⟨by simp only; omega, by simp only; omega, by simp only; omega⟩, (by refine weak_to rfl rfl rfl ?_; ((repeat' (first | exact trivial | refine And.intro ?_ ?_)) <;> (first | rfl | (conv => rhs; whnf) <;> (first | rfl | (refine congrArg (D.int _) ?_; omega)))))⟩
      | trace_state
  rintro ⟨S3, qc⟩ ⟨hS3, hc1, hc2⟩
  obtain ⟨pc, sdc⟩ := qc
  dsimp only at hS3 hc1 hc2 ⊢
  unfold srcO
  refine sem_cut (γ := List TLine × Int × Int) (fun q => [(0,.hp 0 0),(3,.h 1)]) (fun q => [srcO code q.2, .row 182 3 (q.1.map encLine)]) (fun q => q.1.length ≤ 10 ∧ p ≤ q.2.1 ∧ q.2.1 ≤ p + 160) ?_ ?_
  · refine SemC.of ?_
    repeat' (first | refine sC ?_ | ((with_reducible refine isAwp ?_); first | (refine sS ?_; intro Q' hn he hr) | refine sA ?_) | (refine sH ?_; clear hn he hr Q') | ((conv => whnf); first | refine sK ?_ | ((with_reducible refine isCall ?_); (refine call_lend 0 rfl (c_pick code _ _ _ (by omega) (by omega)) ?_; rintro d os ⟨z, p1, sd1, rfl, hz, hz2, rfl⟩; refine ⟨_, _, rfl, ?_⟩))))
    refine loop_env3 (fun (k : Nat) (S : List TLine) (q : Int × Int) => [(0,.hp 0 0),(3,.h 1),(5,.int .i64 k)]) (fun k S q => [srcO code q, .row 182 3 (S.map encLine)]) (fun k S q => k ≤ 4 ∧ S.length + k ≤ 10 ∧ p ≤ q.1 ∧ q.1 + 10 * k ≤ p + 140) (fun k S q => k) z.toNat S3 (p1, sd1) ⟨by omega, by omega, by simp only; omega, by simp only; omega⟩ (by refine weak_to rfl rfl rfl ?_; ((repeat' (first | exact trivial | refine And.intro ?_ ?_)) <;> (first | rfl | (conv => rhs; whnf) <;> (first | rfl | (refine congrArg (D.int _) ?_; omega))))) (fun k S q hk Q' hn he hr => ?_)
    obtain ⟨q1, q2⟩ := q
    obtain ⟨hk1, hk2, hk3, hk4⟩ := hk
    dsimp only at hk3 hk4
    unfold srcO
    repeat' (first | refine sC ?_ | ((with_reducible refine isAwp ?_); first | (refine sS ?_; intro Q' hn he hr) | refine sA ?_) | (refine sH ?_; clear hn he hr Q') | ((conv => whnf); first | refine sK ?_ | (refine sB ?_; repeat' (refine sb2 ?_ ?_ <;> intro hb <;> try exact cls)) | ((with_reducible refine isCall ?_); (refine call_lend 0 rfl (c_l15DrawLine code _ _ (by omega)) ?_; rintro d os ⟨ln, p2, sd2, rfl, hz3, rfl⟩; refine ⟨_, _, rfl, ?_⟩)) | refine sP ?_))
    all_goals first
      | (refine ⟨k - 1, S ++ [ln], (p2, sd2), ⟨by omega, by simp; omega, by simp only; omega, by simp only; omega⟩, by omega, ?_⟩
         exact (by refine weak_to rfl rfl (by rw [List.map_append]; rfl) ?_; ((repeat' (first | exact trivial | refine And.intro ?_ ?_)) <;> (first | rfl | (conv => rhs; whnf) <;> (first | rfl | (refine congrArg (D.int _) ?_; omega))))))
      | exact ⟨(S, q1, q2), ⟨by simp only; omega, by simp only; omega, by simp only; omega⟩, (by refine weak_to rfl rfl rfl ?_; ((repeat' (first | exact trivial | refine And.intro ?_ ?_)) <;> (first | rfl | (conv => rhs; whnf) <;> (first | rfl | (refine congrArg (D.int _) ?_; omega)))))⟩
      | trace_state
  rintro ⟨S4, qd⟩ ⟨hS4, hd1, hd2⟩
  obtain ⟨pd, sdd⟩ := qd
  dsimp only at hS4 hd1 hd2 ⊢
  unfold srcO
  refine sem_cut (γ := List TLine × Int × Int) (fun q => [(0,.hp 0 0),(3,.h 1)]) (fun q => [srcO code q.2, .row 182 3 (q.1.map encLine)]) (fun q => q.1.length ≤ 10 ∧ p ≤ q.2.1 ∧ q.2.1 ≤ p + 164) ?_ ?_
  · refine SemC.of ?_
    repeat' (first | refine sC ?_ | ((with_reducible refine isAwp ?_); first | (refine sS ?_; intro Q' hn he hr) | refine sA ?_) | (refine sH ?_; clear hn he hr Q') | ((conv => whnf); first | refine sK ?_ | (refine sB ?_; repeat' (refine sb2 ?_ ?_ <;> intro hb <;> try exact cls)) | ((with_reducible refine isCall ?_); first | (refine call_look (c_spec_l15Ok S4) rfl ?_) | (refine call_lend 0 rfl (c_pick code _ _ _ (by omega) (by omega)) ?_; rintro d os ⟨z, p1, sd1, rfl, hz, hz2, rfl⟩; refine ⟨_, _, rfl, ?_⟩)) | refine sP ?_))
    all_goals first
      | exact ⟨(S4, pd, sdd), ⟨by simp only; omega, by simp only; omega, by simp only; omega⟩, (by refine weak_to rfl rfl rfl ?_; ((repeat' (first | exact trivial | refine And.intro ?_ ?_)) <;> (first | rfl | (conv => rhs; whnf) <;> (first | rfl | (refine congrArg (D.int _) ?_; omega)))))⟩
      | (refine ⟨([⟨1, topT, 0⟩, ⟨3, [97], 0⟩, ⟨2, [], 100⟩, ⟨4, topT, 1 + z⟩], p1, sd1), ⟨by simp, by simp only; omega, by simp only; omega⟩, ?_⟩
         refine weak_selp [0, 2] rfl ?_ ?_ <;> (repeat' (first | exact trivial | rfl | refine And.intro ?_ ?_)))
      | trace_state
  rintro ⟨S5, qe⟩ ⟨hS5, he1, he2⟩
  obtain ⟨pe, sde⟩ := qe
  dsimp only at hS5 he1 he2 ⊢
  unfold srcO
  refine SemC.of ?_
  repeat' (first | refine sC ?_ | ((with_reducible refine isAwp ?_); first | (refine sS ?_; intro Q' hn he hr) | refine sA ?_) | (refine sH ?_; clear hn he hr Q') | ((conv => whnf); first | refine sK ?_ | ((with_reducible refine isRet ?_); (refine ret_freeze 1 rfl (Nat.le_of_ble_eq_true rfl) ?_; refine ret_pick [0] rfl rfl rfl ⟨S5, pe, sde, rfl, by omega, by omega, rfl⟩))))
  all_goals trace_state
end Go.Eng

namespace Go.Eng
open Go Go.RowKit Go.Proofs
set_option maxRecDepth 100000
theorem c_amongA (code : List UInt8) (p sd : Int) (l : List Int) (hp : 0 ≤ p ∧ p ≤ 2305843009213693952) (h0 : 0 < l.length) (hl : l.length ≤ 1048576) : FnC Tryz.prog 207 G0 1 [.box [.sl 1 (code.map byteE), .int .i64 p, .int .u64 sd]] [.hp 0 0, .sl 1 (l.map encI)] (fun d os => ∃ t p' sd', d = .int .i64 t ∧ t ∈ l ∧ (p ≤ p' ∧ p' ≤ p + 2) ∧ os = [.box [.sl 1 (code.map byteE), .int .i64 p', .int .u64 sd']]) := by
  refine fn_rule Tryz.func207 rfl (by decide +kernel) rfl (fun w0 F0 lent β0 => ?_)
  repeat' (first | refine sC ?_ | ((with_reducible refine isAwp ?_); first | (refine sS ?_; intro Q' hn he hr) | refine sA ?_) | (refine sH ?_; clear hn he hr Q') | ((conv => whnf); first | refine sK ?_ | ((with_reducible refine isCall ?_); (refine call_lend 0 rfl (c_pick code _ _ _ (by omega) (by omega)) ?_; rintro d os ⟨z, p1, sd1, rfl, hz, hz2, rfl⟩; refine ⟨_, _, rfl, ?_⟩)) | ((with_reducible refine isRet ?_); (refine ret_pick [0] rfl rfl rfl ⟨_, _, _, rfl, ?_, ?_, rfl⟩)) | (refine sF ?_; intro i y hi hy) | (refine sL ?_; intro hlen)))
  all_goals first | omega | exact List.mem_of_getElem? hy
set_option maxHeartbeats 8000000 in
theorem c_l13Draw (code : List UInt8) (p sd : Int) (hp : 0 ≤ p ∧ p ≤ 576460752303423488) : FnC Tryz.prog 120 G0 1 [.box [.sl 1 (code.map byteE), .int .i64 p, .int .u64 sd]] [.hp 0 0] (fun d os => ∃ (C : List TCue) (p' sd' : Int), d = .sl 6 (C.map encCue) ∧ C.length ≤ 32 ∧ (p ≤ p' ∧ p' ≤ p + 300) ∧ os = [.box [.sl 1 (code.map byteE), .int .i64 p', .int .u64 sd']]) := by
  refine fn_rule Tryz.func120 rfl (by decide +kernel) rfl (fun w0 F0 lent β0 => ?_)
  repeat' (first | refine sC ?_ | ((with_reducible refine isAwp ?_); first | (refine sS ?_; intro Q' hn he hr) | refine sA ?_) | (refine sH ?_; clear hn he hr Q') | ((conv => whnf); first | refine sK ?_ | ((with_reducible refine isCall ?_); (refine call_lend 0 rfl (c_pick code _ _ _ (by omega) (by omega)) ?_; rintro d os ⟨z, p1, sd1, rfl, hz, hz2, rfl⟩; refine ⟨_, _, rfl, ?_⟩))))
  refine loop_env3 (fun (k : Nat) (C : List TCue) (q : Int × Int) => [(0,.hp 0 0),(3,.sl 6 (C.map encCue)),(4,.int .i64 k)]) (fun k C q => [srcO code q]) (fun k C q => k ≤ 8 ∧ C.length ≤ 32 ∧ p ≤ q.1 ∧ q.1 + 20 * k ≤ p + 200) (fun k C q => k) z.toNat [] (p1, sd1) ⟨by omega, by simp, by simp only; omega, by simp only; omega⟩ (by refine Weak.trans (weak_frz 1 rfl (Nat.le_of_ble_eq_true rfl)) ?_; exact (by refine weak_to rfl rfl rfl ?_; ((repeat' (first | exact trivial | refine And.intro ?_ ?_)) <;> (first | rfl | (conv => rhs; whnf) <;> (first | rfl | (refine congrArg (D.int _) ?_; omega)))))) (fun k C q hk Q' hn he hr => ?_)
  obtain ⟨hk1, hk2, hk3, hk4⟩ := hk
  unfold srcO
  repeat' (first | refine sC ?_ | ((with_reducible refine isAwp ?_); first | (refine sS ?_; intro Q' hn he hr) | refine sA ?_) | (refine sH ?_; clear hn he hr Q') | ((conv => whnf); first | refine sK ?_ | (refine sB ?_; repeat' (refine sb2 ?_ ?_ <;> intro hb <;> try exact cls)) | ((with_reducible refine isCall ?_); first | (refine call_lend 0 rfl (c_l13DrawOne code _ _ (by omega)) ?_; rintro d os ⟨c, p2, sd2, rfl, hz3, rfl⟩; refine ⟨_, _, rfl, ?_⟩) | (refine call_pure (c_spec_AddCue C c) rfl rfl ?_)) | ((with_reducible refine isRet ?_); (refine ret_pick [0] rfl rfl rfl ⟨C, q.1, q.2, rfl, by omega, by omega, rfl⟩)) | refine sP ?_ | (refine sH ?_; clear hn he hr Q')))
  all_goals first
    | (have h79 := cues_len (addL_ok (show addE C c = 0 by assumption))
       refine ⟨k - 1, addL C c, (p2, sd2), ⟨by omega, by omega, by simp only; omega, by simp only; omega⟩, by omega, ?_⟩
       exact (by refine weak_to rfl rfl rfl ?_; ((repeat' (first | exact trivial | refine And.intro ?_ ?_)) <;> (first | rfl | (conv => rhs; whnf) <;> (first | rfl | (refine congrArg (D.int _) ?_; omega))))))
    | (refine ⟨k - 1, C, (p2, sd2), ⟨by omega, by omega, by simp only; omega, by simp only; omega⟩, by omega, ?_⟩
       exact (by refine weak_to rfl rfl rfl ?_; ((repeat' (first | exact trivial | refine And.intro ?_ ?_)) <;> (first | rfl | (conv => rhs; whnf) <;> (first | rfl | (refine congrArg (D.int _) ?_; omega))))))
    | trace_state
set_option maxHeartbeats 8000000 in
theorem c_spec_l00PutO (a : List Int) (x0 : Int) (hl : a.length ≤ 100000) : FnC Tryz.prog 159 G0 0 [] [.sl 1 (a.map encI), .int .i64 x0] (fun d os => d = .h 0 ∧ os = [.row 2 1 ((putF x0 a false).map encI)]) := by
  refine fn_rule Tryz.func159 rfl (by decide +kernel) rfl (fun w0 F0 lent β0 => ?_)
  repeat' (first | refine sC ?_ | ((with_reducible refine isAwp ?_); first | (refine sS ?_; intro Q' hn he hr) | refine sA ?_) | (refine sH ?_; clear hn he hr Q') | ((conv => whnf); refine sK ?_))
  refine loop_env3 (fun (k : Nat) (b : Bool) (out : List Int) => [(0,.sl 1 (a.map encI)),(1,.int .i64 x0),(5,.h 0),(6,.bool b),(7,.int .i64 k)]) (fun _ _ out => [.row 2 1 (out.map encI)]) (fun k b out => k ≤ a.length ∧ out ++ putF x0 (a.drop k) b = putF x0 a false) (fun k _ _ => a.length - k) 0 false [] ⟨by omega, rfl⟩ (by refine weak_to rfl rfl rfl ?_; ((repeat' (first | exact trivial | refine And.intro ?_ ?_)) <;> (first | rfl | (conv => rhs; whnf) <;> (first | rfl | (refine congrArg (D.int _) ?_; omega))))) (fun k b out hk Q' hn he hr => ?_)
  obtain ⟨hk1, hk3⟩ := hk
  have hk2 : out.length ≤ 100001 := by
    have h1 := congrArg List.length hk3
    have h2 := putF_len x0 a false
    rw [List.length_append] at h1
    omega
  by_cases hkl : k < a.length
  · obtain ⟨y, hy0⟩ : ∃ y, a[k]? = some y := ⟨_, List.getElem?_eq_getElem hkl⟩
    cases b with
    | false =>
      repeat' (first | refine sC ?_ | ((with_reducible refine isAwp ?_); first | (refine sS ?_; intro Q' hn he hr) | refine sA ?_) | (refine sH ?_; clear hn he hr Q') | ((conv => whnf); first | refine sK ?_ | (refine sB ?_; repeat' (first | refine sb0 ?_ | (refine sb2 ?_ ?_ <;> intro hb <;> try exact cls))) | (refine ElemS.the hy0 ?_) | refine sP ?_ | (refine sL ?_; intro hlen)))
      all_goals first
        | exact ⟨k + 1, true, out ++ [x0] ++ [y], ⟨by omega, by rw [← hk3, putF_new hy0 (by omega)]; simp⟩, by omega, (by refine weak_to rfl rfl (by simp only [List.map_append]; rfl) ?_; ((repeat' (first | exact trivial | refine And.intro ?_ ?_)) <;> (first | rfl | (conv => rhs; whnf) <;> (first | rfl | (refine congrArg (D.int _) ?_; omega)))))⟩
        | exact ⟨k + 1, true, out ++ [y], ⟨by omega, by rw [← hk3, putF_same hy0 (by omega) (by omega)]; simp⟩, by omega, (by refine weak_to rfl rfl (by simp only [List.map_append]; rfl) ?_; ((repeat' (first | exact trivial | refine And.intro ?_ ?_)) <;> (first | rfl | (conv => rhs; whnf) <;> (first | rfl | (refine congrArg (D.int _) ?_; omega)))))⟩
        | exact ⟨k + 1, false, out ++ [y], ⟨by omega, by rw [← hk3, putF_low hy0 (by omega)]; simp⟩, by omega, (by refine weak_to rfl rfl (by simp only [List.map_append]; rfl) ?_; ((repeat' (first | exact trivial | refine And.intro ?_ ?_)) <;> (first | rfl | (conv => rhs; whnf) <;> (first | rfl | (refine congrArg (D.int _) ?_; omega)))))⟩
    | true =>
      rw [putF_on hy0] at hk3
      repeat' (first | refine sC ?_ | ((with_reducible refine isAwp ?_); first | (refine sS ?_; intro Q' hn he hr) | refine sA ?_) | (refine sH ?_; clear hn he hr Q') | ((conv => whnf); first | refine sK ?_ | (refine sB ?_; repeat' (first | refine sb0 ?_ | (refine sb2 ?_ ?_ <;> intro hb <;> try exact cls))) | (refine ElemS.the hy0 ?_) | refine sP ?_ | (refine sL ?_; intro hlen)))
      all_goals exact ⟨k + 1, true, out ++ [y], ⟨by omega, by rw [← hk3]; simp⟩, by omega, (by refine weak_to rfl rfl (by simp only [List.map_append]; rfl) ?_; ((repeat' (first | exact trivial | refine And.intro ?_ ?_)) <;> (first | rfl | (conv => rhs; whnf) <;> (first | rfl | (refine congrArg (D.int _) ?_; omega)))))⟩
  · obtain rfl : k = a.length := by omega
    rw [putF_end (Nat.le_refl _)] at hk3
    cases b with
    | false =>
      repeat' (first | refine sC ?_ | ((with_reducible refine isAwp ?_); first | (refine sS ?_; intro Q' hn he hr) | refine sA ?_) | (refine sH ?_; clear hn he hr Q') | ((conv => whnf); first | refine sK ?_ | (refine sB ?_; repeat' (first | refine sb0 ?_ | (refine sb2 ?_ ?_ <;> intro hb <;> try exact cls))) | ((with_reducible refine isRet ?_); (refine ret_pick [0] rfl rfl rfl ⟨rfl, ?_⟩)) | refine sP ?_ | (refine sL ?_; intro hlen) | (refine sH ?_; clear hn he hr Q')))
      rw [← hk3, if_neg (by simp)]
      exact congrArg (fun l => [Obj.row 2 1 l]) (by rw [List.map_append]; rfl)
    | true =>
      repeat' (first | refine sC ?_ | ((with_reducible refine isAwp ?_); first | (refine sS ?_; intro Q' hn he hr) | refine sA ?_) | (refine sH ?_; clear hn he hr Q') | ((conv => whnf); first | refine sK ?_ | (refine sB ?_; repeat' (first | refine sb0 ?_ | (refine sb2 ?_ ?_ <;> intro hb <;> try exact cls))) | ((with_reducible refine isRet ?_); (refine ret_pick [0] rfl rfl rfl ⟨rfl, ?_⟩)) | (refine sL ?_; intro hlen) | (refine sH ?_; clear hn he hr Q')))
      rw [← hk3, if_pos rfl, List.append_nil]
      rfl
set_option maxHeartbeats 8000000 in
theorem c_spec_l23DrawBooked (code : List UInt8) (p sd : Int) (R : List TRing) (hR : ringsB R = true) (hp : 0 ≤ p ∧ p ≤ 576460752303423488) : FnC Tryz.prog 115 G0 1 [.box [.sl 1 (code.map byteE), .int .i64 p, .int .u64 sd]] [.hp 0 0, .sl 5 (R.map encRing)] (fun d os => ∃ (L : List Int) (p' sd' : Int), d = .sl 1 (L.map encI) ∧ (p ≤ p' ∧ p' ≤ p + 40) ∧ os = [.box [.sl 1 (code.map byteE), .int .i64 p', .int .u64 sd']]) := by
  obtain ⟨h1, h2, h3, h4⟩ := ringsB_all hR
  refine fn_rule Tryz.func115 rfl (by decide +kernel) rfl (fun w0 F0 lent β0 => ?_)
  repeat' (first | refine sC ?_ | ((with_reducible refine isAwp ?_); first | (refine sS ?_; intro Q' hn he hr) | refine sA ?_) | (refine sH ?_; clear hn he hr Q') | ((conv => whnf); first | refine sK ?_ | ((with_reducible refine isCall ?_); first | (refine call_pure (c_spec_l23All R h1 h2) rfl rfl ?_) | (refine call_lend 0 rfl (c_pick code _ _ _ (by omega) (by omega)) ?_; rintro d os ⟨z, p1, sd1, rfl, hz, hz2, rfl⟩; refine ⟨_, _, rfl, ?_⟩))))
  refine loop_env3 (fun (k : Nat) (L : List Int) (q : Int × Int) => [(0,.hp 0 0),(5,.h 1),(6,.int .i64 (sumC R)),(7,.int .i64 k)]) (fun k L q => [srcO code q, .row 2 1 (L.map encI)]) (fun k L q => k ≤ 5 ∧ L.length + k ≤ 5 ∧ p ≤ q.1 ∧ q.1 + 2 * k ≤ p + 12) (fun k L q => k) z.toNat [] (p1, sd1) ⟨by omega, by simp; omega, by simp only; omega, by simp only; omega⟩ (by refine weak_to rfl rfl rfl ?_; ((repeat' (first | exact trivial | refine And.intro ?_ ?_)) <;> (first | rfl | (conv => rhs; whnf) <;> (first | rfl | (refine congrArg (D.int _) ?_; omega))))) (fun k L q hk Q' hn he hr => ?_)
  obtain ⟨hk1, hk2, hk3, hk4⟩ := hk
  unfold srcO
  by_cases hkz : 0 < k ∧ 0 < sumC R
  · repeat' (first | refine sC ?_ | ((with_reducible refine isAwp ?_); first | (refine sS ?_; intro Q' hn he hr) | refine sA ?_) | (refine sH ?_; clear hn he hr Q') | ((conv => whnf); first | refine sK ?_ | (refine sB ?_; repeat' (first | refine sb0 ?_ | (refine sb2 ?_ ?_ <;> intro hb <;> try exact cls))) | ((with_reducible refine isCall ?_); first | (refine call_lend 0 rfl (c_pick code _ _ _ (by omega) (by omega)) ?_; rintro d os ⟨z, p1, sd1, rfl, hz, hz2, rfl⟩; refine ⟨_, _, rfl, ?_⟩) | (refine call_mk_look (c_spec_l00PutO L _ (by omega)) rfl (flat_one (FlatO.map fun _ => rfl)) (by first | exact (rfl : _ = 0) | exact (rfl : _ = 1) | exact (rfl : _ = 2) | exact (rfl : _ = 3) | exact (rfl : _ = 4) | exact (rfl : _ = 5) | exact (rfl : _ = 6) | exact (rfl : _ = 7) | exact (rfl : _ = 8) | exact (rfl : _ = 9) | exact (rfl : _ = 10) | exact (rfl : _ = 11) | exact (rfl : _ = 12) | exact (rfl : _ = 13) | exact (rfl : _ = 14) | exact (rfl : _ = 15) | exact (rfl : _ = 16) | exact (rfl : _ = 17) | exact (rfl : _ = 18) | exact (rfl : _ = 19) | exact (rfl : _ = 20) | exact (rfl : _ = 21) | exact (rfl : _ = 22) | exact (rfl : _ = 23) | exact (rfl : _ = 24) | exact (rfl : _ = 25) | exact (rfl : _ = 26) | exact (rfl : _ = 27) | exact (rfl : _ = 28) | exact (rfl : _ = 29) | exact (rfl : _ = 30) | exact (rfl : _ = 31) | exact (rfl : _ = 32) | exact (rfl : _ = 33) | exact (rfl : _ = 34) | exact (rfl : _ = 35) | exact (rfl : _ = 36) | exact (rfl : _ = 37) | exact (rfl : _ = 38) | exact (rfl : _ = 39)) ?_)) | refine sP ?_))
    all_goals first
      | (exfalso; omega)
      | (have h79 := putF_len z L false
         refine ⟨k - 1, putF z L false, (p1, sd1), ⟨by omega, by omega, by simp only; omega, by simp only; omega⟩, by omega, ?_⟩
         refine weak_selp [0, 2] rfl ?_ ?_ <;> (repeat' (first | exact trivial | rfl | refine And.intro ?_ ?_)) <;> ((conv => rhs; whnf); refine congrArg (D.int _) ?_; omega))
      | trace_state
  · repeat' (first | refine sC ?_ | ((with_reducible refine isAwp ?_); first | (refine sS ?_; intro Q' hn he hr) | refine sA ?_) | (refine sH ?_; clear hn he hr Q') | ((conv => whnf); first | refine sK ?_ | (refine sB ?_; repeat' (first | refine sb0 ?_ | (refine sb2 ?_ ?_ <;> intro hb <;> try exact cls))) | ((with_reducible refine isCall ?_); first | (refine call_lend 0 rfl (c_one code _ _ _ (by omega) (by omega)) ?_; rintro d os ⟨b1, p1, sd1, rfl, hz2, rfl⟩; refine ⟨_, _, rfl, ?_⟩) | (refine call_frzi 1 (callFunc_enter Tryz.func207 rfl (by decide +kernel)) rfl ?_) | (refine call_lend 0 rfl (c_amongA code _ _ [sumC R, -1, 0] (by omega) (by simp) (by simp)) ?_; rintro d os ⟨tz, p1, sd1, rfl, htz, hz2, rfl⟩; refine ⟨_, _, rfl, ?_⟩)) | ((with_reducible refine isRet ?_); first | (refine ret_freeze 1 rfl (Nat.le_of_ble_eq_true rfl) ?_; refine ret_pick [0] rfl rfl rfl ⟨L, p1, sd1, rfl, by omega, rfl⟩) | (refine ret_freeze 1 rfl (Nat.le_of_ble_eq_true rfl) ?_; refine ret_pick [0] rfl rfl rfl ⟨L ++ [tz], p1, sd1, ?_, by omega, rfl⟩)) | refine sP ?_ | (refine sH ?_; clear hn he hr Q')))
    all_goals first | (exfalso; omega) | (rw [List.map_append]; rfl) | trace_state
def zeroH : List D := [.str [], .int .i64 0, .int .i64 0, nilV, .int .i64 0, nilV, nilV, .int .i64 0, nilV, nilV, nilV, .int .i64 0, nilV, nilV, .int .i64 0]
def mainT : List UInt8 := [109, 97, 105, 110]
def pA : TProjector := ⟨[97], 0, 90000, 120000, 500⟩
def pB : TProjector := ⟨[98], 90000, 30000, 60000, 700⟩
def rings2 : List TRing := [⟨1000, 6, 0, 30000, 10⟩, ⟨3000, 8, 0, 30000, 8⟩]
def fix3 : List TFixture := [⟨[104, 97, 108, 108], 1, 1, 2⟩, ⟨[115, 116, 97, 114, 115], 1, 10, 4⟩, ⟨[115, 117, 110], 2, 1, 1⟩]
def drawn0 (P : List TProjector) (R : List TRing) (B : List Int) (F : List TFixture) : THouse := ⟨⟨mainT, 9000, 0⟩, P, 45000, R, B, 0, F, [], [], 500, [], [], 50⟩
/-- What is known of a house that is being drawn. -/
def baseH (h : THouse) : Prop := h.fStep = 45000 ∧ h.fProjectors = [pA, pB] ∧ h.fFixtures = fix3 ∧ h.fCues.length ≤ 32 ∧ h.fMedia.length ≤ 6
def drawnH (h : THouse) : Prop := h.fStep = 45000 ∧ (h.fProjectors = [pA, pB] ∨ h.fProjectors = [pB])
/-- The cells of a house, script and needs apart. -/
def hCells (x : THouse) (S N : D) : List D := .str x.fDome.fName :: .int .i64 x.fDome.fRadius :: .int .i64 x.fDome.fTilt :: .sl 5 (x.fProjectors.map encProjector) :: .int .i64 x.fStep :: .sl 5 (x.fRings.map encRing) :: .sl 1 (x.fBooked.map encI) :: .int .i64 x.fLeast :: .sl 4 (x.fFixtures.map encFixture) :: .sl 6 (x.fCues.map encCue) :: S :: .int .i64 x.fBudget :: .sl 2 (x.fMedia.map encMedia) :: N :: .int .i64 x.fBandwidth :: []
set_option maxHeartbeats 16000000 in
theorem c_spec_l31Draw (code : List UInt8) (p sd : Int) (hp : 0 ≤ p ∧ p ≤ 288230376151711744) : FnC Tryz.prog 45 G0 1 [.box [.sl 1 (code.map byteE), .int .i64 p, .int .u64 sd]] [.hp 0 0] (fun d os => ∃ (h : THouse) (p' sd' : Int), d = .agg (encHouse h) ∧ drawnH h ∧ os = [.box [.sl 1 (code.map byteE), .int .i64 p', .int .u64 sd']]) := by
  refine fn_rule_s Tryz.func45 rfl (by decide +kernel) rfl (fun w0 F0 lent β0 => ?_)
  refine sem_cut (γ := Unit) (fun q => [(0,.hp 0 0),(2,.hp 1 0)]) (fun q => [srcO code (p, sd), .box zeroH]) (fun q => True) ?_ ?_
  · refine SemC.of ?_
    repeat' (first | refine sC ?_ | ((with_reducible refine isAwp ?_); refine sA ?_) | ((conv => whnf); refine sK ?_))
    exact ⟨(), trivial, (by refine weak_to rfl rfl rfl ?_; ((repeat' (first | exact trivial | refine And.intro ?_ ?_)) <;> (first | rfl | (conv => rhs; whnf) <;> (first | rfl | (refine congrArg (D.int _) ?_; omega)))))⟩
  rintro ⟨⟩ _
  unfold srcO
  refine sem_cut (γ := Unit) (fun q => [(0,.hp 0 0),(2,.hp 1 0),(3,.hp 2 0)]) (fun q => [srcO code (p, sd), .box zeroH, .box (hCells (drawn0 [] [] [] []) nilV nilV)]) (fun q => True) ?_ ?_
  · refine SemC.of ?_
    repeat' (first | refine sC ?_ | ((with_reducible refine isAwp ?_); refine sA ?_) | ((conv => whnf); refine sK ?_))
    refine ⟨(), trivial, ?_⟩
    refine Weak.trans (weak_nil_box 2 3 5 rfl rfl rfl rfl) ?_
    refine Weak.trans (weak_nil_box 2 5 5 rfl rfl rfl rfl) ?_
    refine Weak.trans (weak_nil_box 2 6 1 rfl rfl rfl rfl) ?_
    refine Weak.trans (weak_nil_box 2 8 4 rfl rfl rfl rfl) ?_
    refine Weak.trans (weak_nil_box 2 9 6 rfl rfl rfl rfl) ?_
    refine Weak.trans (weak_nil_box 2 12 2 rfl rfl rfl rfl) ?_
    exact (by refine weak_to rfl rfl rfl ?_; ((repeat' (first | exact trivial | refine And.intro ?_ ?_)) <;> (first | rfl | (conv => rhs; whnf) <;> (first | rfl | (refine congrArg (D.int _) ?_; omega)))))
  rintro ⟨⟩ _
  unfold srcO
  refine sem_cut (γ := Unit) (fun q => [(0,.hp 0 0),(2,.hp 1 0),(3,.hp 2 0)]) (fun q => [srcO code (p, sd), .box zeroH, .box (hCells (drawn0 [pA, pB] [] [] []) nilV nilV)]) (fun q => True) ?_ ?_
  · refine SemC.of ?_
    repeat' (first | refine sC ?_ | ((with_reducible refine isAwp ?_); refine sA ?_) | ((conv => whnf); refine sK ?_))
    refine ⟨(), trivial, ?_⟩
    refine Weak.trans (weak_frz 3 rfl (Nat.le_of_ble_eq_true rfl)) ?_
    exact (by refine weak_to rfl rfl rfl ?_; ((repeat' (first | exact trivial | refine And.intro ?_ ?_)) <;> (first | rfl | (conv => rhs; whnf) <;> (first | rfl | (refine congrArg (D.int _) ?_; omega)))))
  rintro ⟨⟩ _
  unfold srcO
  refine sem_cut (γ := Unit) (fun q => [(0,.hp 0 0),(2,.hp 1 0),(3,.hp 2 0)]) (fun q => [srcO code (p, sd), .box zeroH, .box (hCells (drawn0 [pA, pB] rings2 [] []) nilV nilV)]) (fun q => True) ?_ ?_
  · refine SemC.of ?_
    repeat' (first | refine sC ?_ | ((with_reducible refine isAwp ?_); refine sA ?_) | ((conv => whnf); refine sK ?_))
    refine ⟨(), trivial, ?_⟩
    refine Weak.trans (weak_frz 3 rfl (Nat.le_of_ble_eq_true rfl)) ?_
    exact (by refine weak_to rfl rfl rfl ?_; ((repeat' (first | exact trivial | refine And.intro ?_ ?_)) <;> (first | rfl | (conv => rhs; whnf) <;> (first | rfl | (refine congrArg (D.int _) ?_; omega)))))
  rintro ⟨⟩ _
  unfold srcO
  refine sem_cut (γ := List Int × Int × Int) (fun q => [(0,.hp 0 0),(2,.hp 1 0),(3,.hp 2 0)]) (fun q => [srcO code q.2, .box zeroH, .box (hCells (drawn0 [pA, pB] rings2 q.1 []) nilV nilV)]) (fun q => p ≤ q.2.1 ∧ q.2.1 ≤ p + 40) ?_ ?_
  · refine SemC.of ?_
    repeat' (first | refine sC ?_ | ((with_reducible refine isAwp ?_); refine sA ?_) | ((conv => whnf); first | refine sK ?_ | ((with_reducible refine isCall ?_); (refine call_lend 0 rfl (c_spec_l23DrawBooked code _ _ rings2 (by decide +kernel) (by omega)) ?_; rintro d os ⟨L, p1, sd1, rfl, hz2, rfl⟩; refine ⟨_, _, rfl, ?_⟩))))
    exact ⟨(L, p1, sd1), ⟨by simp only; omega, by simp only; omega⟩, (by refine weak_to rfl rfl rfl ?_; ((repeat' (first | exact trivial | refine And.intro ?_ ?_)) <;> (first | rfl | (conv => rhs; whnf) <;> (first | rfl | (refine congrArg (D.int _) ?_; omega)))))⟩
  rintro ⟨L, pa, sda⟩ ⟨ha1, ha2⟩
  dsimp only at ha1 ha2 ⊢
  unfold srcO
  refine sem_cut (γ := Unit) (fun q => [(0,.hp 0 0),(2,.hp 1 0),(3,.hp 2 0)]) (fun q => [srcO code (pa, sda), .box zeroH, .box (hCells (drawn0 [pA, pB] rings2 L fix3) nilV nilV)]) (fun q => True) ?_ ?_
  · refine SemC.of ?_
    repeat' (first | refine sC ?_ | ((with_reducible refine isAwp ?_); refine sA ?_) | ((conv => whnf); refine sK ?_))
    refine ⟨(), trivial, ?_⟩
    refine Weak.trans (weak_frz 3 rfl (Nat.le_of_ble_eq_true rfl)) ?_
    exact (by refine weak_to rfl rfl rfl ?_; ((repeat' (first | exact trivial | refine And.intro ?_ ?_)) <;> (first | rfl | (conv => rhs; whnf) <;> (first | rfl | (refine congrArg (D.int _) ?_; omega)))))
  rintro ⟨⟩ _
  unfold srcO
  refine sem_cut (γ := THouse × Int × Int) (fun q => [(0,.hp 0 0),(2,.hp 1 0),(3,.hp 2 0)]) (fun q => [srcO code q.2, .box zeroH, .box (hCells q.1 nilV nilV)]) (fun q => baseH q.1 ∧ p ≤ q.2.1 ∧ q.2.1 ≤ p + 300) ?_ ?_
  · refine SemC.of ?_
    repeat' (first | refine sC ?_ | ((with_reducible refine isAwp ?_); first | (refine sS ?_; intro Q' hn he hr) | refine sA ?_) | (refine sH ?_; clear hn he hr Q') | ((conv => whnf); first | refine sK ?_ | ((with_reducible refine isCall ?_); (refine call_lend 0 rfl (c_pick code _ _ _ (by omega) (by omega)) ?_; rintro d os ⟨z, p1, sd1, rfl, hz, hz2, rfl⟩; refine ⟨_, _, rfl, ?_⟩))))
    refine loop_env3 (fun (k : Nat) (h : THouse) (q : Int × Int) => [(0,.hp 0 0),(2,.hp 1 0),(3,.hp 2 0),(4,.int .i64 k)]) (fun k h q => [srcO code q, .box zeroH, .box (hCells h nilV nilV)]) (fun k h q => k ≤ 4 ∧ baseH h ∧ p ≤ q.1 ∧ q.1 + 30 * k ≤ p + 300) (fun k h q => k) z.toNat (drawn0 [pA, pB] rings2 L fix3) (p1, sd1) ⟨by omega, ⟨rfl, rfl, rfl, Nat.zero_le _, Nat.zero_le _⟩, by simp only; omega, by simp only; omega⟩ (by refine weak_to rfl rfl rfl ?_; ((repeat' (first | exact trivial | refine And.intro ?_ ?_)) <;> (first | rfl | (conv => rhs; whnf) <;> (first | rfl | (refine congrArg (D.int _) ?_; omega))))) (fun k h q hk Q' hn he hr => ?_)
    obtain ⟨hk1, ⟨hb1, hb2, hb3, hb4, hb5⟩, hk3, hk4⟩ := hk
    unfold srcO
    repeat' (first | refine sC ?_ | ((with_reducible refine isAwp ?_); first | (refine sS ?_; intro Q' hn he hr) | refine sA ?_) | (refine sH ?_; clear hn he hr Q') | ((conv => whnf); first | refine sK ?_ | (refine sB ?_; repeat' (first | refine sb0 ?_ | (refine sb2 ?_ ?_ <;> intro hb <;> try exact cls))) | ((with_reducible refine isCall ?_); first | (refine call_lend 0 rfl (c_l13DrawOne code _ _ (by omega)) ?_; rintro d os ⟨c, p2, sd2, rfl, hz3, rfl⟩; refine ⟨_, _, rfl, ?_⟩) | (refine call_pure (c_spec_AddCue h.fCues c) rfl rfl ?_) | (refine call_pure (c_spec_l13Clashes (addL h.fCues c) (addL_ok (by assumption))) rfl rfl ?_)) | refine sP ?_ | (refine sL ?_; intro hlen)))
    all_goals first
      | (have h79 := cues_len (addL_ok (show addE h.fCues c = 0 by assumption))
         refine ⟨k - 1, { h with fCues := addL h.fCues c }, (p2, sd2), ⟨by omega, ⟨hb1, hb2, hb3, h79, hb5⟩, by simp only; omega, by simp only; omega⟩, by omega, ?_⟩
         exact (by refine weak_to rfl rfl rfl ?_; ((repeat' (first | exact trivial | refine And.intro ?_ ?_)) <;> (first | rfl | (conv => rhs; whnf) <;> (first | rfl | (refine congrArg (D.int _) ?_; omega))))))
      | (refine ⟨k - 1, h, (p2, sd2), ⟨by omega, ⟨hb1, hb2, hb3, hb4, hb5⟩, by simp only; omega, by simp only; omega⟩, by omega, ?_⟩
         exact (by refine weak_to rfl rfl rfl ?_; ((repeat' (first | exact trivial | refine And.intro ?_ ?_)) <;> (first | rfl | (conv => rhs; whnf) <;> (first | rfl | (refine congrArg (D.int _) ?_; omega))))))
      | exact ⟨(h, q), ⟨⟨hb1, hb2, hb3, hb4, hb5⟩, by simp only; omega, by simp only; omega⟩, (by refine weak_to rfl rfl rfl ?_; ((repeat' (first | exact trivial | refine And.intro ?_ ?_)) <;> (first | rfl | (conv => rhs; whnf) <;> (first | rfl | (refine congrArg (D.int _) ?_; omega)))))⟩
      | trace_state
  rintro ⟨h6, pb, sdb⟩ ⟨⟨hb1, hb2, hb3, hb4, hb5⟩, hc1, hc2⟩
  dsimp only at hb1 hb2 hb3 hb4 hb5 hc1 hc2 ⊢
  unfold srcO
  refine sem_cut (γ := THouse) (fun q => [(0,.hp 0 0),(2,.hp 1 0),(3,.hp 2 0)]) (fun q => [srcO code (pb, sdb), .box zeroH, .box (hCells q (.sl 3 (q.fScript.map encLine)) nilV)]) (fun q => baseH q) ?_ ?_
  · refine SemC.of ?_
    repeat' (first | refine sC ?_ | ((with_reducible refine isAwp ?_); first | (refine sS ?_; intro Q' hn he hr) | refine sA ?_) | (refine sH ?_; clear hn he hr Q') | ((conv => whnf); refine sK ?_))
    refine loop_env2 (fun (i : Nat) (S : List TLine) => [(0,.hp 0 0),(2,.hp 1 0),(3,.hp 2 0),(8,.int .i64 i)]) (fun i S => [srcO code (pb, sdb), .box zeroH, .box (hCells h6 (.h 3) nilV), .row 182 3 (S.map encLine)]) (fun i S => i ≤ h6.fCues.length ∧ S.length = 2 * i) (fun i S => h6.fCues.length - i) 0 [] ⟨by omega, rfl⟩ (by refine Weak.trans (weak_adopt_box 2 10 182 3 rfl rfl rfl rfl) ?_; exact (by refine weak_to rfl rfl rfl ?_; ((repeat' (first | exact trivial | refine And.intro ?_ ?_)) <;> (first | rfl | (conv => rhs; whnf) <;> (first | rfl | (refine congrArg (D.int _) ?_; omega)))))) (fun i S hi Q' hn he hr => ?_)
    obtain ⟨hi1, hi2⟩ := hi
    by_cases hil : i < h6.fCues.length
    · obtain ⟨c, hc⟩ : ∃ c, h6.fCues[i]? = some c := ⟨_, List.getElem?_eq_getElem hil⟩
      repeat' (first | refine sC ?_ | ((with_reducible refine isAwp ?_); first | (refine sS ?_; intro Q' hn he hr) | refine sA ?_) | (refine sH ?_; clear hn he hr Q') | refine sO ?_ | ((conv => whnf); first | refine sK ?_ | (refine sB ?_; repeat' (refine sb2 ?_ ?_ <;> intro hb <;> try exact cls)) | (refine draw_n 11 (by decide +kernel) (by decide +kernel) ?_) | (refine ElemS.the hc ?_) | refine sP ?_ | (refine sL ?_; intro hlen)))
      all_goals first
        | (refine ⟨i + 1, S ++ [⟨3, c.fId, 0⟩, ⟨2, [], 100⟩], ⟨by omega, by simp; omega⟩, by omega, ?_⟩
           exact (by refine weak_to rfl rfl (by rw [List.map_append]; rfl) ?_; ((repeat' (first | exact trivial | refine And.intro ?_ ?_)) <;> (first | rfl | (conv => rhs; whnf) <;> (first | rfl | (refine congrArg (D.int _) ?_; omega))))))
        | trace_state
    · repeat' (first | refine sC ?_ | ((with_reducible refine isAwp ?_); first | (refine sS ?_; intro Q' hn he hr) | refine sA ?_) | (refine sH ?_; clear hn he hr Q') | ((conv => whnf); first | refine sK ?_ | (refine sB ?_; repeat' (refine sb2 ?_ ?_ <;> intro hb <;> try exact cls)) | (refine sL ?_; intro hlen)))
      refine ⟨{ h6 with fScript := S }, ⟨hb1, hb2, hb3, hb4, hb5⟩, ?_⟩
      refine Weak.trans (weak_frz 3 rfl (Nat.le_of_ble_eq_true rfl)) ?_
      exact (by refine weak_to rfl rfl rfl ?_; ((repeat' (first | exact trivial | refine And.intro ?_ ?_)) <;> (first | rfl | (conv => rhs; whnf) <;> (first | rfl | (refine congrArg (D.int _) ?_; omega)))))
  rintro h7 ⟨hd1, hd2, hd3, hd4, hd5⟩
  unfold srcO
  refine sem_cut (γ := THouse × Int × Int) (fun q => [(0,.hp 0 0),(2,.hp 1 0),(3,.hp 2 0)]) (fun q => [srcO code q.2, .box zeroH, .box (hCells q.1 (.sl 3 (q.1.fScript.map encLine)) nilV)]) (fun q => baseH q.1 ∧ p ≤ q.2.1 ∧ q.2.1 ≤ p + 400) ?_ ?_
  · refine SemC.of ?_
    repeat' (first | refine sC ?_ | ((with_reducible refine isAwp ?_); refine sA ?_) | ((conv => whnf); first | refine sK ?_ | ((with_reducible refine isCall ?_); (refine call_lend 0 rfl (c_l25Draw code _ _ (by omega)) ?_; rintro d os ⟨M, p1, sd1, rfl, hM, hz2, rfl⟩; refine ⟨_, _, rfl, ?_⟩))))
    exact ⟨({ h7 with fMedia := M }, p1, sd1), ⟨⟨hd1, hd2, hd3, hd4, hM⟩, by simp only; omega, by simp only; omega⟩, (by refine weak_to rfl rfl rfl ?_; ((repeat' (first | exact trivial | refine And.intro ?_ ?_)) <;> (first | rfl | (conv => rhs; whnf) <;> (first | rfl | (refine congrArg (D.int _) ?_; omega)))))⟩
  rintro ⟨h8, pc, sdc⟩ ⟨⟨he1, he2, he3, he4, he5⟩, hf1, hf2⟩
  dsimp only at he1 he2 he3 he4 he5 hf1 hf2 ⊢
  unfold srcO
  refine sem_cut (γ := Unit) (fun q => [(0,.hp 0 0),(2,.hp 1 0),(3,.hp 2 0),(9,.int .i64 8000)]) (fun q => [srcO code (pc, sdc), .box zeroH, .box (hCells h8 (.sl 3 (h8.fScript.map encLine)) nilV)]) (fun q => True) ?_ ?_
  · refine SemC.of ?_
    repeat' (first | refine sC ?_ | ((with_reducible refine isAwp ?_); refine sA ?_) | ((conv => whnf); refine sK ?_))
    exact ⟨(), trivial, (by refine weak_to rfl rfl rfl ?_; ((repeat' (first | exact trivial | refine And.intro ?_ ?_)) <;> (first | rfl | (conv => rhs; whnf) <;> (first | rfl | (refine congrArg (D.int _) ?_; omega)))))⟩
  rintro ⟨⟩ _
  unfold srcO
  refine sem_cut (γ := THouse) (fun q => [(0,.hp 0 0),(2,.hp 1 0),(3,.hp 2 0)]) (fun q => [srcO code (pc, sdc), .box zeroH, .box (encHouseR q [])]) (fun q => baseH q) ?_ ?_
  · refine SemC.of ?_
    repeat' (first | refine sC ?_ | ((with_reducible refine isAwp ?_); first | (refine sS ?_; intro Q' hn he hr) | refine sA ?_) | (refine sH ?_; clear hn he hr Q') | ((conv => whnf); refine sK ?_))
    refine loop_env2 (fun (i : Nat) (S : List TNeed) => [(0,.hp 0 0),(2,.hp 1 0),(3,.hp 2 0),(9,.int .i64 (8000 + 1000 * i)),(10,.int .i64 i)]) (fun i S => [srcO code (pc, sdc), .box zeroH, .box (hCells h8 (.sl 3 (h8.fScript.map encLine)) (.h 3)), .row 187 2 (S.map encNeed)]) (fun i S => i ≤ h8.fMedia.length ∧ S.length = i) (fun i S => h8.fMedia.length - i) 0 [] ⟨by omega, rfl⟩ (by refine Weak.trans (weak_adopt_box 2 13 187 2 rfl rfl rfl rfl) ?_; exact (by refine weak_to rfl rfl rfl ?_; ((repeat' (first | exact trivial | refine And.intro ?_ ?_)) <;> (first | rfl | (conv => rhs; whnf) <;> (first | rfl | (refine congrArg (D.int _) ?_; omega)))))) (fun i S hi Q' hn he hr => ?_)
    obtain ⟨hi1, hi2⟩ := hi
    by_cases hil : i < h8.fMedia.length
    · obtain ⟨m, hm⟩ : ∃ m, h8.fMedia[i]? = some m := ⟨_, List.getElem?_eq_getElem hil⟩
      repeat' (first | refine sC ?_ | ((with_reducible refine isAwp ?_); first | (refine sS ?_; intro Q' hn he hr) | refine sA ?_) | (refine sH ?_; clear hn he hr Q') | refine sO ?_ | ((conv => whnf); first | refine sK ?_ | (refine sB ?_; repeat' (refine sb2 ?_ ?_ <;> intro hb <;> try exact cls)) | (refine draw_n 11 (by decide +kernel) (by decide +kernel) ?_) | (refine ElemS.the hm ?_) | refine sP ?_ | (refine sL ?_; intro hlen)))
      all_goals first
        | (refine ⟨i + 1, S ++ [⟨m.fName, 8000 + 1000 * i⟩], ⟨by omega, by simp; omega⟩, by omega, ?_⟩
           exact (by refine weak_to rfl rfl (by rw [List.map_append]; rfl) ?_; ((repeat' (first | exact trivial | refine And.intro ?_ ?_)) <;> (first | rfl | (conv => rhs; whnf) <;> (first | rfl | (refine congrArg (D.int _) ?_; omega))))))
        | trace_state
    · repeat' (first | refine sC ?_ | ((with_reducible refine isAwp ?_); first | (refine sS ?_; intro Q' hn he hr) | refine sA ?_) | (refine sH ?_; clear hn he hr Q') | ((conv => whnf); first | refine sK ?_ | (refine sB ?_; repeat' (refine sb2 ?_ ?_ <;> intro hb <;> try exact cls)) | (refine sL ?_; intro hlen)))
      refine ⟨{ h8 with fNeeds := S }, ⟨he1, he2, he3, he4, he5⟩, ?_⟩
      refine Weak.trans (weak_frz 3 rfl (Nat.le_of_ble_eq_true rfl)) ?_
      exact (by refine weak_to rfl rfl rfl ?_; ((repeat' (first | exact trivial | refine And.intro ?_ ?_)) <;> (first | rfl | (conv => rhs; whnf) <;> (first | rfl | (refine congrArg (D.int _) ?_; omega)))))
  rintro ⟨dm, P9, st9, R9, B9, l9, F9, C9, S9, bu9, M9, N9, bw9⟩ ⟨hg1, hg2, hg3, hg4, hg5⟩
  dsimp only at hg1 hg2 hg3 hg4 hg5 ⊢
  subst hg1 hg2 hg3
  have h33 : fix3.length = 3 := rfl
  unfold srcO
  refine sem_cut (γ := THouse × Int × Int) (fun q => [(0,.hp 0 0),(2,.hp 1 0),(3,.hp 2 0)]) (fun q => [srcO code q.2, .box zeroH, .box (encHouseR q.1 [])]) (fun q => drawnH q.1) ?_ ?_
  · refine SemC.of ?_
    repeat' (first | refine sC ?_ | ((with_reducible refine isAwp ?_); first | (refine sS ?_; intro Q' hn he hr) | refine sA ?_) | (refine sH ?_; clear hn he hr Q') | ((conv => whnf); first | refine sK ?_ | (refine sB ?_; repeat' (refine sb2 ?_ ?_ <;> intro hb <;> try exact cls)) | ((with_reducible refine isCall ?_); first | (refine call_lend 0 rfl (c_pick code _ _ _ (by omega) (by omega)) ?_; rintro d os ⟨z, p1, sd1, rfl, hz, hz2, rfl⟩; refine ⟨_, _, rfl, ?_⟩) | (refine call_lend 0 rfl (c_l13Draw code _ _ (by omega)) ?_; rintro d os ⟨C1, p1, sd1, rfl, hC1, hz2, rfl⟩; refine ⟨_, _, rfl, ?_⟩) | (refine call_lend 0 rfl (c_l15Draw code _ _ (by omega)) ?_; rintro d os ⟨S1, p1, sd1, rfl, hS1, hz2, rfl⟩; refine ⟨_, _, rfl, ?_⟩)) | refine sP ?_ | (refine sX ?_; intro i1 i2 hi1 hi2 hj1 hj2; try simp only [cutL, lnM, lnA, lnC, lnN, lnT, lnD, lnR] at hi1 hi2 hj2)))
    all_goals first
      | (obtain rfl : i1 = 1 := (by omega); refine ⟨(⟨dm, [pB], 45000, R9, B9, l9, fix3, C9, S9, bu9, M9, N9, bw9⟩, p1, sd1), ⟨rfl, .inr rfl⟩, ?_⟩; exact (by refine weak_to rfl rfl rfl ?_; ((repeat' (first | exact trivial | refine And.intro ?_ ?_)) <;> (first | rfl | (conv => rhs; whnf) <;> (first | rfl | (refine congrArg (D.int _) ?_; omega))))))
      | (obtain rfl : i1 = 1 := (by omega); refine ⟨(⟨dm, [pA, pB], 45000, R9, B9, l9, (fix3.drop 1), C9, S9, bu9, M9, N9, bw9⟩, p1, sd1), ⟨rfl, .inl rfl⟩, ?_⟩; exact (by refine weak_to rfl rfl rfl ?_; ((repeat' (first | exact trivial | refine And.intro ?_ ?_)) <;> (first | rfl | (conv => rhs; whnf) <;> (first | rfl | (refine congrArg (D.int _) ?_; omega))))))
      | (refine ⟨(⟨dm, [pA, pB], 45000, R9, B9, l9, fix3, C1, S9, bu9, M9, N9, bw9⟩, p1, sd1), ⟨rfl, .inl rfl⟩, ?_⟩; exact (by refine weak_to rfl rfl rfl ?_; ((repeat' (first | exact trivial | refine And.intro ?_ ?_)) <;> (first | rfl | (conv => rhs; whnf) <;> (first | rfl | (refine congrArg (D.int _) ?_; omega))))))
      | (refine ⟨(⟨dm, [pA, pB], 45000, R9, B9, l9, fix3, C9, S1, bu9, M9, N9, bw9⟩, p1, sd1), ⟨rfl, .inl rfl⟩, ?_⟩; exact (by refine weak_to rfl rfl rfl ?_; ((repeat' (first | exact trivial | refine And.intro ?_ ?_)) <;> (first | rfl | (conv => rhs; whnf) <;> (first | rfl | (refine congrArg (D.int _) ?_; omega))))))
      | (refine ⟨(⟨dm, [pA, pB], 45000, R9, B9, z, fix3, C9, S9, bu9, M9, N9, bw9⟩, p1, sd1), ⟨rfl, .inl rfl⟩, ?_⟩; exact (by refine weak_to rfl rfl rfl ?_; ((repeat' (first | exact trivial | refine And.intro ?_ ?_)) <;> (first | rfl | (conv => rhs; whnf) <;> (first | rfl | (refine congrArg (D.int _) ?_; omega))))))
      | (refine ⟨(⟨dm, [pA, pB], 45000, R9, B9, l9, fix3, C9, S9, bu9, M9, N9, (1 + z)⟩, p1, sd1), ⟨rfl, .inl rfl⟩, ?_⟩; exact (by refine weak_to rfl rfl rfl ?_; ((repeat' (first | exact trivial | refine And.intro ?_ ?_)) <;> (first | rfl | (conv => rhs; whnf) <;> (first | rfl | (refine congrArg (D.int _) ?_; omega))))))
      | (refine ⟨(⟨dm, [pA, pB], 45000, R9, B9, l9, fix3, C9, S9, (1 + z), M9, N9, bw9⟩, p1, sd1), ⟨rfl, .inl rfl⟩, ?_⟩; exact (by refine weak_to rfl rfl rfl ?_; ((repeat' (first | exact trivial | refine And.intro ?_ ?_)) <;> (first | rfl | (conv => rhs; whnf) <;> (first | rfl | (refine congrArg (D.int _) ?_; omega))))))
      | (refine ⟨(⟨dm, [pA, pB], 45000, R9, B9, l9, fix3, C9, S9, bu9, M9, N9, bw9⟩, p1, sd1), ⟨rfl, .inl rfl⟩, ?_⟩; exact (by refine weak_to rfl rfl rfl ?_; ((repeat' (first | exact trivial | refine And.intro ?_ ?_)) <;> (first | rfl | (conv => rhs; whnf) <;> (first | rfl | (refine congrArg (D.int _) ?_; omega))))))
      | trace_state
  rintro ⟨h12, pe, sde⟩ hh
  dsimp only at hh ⊢
  unfold srcO
  refine SemC.of ?_
  repeat' (first | refine sC ?_ | ((with_reducible refine isAwp ?_); first | (refine sS ?_; intro Q' hn he hr) | refine sA ?_) | (refine sH ?_; clear hn he hr Q') | ((conv => whnf); first | refine sK ?_ | ((with_reducible refine isRet ?_); (refine ret_pick [0] rfl rfl rfl ⟨h12, pe, sde, rfl, hh, rfl⟩))))
  all_goals trace_state
end Go.Eng

namespace Go.Eng
open Go Go.RowKit Go.Proofs
set_option maxRecDepth 100000
def plainH : THouse := ⟨⟨mainT, 9000, 0⟩, [], 45000, [], [], 0, [], [], [], 5, [], [], 5⟩
theorem plainH_ok : houseB plainH = true := by decide +kernel
theorem c_l00FromA (code : List UInt8) : FnC Tryz.prog 44 G0 0 [] [.sl 1 (code.map byteE)] (fun d os => d = .hp 0 0 ∧ os = [.box [.sl 1 (code.map byteE), .int .i64 0, .int .u64 0]]) := by
  refine fn_rule Tryz.func44 rfl (by decide +kernel) rfl (fun w0 F0 lent β0 => ?_)
  repeat' (first | refine sC ?_ | ((with_reducible refine isAwp ?_); first | (refine sS ?_; intro Q' hn he hr) | refine sA ?_) | (refine sH ?_; clear hn he hr Q') | ((conv => whnf); first | refine sK ?_ | ((with_reducible refine isRet ?_); (refine ret_pickp [0] rfl rfl rfl ⟨?_, ?_⟩))))
  all_goals rfl
set_option maxHeartbeats 8000000 in
theorem c_R8House (code : List UInt8) : FnC Tryz.prog 10 G0 0 [] [.sl 1 (code.map byteE)] (fun d os => (∃ h : THouse, d = .agg (encHouse h) ∧ houseB h = true ∧ h.fStep = 45000) ∧ os = []) := by
  refine fn_rule Tryz.func10 rfl (by decide +kernel) rfl (fun w0 F0 lent β0 => ?_)
  repeat' (first | refine sC ?_ | ((with_reducible refine isAwp ?_); first | (refine sS ?_; intro Q' hn he hr) | refine sA ?_) | (refine sH ?_; clear hn he hr Q') | ((conv => whnf); first | refine sK ?_ | (refine sB ?_; repeat' (refine sb2 ?_ ?_ <;> intro hb <;> try exact cls)) | ((with_reducible refine isCall ?_); first | (refine call_mk (c_l00FromA code) rfl (by first | exact (rfl : _ = 0) | exact (rfl : _ = 1) | exact (rfl : _ = 2) | exact (rfl : _ = 3) | exact (rfl : _ = 4) | exact (rfl : _ = 5) | exact (rfl : _ = 6) | exact (rfl : _ = 7) | exact (rfl : _ = 8) | exact (rfl : _ = 9) | exact (rfl : _ = 10) | exact (rfl : _ = 11) | exact (rfl : _ = 12) | exact (rfl : _ = 13) | exact (rfl : _ = 14) | exact (rfl : _ = 15) | exact (rfl : _ = 16) | exact (rfl : _ = 17) | exact (rfl : _ = 18) | exact (rfl : _ = 19) | exact (rfl : _ = 20) | exact (rfl : _ = 21) | exact (rfl : _ = 22) | exact (rfl : _ = 23) | exact (rfl : _ = 24) | exact (rfl : _ = 25) | exact (rfl : _ = 26) | exact (rfl : _ = 27) | exact (rfl : _ = 28) | exact (rfl : _ = 29) | exact (rfl : _ = 30) | exact (rfl : _ = 31) | exact (rfl : _ = 32) | exact (rfl : _ = 33) | exact (rfl : _ = 34) | exact (rfl : _ = 35) | exact (rfl : _ = 36) | exact (rfl : _ = 37) | exact (rfl : _ = 38) | exact (rfl : _ = 39)) ?_) | (refine call_lend 1 rfl (c_spec_l31Draw code _ _ (by omega)) ?_; rintro d os ⟨h, p1, sd1, rfl, hd, rfl⟩; refine ⟨_, _, rfl, ?_⟩) | (refine call_look (c_spec_l31Ok h []) rfl ?_)) | ((with_reducible refine isRet ?_); first | (refine ret_pick [] rfl rfl rfl ⟨⟨h, rfl, by assumption, hd.1⟩, rfl⟩) | (refine ret_nils (ds := encHouse plainH) (by repeat' (first | exact trivial | refine And.intro ?_ ?_ | exact .inl rfl | exact .inr ⟨rfl, _, rfl⟩)) ?_; refine ret_pick [] rfl rfl rfl ⟨⟨plainH, rfl, plainH_ok, rfl⟩, rfl⟩))))
  all_goals trace_state
end Go.Eng
