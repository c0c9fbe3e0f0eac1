/-
  Contracts of functions of the program and of the reference, and plain laws: a bundle of texts.
  No conditions.
-/
import Derived.Test.YtieiboeboejmkaaGreatDoorED
import Derived.Test.YtieiboeboejmkaaGreatDoorP1
import Derived.Test.YtieiboeboejmkaaGreatDoorTX
import Derived.Test.YtieiboeboejmkaaGreatDoorFD
import Derived.Test.YtieiboeboejmkaaGreatDoorAIB
import Derived.Test.YtieiboeboejmkaaGreatDoorAX
import Derived.Test.YtieiboeboejmkaaGreatDoorQX
import Derived.Test.YtieiboeboejmkaaGreatDoorWS
set_option linter.unusedVariables false
set_option linter.unusedSimpArgs false
set_option maxHeartbeats 4000000
namespace Go.Eng
open Go Go.RowKit Go.Proofs
set_option maxRecDepth 100000
theorem c_r8Long (code more : List UInt8) : FnC Tryz.prog 9 G0 0 [] [.sl 1 (code.map byteE), .sl 1 (more.map byteE)] (fun d os => (∃ b, d = .bool b) ∧ os = []) := by
  refine fn_rule Tryz.func9 rfl (by decide +kernel) rfl (fun w0 F0 lent β0 => ?_)
  repeat' (first | refine sC ?_ | ((with_reducible refine isAwp ?_); first | (refine sS ?_; intro Q' hn he hr) | refine sA ?_) | (refine sH ?_; clear hn he hr Q') | ((conv => whnf); first | refine sK ?_ | (refine sB ?_; repeat' (first | refine sb0 ?_ | (refine sb2 ?_ ?_ <;> intro hb <;> try exact cls))) | ((with_reducible refine isRet ?_); (refine ret_pick [] rfl rfl rfl ⟨⟨_, rfl⟩, rfl⟩)) | (refine sL ?_; intro hlen)))
end Go.Eng

namespace Go.Eng
open Go Go.RowKit Go.Proofs
set_option maxRecDepth 100000
theorem c_r8At_at (code : List UInt8) (k : Nat) (n : Int) (hn2 : 2 ≤ n ∧ n ≤ 65536) (hk : k ≤ 1000) : ∃ z : Int, 0 ≤ z ∧ z < n ∧ FnC Tryz.prog 17 G0 0 [] [.sl 1 (code.map byteE), .int .i64 k, .int .i64 n] (fun d os => d = .int .i64 z ∧ os = []) := by
  by_cases hc : code.length ≤ k
  · refine ⟨0, by omega, by omega, ?_⟩
    refine fn_rule Tryz.func17 rfl (by decide +kernel) rfl (fun w0 F0 lent β0 => ?_)
    repeat' (first | refine sC ?_ | ((with_reducible refine isAwp ?_); first | (refine sS ?_; intro Q' hn he hr) | refine sA ?_) | (refine sH ?_; clear hn he hr Q') | ((conv => whnf); first | refine sK ?_ | (refine sB ?_; repeat' (first | refine sb0 ?_ | (refine sb2 ?_ ?_ <;> intro hb <;> try exact cls))) | (refine sL ?_; intro hlen) | (refine ret_pick [] rfl rfl rfl ⟨?_, rfl⟩; conv => lhs; whnf)))
  · have hx0 : code[k]? = some code[k] := List.getElem?_eq_getElem (by omega)
    have h77 := (code[k]).toNat_lt
    refine ⟨Int.tmod (code[k]).toNat n, Int.tmod_nonneg _ (by omega), Int.tmod_lt_of_pos _ (by omega), ?_⟩
    refine fn_rule Tryz.func17 rfl (by decide +kernel) rfl (fun w0 F0 lent β0 => ?_)
    repeat' (first | refine sC ?_ | ((with_reducible refine isAwp ?_); first | (refine sS ?_; intro Q' hn he hr) | refine sA ?_) | (refine sH ?_; clear hn he hr Q') | ((conv => whnf); first | refine sK ?_ | (refine sB ?_; repeat' (first | refine sb0 ?_ | (refine sb2 ?_ ?_ <;> intro hb <;> try exact cls))) | (refine ElemS.the hx0 ?_) | (refine AskS.mk ⟨by omega, ?_⟩) | (refine ArithS.in64 (by omega) ?_) | (refine sL ?_; intro hlen) | (refine ret_pick [] rfl rfl rfl ⟨?_, rfl⟩; conv => lhs; whnf)))
    all_goals trace_state
end Go.Eng

namespace Go.Eng
open Go Go.RowKit Go.Proofs
set_option maxRecDepth 100000
theorem rawV_bound {p : TProjector} {v : TVector} (hp : projB p = true) : 0 ≤ rawV p v ∧ rawV p v ≤ 1001 := by
  obtain ⟨h1, h2, h3, h4⟩ := projB_facts hp
  have hd := awayV_bound (dirV p.fAzimuth p.fAltitude) v
  by_cases h : p.fField < awayV (dirV p.fAzimuth p.fAltitude) v
  · rw [rawV_no h]; omega
  · rw [rawV_yes h]
    have h9 := rawQ_bound (f := p.fField) (d := awayV (dirV p.fAzimuth p.fAltitude) v) h3 ⟨hd.1, by omega⟩
    omega
/-- The weights of projectors at a direction. -/
noncomputable def wgtL (ps : List TProjector) (v : TVector) : List Int := ps.map fun p => rawV p v
def wgtsB (W : List Int) : Prop := ∀ (k : Nat) w, W[k]? = some w → 0 ≤ w ∧ w ≤ 1001
theorem wgtL_ok {ps : List TProjector} (h : projsB ps = true) (v : TVector) : wgtsB (wgtL ps v) := by
  intro k w hw
  unfold wgtL at hw
  rw [List.getElem?_map] at hw
  cases hp : ps[k]? with
  | none => rw [hp] at hw; cases hw
  | some p =>
    rw [hp] at hw
    cases hw
    exact rawV_bound ((projs_all h).2 k p hp)
theorem sum_take {W : List Int} {k : Nat} {w : Int} (h : W[k]? = some w) : (W.take (k + 1)).sum = (W.take k).sum + w := by
  rw [List.take_add_one, h, Option.toList_some, List.sum_append]
  simp
theorem sum_bound {W : List Int} (h : wgtsB W) : ∀ k, k ≤ W.length → 0 ≤ (W.take k).sum ∧ (W.take k).sum ≤ 1001 * k := by
  intro k
  induction k with
  | zero => intro _; simp
  | succ k ih =>
    intro hk
    obtain ⟨w, hw⟩ : ∃ w, W[k]? = some w := ⟨_, List.getElem?_eq_getElem (by omega)⟩
    rw [sum_take hw]
    have h1 := ih (by omega)
    have h2 := h k w hw
    omega
theorem sum_mono {W : List Int} (h : wgtsB W) {k : Nat} (hk : k ≤ W.length) : (W.take k).sum ≤ W.sum := by
  have hd : ∀ j, (W.take k).sum ≤ (W.take (k + j)).sum := by
    intro j
    induction j with
    | zero => exact Int.le_refl _
    | succ j ih =>
      by_cases hj : k + j < W.length
      · obtain ⟨w, hw⟩ : ∃ w, W[k + j]? = some w := ⟨_, List.getElem?_eq_getElem hj⟩
        have := sum_take hw
        have h2 := h _ w hw
        rw [show k + (j + 1) = k + j + 1 by omega]
        omega
      · have e1 : W.take (k + j) = W := List.take_of_length_le (by omega)
        have e2 : W.take (k + (j + 1)) = W := List.take_of_length_le (by omega)
        rw [e1] at ih
        rw [e2]
        exact ih
  have := hd (W.length - k)
  rwa [show k + (W.length - k) = W.length by omega, List.take_length] at this
/-- The sure share of a weight, and what is left over of it. -/
def shareQ (S w : Int) : Int := (1000 * w).tdiv S
def restQ (S w : Int) : Int := (1000 * w).tmod S
theorem shareQ_bound {S w : Int} (hS : 0 < S) (hw : 0 ≤ w) : 0 ≤ shareQ S w ∧ S * shareQ S w ≤ 1000 * w := by
  unfold shareQ
  rw [Int.tdiv_eq_ediv_of_nonneg (by omega)]
  exact ⟨Int.ediv_nonneg (by omega) (by omega), Int.mul_ediv_self_le (by omega)⟩
theorem restQ_bound {S w : Int} (hS : 0 < S) (hw : 0 ≤ w) : 0 ≤ restQ S w ∧ restQ S w < S := ⟨Int.tmod_nonneg _ (by omega), Int.tmod_lt_of_pos _ hS⟩
theorem shares_bound {W : List Int} {S : Int} (h : wgtsB W) (hS : 0 < S) : ∀ k, k ≤ W.length → 0 ≤ ((W.take k).map (shareQ S)).sum ∧ S * ((W.take k).map (shareQ S)).sum ≤ 1000 * (W.take k).sum := by
  intro k
  induction k with
  | zero => intro _; simp
  | succ k ih =>
    intro hk
    obtain ⟨w, hw⟩ : ∃ w, W[k]? = some w := ⟨_, List.getElem?_eq_getElem (by omega)⟩
    have h1 := ih (by omega)
    have h2 := shareQ_bound hS (h k w hw).1
    rw [sum_take hw, List.take_add_one, hw, Option.toList_some, List.map_append, List.sum_append]
    simp only [List.map_cons, List.map_nil, List.sum_cons, List.sum_nil, Int.add_zero]
    rw [Int.mul_add]
    omega
theorem shares_left {W : List Int} (h : wgtsB W) (hS : 0 < W.sum) {k : Nat} (hk : k ≤ W.length) : 0 ≤ ((W.take k).map (shareQ W.sum)).sum ∧ ((W.take k).map (shareQ W.sum)).sum ≤ 1000 := by
  have h1 := shares_bound h hS k hk
  have h2 := sum_mono h hk
  refine ⟨h1.1, ?_⟩
  have h3 : W.sum * ((W.take k).map (shareQ W.sum)).sum ≤ W.sum * 1000 := by omega
  exact Int.le_of_mul_le_mul_left h3 hS
theorem shares_step {W : List Int} {S : Int} {k : Nat} {w : Int} (hw : W[k]? = some w) : ((W.take (k + 1)).map (shareQ S)).sum = ((W.take k).map (shareQ S)).sum + shareQ S w := by
  rw [List.take_add_one, hw, Option.toList_some, List.map_append, List.sum_append]
  simp
/-- Shares that are not negative and add up to what is not left. -/
def sharesOk (n : Nat) (left : Int) (L : List Int) : Prop := L.length = n ∧ L.sum + left = 1000 ∧ 0 ≤ left ∧ ∀ (k : Nat) x, L[k]? = some x → 0 ≤ x
theorem nonneg_sum : ∀ {L : List Int}, (∀ (k : Nat) x, L[k]? = some x → 0 ≤ x) → 0 ≤ L.sum := by
  intro L
  induction L with
  | nil => intro _; simp
  | cons a L ih =>
    intro h
    have h1 := h 0 a rfl
    have h2 := ih fun k x hx => h (k + 1) x (by simpa using hx)
    simp only [List.sum_cons]
    omega
theorem set_sum : ∀ {L : List Int} {k : Nat} {x y : Int}, L[k]? = some x → (L.set k y).sum = L.sum - x + y := by
  intro L
  induction L with
  | nil => intro k x y h; simp at h
  | cons a L ih =>
    intro k x y h
    cases k with
    | zero => simp at h; subst h; simp; omega
    | succ k =>
      have := ih (k := k) (x := x) (y := y) (by simpa using h)
      simp only [List.set_cons_succ, List.sum_cons]
      omega
theorem at_le_sum : ∀ {L : List Int}, (∀ (k : Nat) x, L[k]? = some x → 0 ≤ x) → ∀ {k : Nat} {x : Int}, L[k]? = some x → x ≤ L.sum := by
  intro L
  induction L with
  | nil => intro _ k x h; simp at h
  | cons a L ih =>
    intro h k x hx
    have h1 := h 0 a rfl
    have hL : ∀ (k : Nat) x, L[k]? = some x → 0 ≤ x := fun k x hx => h (k + 1) x (by simpa using hx)
    have h2 := nonneg_sum hL
    simp only [List.sum_cons]
    cases k with
    | zero => simp at hx; omega
    | succ k =>
      have := ih hL (k := k) (x := x) (by simpa using hx)
      omega
theorem sharesOk_at {n : Nat} {left : Int} {L : List Int} (h : sharesOk n left L) {k : Nat} {x : Int} (hx : L[k]? = some x) : 0 ≤ x ∧ x ≤ 1000 := by
  obtain ⟨h1, h2, h3, h4⟩ := h
  have := at_le_sum h4 hx
  have := h4 k x hx
  omega
theorem sharesOk_give {n : Nat} {left : Int} {L : List Int} (h : sharesOk n left L) (hl : 0 < left) {k : Nat} {x : Int} (hx : L[k]? = some x) : sharesOk n (left - 1) (L.set k (x + 1)) := by
  obtain ⟨h1, h2, h3, h4⟩ := h
  refine ⟨by rw [List.length_set, h1], by rw [set_sum hx]; omega, by omega, fun j y hy => ?_⟩
  rw [List.getElem?_set] at hy
  split at hy
  · split at hy
    · cases hy
      have := h4 k x hx
      omega
    · cases hy
  · exact h4 j y hy
theorem sharesOk_start {W : List Int} (h : wgtsB W) (hS : 0 < W.sum) : sharesOk W.length (1000 - (W.map (shareQ W.sum)).sum) (W.map (shareQ W.sum)) := by
  have h1 := shares_left h hS (Nat.le_refl W.length)
  rw [List.take_length] at h1
  refine ⟨List.length_map _, by omega, by omega, fun k x hx => ?_⟩
  rw [List.getElem?_map] at hx
  cases hw : W[k]? with
  | none => rw [hw] at hx; cases hx
  | some w =>
    rw [hw] at hx
    cases hx
    exact (shareQ_bound hS (h k w hw).1).1
def restsOk (n : Nat) (R : List Int) : Prop := R.length = n ∧ ∀ (k : Nat) x, R[k]? = some x → -1 ≤ x ∧ x ≤ 1000000
theorem restsOk_set {n : Nat} {R : List Int} (h : restsOk n R) (k : Nat) : restsOk n (R.set k (-1)) := by
  refine ⟨by rw [List.length_set, h.1], fun j y hy => ?_⟩
  rw [List.getElem?_set] at hy
  split at hy
  · split at hy
    · cases hy; omega
    · cases hy
  · exact h.2 j y hy
theorem restsOk_start {W : List Int} (h : wgtsB W) (hS : 0 < W.sum) (hl : W.sum ≤ 1000000) : restsOk W.length (W.map (restQ W.sum)) := by
  refine ⟨List.length_map _, fun k x hx => ?_⟩
  rw [List.getElem?_map] at hx
  cases hw : W[k]? with
  | none => rw [hw] at hx; cases hx
  | some w =>
    rw [hw] at hx
    cases hx
    have := restQ_bound hS (h k w hw).1
    omega
/-- Where a projector reaches, the weights are not all nothing. -/
theorem reach_sum {ps : List TProjector} {a h : Int} (hp : projsB ps = true) (hr : ¬ reachN ps a h = 0) : 0 < (wgtL ps (dirV a h)).sum := by
  have h1 : 0 < reachN ps a h := by omega
  obtain ⟨p, hpm, hpp⟩ := List.countP_pos_iff.1 h1
  obtain ⟨k, hk⟩ := List.getElem?_of_mem hpm
  have hw : (wgtL ps (dirV a h))[k]? = some (rawV p (dirV a h)) := by
    unfold wgtL
    rw [List.getElem?_map, hk]
    rfl
  have h2 := at_le_sum (fun j x hx => (wgtL_ok hp _ j x hx).1) hw
  have h3 : 0 < rawV p (dirV a h) := of_decide_eq_true hpp
  omega
end Go.Eng

namespace Go.Eng
open Go Go.RowKit Go.Proofs
set_option maxRecDepth 100000
set_option maxHeartbeats 8000000 in
theorem c_impl_sharesAt (ps : List TProjector) (a h : Int) (hps : projsB ps = true) (ha : i64B a) (hh : i64B h) (hS : 0 < (wgtL ps (dirV a h)).sum) : FnC Tryz.prog 61 GS 0 [] [.sl 5 (ps.map encProjector), .int .i64 a, .int .i64 h] (fun d os => ∃ L : List Int, sharesOk ps.length 0 L ∧ d = .tup [.h 0, .int .i64 0] ∧ os = [.row 2 1 (L.map encI)]) := by
  obtain ⟨hl, hall⟩ := projs_all hps
  have hW := wgtL_ok hps (dirV a h)
  have hWl : (wgtL ps (dirV a h)).length = ps.length := by simp [wgtL]
  have hat : ∀ {k : Nat} {p : TProjector}, ps[k]? = some p → (wgtL ps (dirV a h))[k]? = some (rawV p (dirV a h)) := fun {k p} hp => by
    unfold wgtL
    rw [List.getElem?_map, hp]
    rfl
  generalize wgtL ps (dirV a h) = W at *
  have hsa := sum_bound hW W.length (Nat.le_refl _)
  rw [List.take_length] at hsa
  refine fn_rule Tryz.func61 rfl (by decide +kernel) rfl (fun w0 F0 lent β0 => ?_)
  repeat' (first | refine sC ?_ | ((with_reducible refine isAwp ?_); first | (refine sS ?_; intro Q' hn he hr) | refine sA ?_) | (refine sH ?_; clear hn he hr Q') | ((conv => whnf); first | refine sK ?_ | refine sP ?_ | (refine sL ?_; intro hlen)))
  refine loop_env (fun k : Nat => [(0,.sl 5 (ps.map encProjector)),(1,.int .i64 a),(2,.int .i64 h),(8,.h 0),(9,.int .i64 (W.take k).sum),(22,.sl 5 (ps.map encProjector)),(23,.int .i64 ps.length),(24,.int .i64 k)]) (fun k => [.row 2 1 (fill encI [.int .i64 0] W k)]) (fun k => k ≤ ps.length) (fun k => ps.length - k) 0 (by omega) (by refine weak_to rfl rfl ?_ ?_; rw [fill_zero, hWl]; rfl; exact ⟨rfl, rfl, rfl, rfl, rfl, rfl, rfl, rfl, trivial⟩) (fun k hk Q' hn he hr => ?_)
  have hsk := sum_bound hW k (by omega)
  by_cases hkl : k < ps.length
  · obtain ⟨p, hp⟩ : ∃ p, ps[k]? = some p := ⟨_, List.getElem?_eq_getElem hkl⟩
    have hwk := hat hp
    have hst := sum_take hwk
    have hwb := hW _ _ hwk
    repeat' (first | refine sC ?_ | ((with_reducible refine isAwp ?_); first | (refine sS ?_; intro Q' hn he hr) | refine sA ?_) | (refine sH ?_; clear hn he hr Q') | ((conv => whnf); first | refine sK ?_ | (refine sB ?_; repeat' (refine sb2 ?_ ?_ <;> intro hb <;> try exact cls)) | (refine ElemS.the hp ?_) | (refine InS.fill (by rw [hWl]; omega) ?_) | (refine ElemS.fill (by rw [hWl]; omega) ?_) | (refine InS.set (InS.fill (by rw [hWl]; omega) ?_)) | (refine ElemS.set (by rw [fill_length _ _ _ (by omega)]; omega) ?_) | ((with_reducible refine isCall ?_); (refine call_pure (c_impl_rawWeight p a h (hall _ _ hp) ha hh) rfl rfl ?_)) | refine sP ?_))
    refine ⟨k + 1, by omega, by omega, ?_⟩
    rw [hst]
    refine weak_to rfl rfl ?_ ⟨rfl, rfl, rfl, rfl, rfl, rfl, rfl, rfl, trivial⟩
    rw [← fill_set _ _ _ hwk]
    rfl
  · obtain rfl : k = ps.length := by omega
    have hfa : fill encI [.int .i64 0] W ps.length = W.map encI := by
      have := fill_all encI [.int .i64 0] W
      rwa [hWl] at this
    have hta : W.take ps.length = W := by rw [← hWl, List.take_length]
    rw [hfa, hta]
    repeat' (first | refine sC ?_ | ((with_reducible refine isAwp ?_); first | (refine sS ?_; intro Q' hn he hr) | refine sA ?_) | (refine sH ?_; clear hn he hr Q') | ((conv => whnf); first | refine sK ?_ | (refine sB ?_; repeat' (refine sb2 ?_ ?_ <;> intro hb <;> try exact cls)) | refine sP ?_ | (refine sL ?_; intro hlen) | (refine sH ?_; clear hn he hr Q')))
    all_goals first | (exfalso; omega) | skip
    refine loop_env (fun k : Nat => [(0,.sl 5 (ps.map encProjector)),(9,.int .i64 W.sum),(12,.h 1),(13,.h 2),(14,.int .i64 (1000 - ((W.take k).map (shareQ W.sum)).sum)),(51,.h 0),(52,.int .i64 W.length),(53,.int .i64 k)]) (fun k => [.row 2 1 (W.map encI), .row 2 1 (fill (fun w => encI (shareQ W.sum w)) [.int .i64 0] W k), .row 2 1 (fill (fun w => encI (restQ W.sum w)) [.int .i64 0] W k)]) (fun k => k ≤ W.length) (fun k => W.length - k) 0 (by omega) (by refine weak_to rfl rfl ?_ ?_; rw [fill_zero, fill_zero, hWl]; rfl; exact ⟨rfl, rfl, rfl, rfl, rfl, rfl, rfl, rfl, trivial⟩) (fun k hk Q' hn he hr => ?_)
    have hlk := shares_left hW hS (k := k) (by omega)
    by_cases hkl : k < W.length
    · obtain ⟨w, hw⟩ : ∃ w, W[k]? = some w := ⟨_, List.getElem?_eq_getElem hkl⟩
      have hst := shares_step (S := W.sum) hw
      have hlk2 := shares_left hW hS (k := k + 1) (by omega)
      have hwb := hW _ _ hw
      have hqb := shareQ_bound hS hwb.1
      have hrb := restQ_bound hS hwb.1
      have hqs : shareQ W.sum w ≤ 1000 := by omega
      repeat' (first | refine sC ?_ | ((with_reducible refine isAwp ?_); first | (refine sS ?_; intro Q' hn he hr) | refine sA ?_) | (refine sH ?_; clear hn he hr Q') | ((conv => whnf); first | refine sK ?_ | (refine sB ?_; repeat' (refine sb2 ?_ ?_ <;> intro hb <;> try exact cls)) | (refine ElemS.the hw ?_) | (refine InS.fill (by omega) ?_) | (refine InS.set (InS.fill (by omega) ?_)) | (refine ElemS.set (by rw [fill_length _ _ _ (by omega)]; omega) ?_) | (refine AskS.mk ⟨by omega, ?_⟩) | (with_reducible refine ArithS.to (shareQ W.sum w) rfl (wrap64 (by omega)) ?_) | refine sP ?_))
      refine ⟨k + 1, by omega, by omega, ?_⟩
      refine weak_to rfl rfl ?_ ⟨rfl, rfl, rfl, rfl, by refine congrArg (D.int _) ?_; omega, rfl, rfl, rfl, trivial⟩
      rw [← fill_set (fun w => encI (shareQ W.sum w)) _ _ hw, ← fill_set (fun w => encI (restQ W.sum w)) _ _ hw]
      rfl
    · obtain rfl : k = W.length := by omega
      have e1 : W.map (fun w => encI (shareQ W.sum w)) = (W.map (shareQ W.sum)).map encI := by rw [List.map_map]; rfl
      have e2 : W.map (fun w => encI (restQ W.sum w)) = (W.map (restQ W.sum)).map encI := by rw [List.map_map]; rfl
      have hs0 := sharesOk_start hW hS
      have hr0 := restsOk_start hW hS (by omega)
      have hz0 : 0 < W.length := by
        cases W with
        | nil => simp at hS
        | cons a r => simp
      rw [List.take_length] at hlk
      rw [fill_all, fill_all, e1, e2, List.take_length]
      rw [hWl] at hs0 hr0
      repeat' (first | refine sC ?_ | ((with_reducible refine isAwp ?_); first | (refine sS ?_; intro Q' hn he hr) | refine sA ?_) | (refine sH ?_; clear hn he hr Q') | ((conv => whnf); first | refine sK ?_ | (refine sB ?_; repeat' (refine sb2 ?_ ?_ <;> intro hb <;> try exact cls)) | (refine sH ?_; clear hn he hr Q')))
      refine loop_env3 (fun (n : Nat) (L R : List Int) => [(12,.h 1),(13,.h 2),(14,.int .i64 n)]) (fun n L R => [.row 2 1 (W.map encI), .row 2 1 (L.map encI), .row 2 1 (R.map encI)]) (fun n L R => sharesOk ps.length n L ∧ restsOk ps.length R) (fun n L R => n) (1000 - (W.map (shareQ W.sum)).sum).toNat (W.map (shareQ W.sum)) (W.map (restQ W.sum)) ⟨by rw [Int.toNat_of_nonneg (by omega)]; exact hs0, hr0⟩ (by refine weak_to rfl rfl rfl ?_; ((repeat' (first | exact trivial | refine And.intro ?_ ?_)) <;> (first | rfl | (conv => rhs; whnf) <;> (first | rfl | (refine congrArg (D.int _) ?_; omega))))) (fun n L R hk Q' hn he hr => ?_)
      obtain ⟨hL, hR⟩ := hk
      have hLl := hL.1
      have hRl := hR.1
      have hn0 := hL.2.2.1
      have hn1 : (n : Int) ≤ 1000 := by
        have := nonneg_sum hL.2.2.2
        have := hL.2.1
        omega
      by_cases hnz : n = 0
      · subst hnz
        repeat' (first | refine sC ?_ | ((with_reducible refine isAwp ?_); first | (refine sS ?_; intro Q' hn he hr) | refine sA ?_) | (refine sH ?_; clear hn he hr Q') | ((conv => whnf); first | refine sK ?_ | (refine sB ?_; repeat' (refine sb2 ?_ ?_ <;> intro hb <;> try exact cls)) | ((with_reducible refine isRet ?_); (refine ret_pick [1] rfl rfl rfl ⟨L, hL, rfl, rfl⟩)) | (refine sH ?_; clear hn he hr Q')))
      · repeat' (first | refine sC ?_ | ((with_reducible refine isAwp ?_); first | (refine sS ?_; intro Q' hn he hr) | refine sA ?_) | (refine sH ?_; clear hn he hr Q') | ((conv => whnf); first | refine sK ?_ | (refine sB ?_; repeat' (refine sb2 ?_ ?_ <;> intro hb <;> try exact cls)) | (refine sL ?_; intro hlen)))
        refine loop_env2 (fun (i b : Nat) => [(12,.h 1),(13,.h 2),(14,.int .i64 n),(17,.int .i64 b),(83,.h 2),(84,.int .i64 ps.length),(85,.int .i64 i)]) (fun _ _ => [.row 2 1 (W.map encI), .row 2 1 (L.map encI), .row 2 1 (R.map encI)]) (fun i b => i ≤ ps.length ∧ b < ps.length) (fun i _ => ps.length - i) 0 0 ⟨by omega, by omega⟩ (by refine weak_to rfl rfl rfl ?_; exact ⟨rfl, rfl, rfl, rfl, rfl, by (conv => rhs; whnf); refine congrArg (D.int _) ?_; omega, rfl, trivial⟩) (fun i b hi Q' hn he hr => ?_)
        obtain ⟨hi1, hi2⟩ := hi
        by_cases hil : i < ps.length
        · obtain ⟨x1, hx1⟩ : ∃ x, R[i]? = some x := ⟨_, List.getElem?_eq_getElem (by omega)⟩
          obtain ⟨x2, hx2⟩ : ∃ x, R[b]? = some x := ⟨_, List.getElem?_eq_getElem (by omega)⟩
          by_cases hgt : x2 < x1
          · repeat' (first | refine sC ?_ | ((with_reducible refine isAwp ?_); first | (refine sS ?_; intro Q' hn he hr) | refine sA ?_) | (refine sH ?_; clear hn he hr Q') | refine sO ?_ | ((conv => whnf); first | refine sK ?_ | (refine sB ?_; repeat' (refine sb2 ?_ ?_ <;> intro hb <;> try exact cls)) | (refine ElemS.the hx1 ?_) | (refine ElemS.the hx2 ?_) | (refine InS.nat (by rw [List.length_map]; omega) ?_) | refine sP ?_ | refine sD ?_))
            exact ⟨i + 1, i, ⟨by omega, by omega⟩, by omega, (by refine weak_to rfl rfl rfl ?_; ((repeat' (first | exact trivial | refine And.intro ?_ ?_)) <;> (first | rfl | (conv => rhs; whnf) <;> (first | rfl | (refine congrArg (D.int _) ?_; omega)))))⟩
          · repeat' (first | refine sC ?_ | ((with_reducible refine isAwp ?_); first | (refine sS ?_; intro Q' hn he hr) | refine sA ?_) | (refine sH ?_; clear hn he hr Q') | refine sO ?_ | ((conv => whnf); first | refine sK ?_ | (refine sB ?_; repeat' (refine sb2 ?_ ?_ <;> intro hb <;> try exact cls)) | (refine ElemS.the hx1 ?_) | (refine ElemS.the hx2 ?_) | (refine InS.nat (by rw [List.length_map]; omega) ?_) | refine sP ?_ | refine sD ?_))
            exact ⟨i + 1, b, ⟨by omega, by omega⟩, by omega, (by refine weak_to rfl rfl rfl ?_; ((repeat' (first | exact trivial | refine And.intro ?_ ?_)) <;> (first | rfl | (conv => rhs; whnf) <;> (first | rfl | (refine congrArg (D.int _) ?_; omega)))))⟩
        · obtain ⟨x1, hx1⟩ : ∃ x, L[b]? = some x := ⟨_, List.getElem?_eq_getElem (by omega)⟩
          have hxb := sharesOk_at hL hx1
          have hgv := sharesOk_give hL (by omega) hx1
          rw [show (n : Int) - 1 = ((n - 1 : Nat) : Int) by omega] at hgv
          repeat' (first | refine sC ?_ | ((with_reducible refine isAwp ?_); first | (refine sS ?_; intro Q' hn he hr) | refine sA ?_) | (refine sH ?_; clear hn he hr Q') | ((conv => whnf); first | refine sK ?_ | (refine sB ?_; repeat' (refine sb2 ?_ ?_ <;> intro hb <;> try exact cls)) | (refine ElemS.the hx1 ?_) | (refine InS.nat (by rw [List.length_map]; omega) ?_) | refine sP ?_ | (refine sE ?_; intro x hx) | (refine sH ?_; clear hn he hr Q')))
          all_goals first
            | exact ⟨n - 1, L.set b (x1 + 1), R.set b (-1), ⟨hgv, restsOk_set hR b⟩, by omega, (by refine weak_to rfl rfl (by rw [List.map_set, List.map_set]; rfl) ?_; ((repeat' (first | exact trivial | refine And.intro ?_ ?_)) <;> (first | rfl | (conv => rhs; whnf) <;> (first | rfl | (refine congrArg (D.int _) ?_; omega)))))⟩
            | trace_state
theorem c_impl_WeightsAt (ps : List TProjector) (a h : Int) (hps : projsB ps = true) (hd : domeB a h = true) (hS : 0 < (wgtL ps (dirV a h)).sum) : FnC Tryz.prog 16 GS 0 [] [.sl 5 (ps.map encProjector), .int .i64 a, .int .i64 h] (fun d os => ∃ L : List Int, sharesOk ps.length 0 L ∧ d = .tup [.h 0, .int .i64 0] ∧ os = [.row 2 1 (L.map encI)]) := by
  simp only [domeB, inB, Bool.and_eq_true, decide_eq_true_eq] at hd
  have hv := hps
  have hv2 : domeB a h = true := by simp only [domeB, inB, Bool.and_eq_true, decide_eq_true_eq]; exact hd
  refine fn_rule Tryz.func16 rfl (by decide +kernel) rfl (fun w0 F0 lent β0 => ?_)
  repeat' (first | refine sC ?_ | ((with_reducible refine isAwp ?_); first | (refine sS ?_; intro Q' hn he hr) | refine sA ?_) | (refine sH ?_; clear hn he hr Q') | ((conv => whnf); first | refine sK ?_ | (refine sB ?_; repeat' (refine sb2 ?_ ?_ <;> intro hb <;> try exact cls)) | ((with_reducible refine isCall ?_); first | (refine call_pure ((c_impl_ValidProjectors ps).anyG) rfl rfl ?_) | (refine call_pure ((c_impl_isDomeUp a h).anyG) rfl rfl ?_) | (refine call_view (c_impl_sharesAt ps a h hps (by unfold i64B; omega) (by unfold i64B; omega) hS) ?_; rintro d os ⟨L, hL, rfl, rfl⟩; refine ⟨rfl, flat_one (FlatO.map fun _ => rfl), ?_⟩)) | ((with_reducible refine isRet ?_); (refine ret_pick [0] rfl rfl rfl ⟨L, hL, rfl, rfl⟩))))
  all_goals trace_state
end Go.Eng

namespace Go.Eng
open Go Go.RowKit Go.Proofs
set_option maxRecDepth 100000
structure TPlayer where
  fCues : List (TCue)
  fTime : Int
  fRate : Int
  fPlaying : Bool
def encPlayer (x : TPlayer) : List D := [.sl 6 (x.fCues.map encCue), .int .i64 x.fTime, .int .i64 x.fRate, .bool x.fPlaying]
def TPlayer.sz (x : TPlayer) : Nat := szL TCue.sz x.fCues
structure TLevel where
  fTarget : List UInt8
  fValue : Int
def encLevel (x : TLevel) : List D := [.str x.fTarget, .int .i64 x.fValue]
def TLevel.sz (x : TLevel) : Nat := x.fTarget.length
def eqTLevel (a b : TLevel) : Bool := eqStr a.fTarget b.fTarget && (eqI a.fValue b.fValue)
theorem eqTLevel_refl (x : TLevel) : eqTLevel x x = true := by simp [eqTLevel, eqI, eqStr, eqBo]
theorem cueB_nums {c : TCue} (h : cueB c = true) : (0 ≤ c.fTime ∧ c.fTime ≤ 7200000) ∧ (0 ≤ c.fValue ∧ c.fValue ≤ 1000) ∧ (0 ≤ c.fLength ∧ c.fTime + c.fLength ≤ 7200000) ∧ (c.fAction = 2 → 1 ≤ c.fLength) := by
  simp only [cueB, inB, Bool.and_eq_true, decide_eq_true_eq] at h
  obtain ⟨_, _, h1, h2, h3⟩ := h
  split at h3
  · have h4 := of_decide_eq_true h3
    exact ⟨h1, h2, by omega, fun e => by omega⟩
  · split at h3
    · have h4 := of_decide_eq_true h3
      exact ⟨h1, h2, by omega, fun e => by omega⟩
    · split at h3
      · simp only [Bool.and_eq_true, decide_eq_true_eq] at h3
        exact ⟨h1, h2, by omega, fun e => by omega⟩
      · cases h3
def endC (C : List TCue) : Int := C.foldl (fun e c => max e (c.fTime + c.fLength)) 0
theorem endC_take {C : List TCue} {k : Nat} {c : TCue} (h : C[k]? = some c) : endC (C.take (k + 1)) = max (endC (C.take k)) (c.fTime + c.fLength) := by
  unfold endC
  rw [List.take_add_one, h, Option.toList_some, List.foldl_append]
  rfl
theorem endC_bound {C : List TCue} (h : cuesB C = true) : ∀ k, k ≤ C.length → 0 ≤ endC (C.take k) ∧ endC (C.take k) ≤ 7200000 := by
  intro k
  induction k with
  | zero => intro _; exact ⟨Int.le_refl _, by show (0 : Int) ≤ 7200000; omega⟩
  | succ k ih =>
    intro hk
    obtain ⟨c, hc⟩ : ∃ c, C[k]? = some c := ⟨_, List.getElem?_eq_getElem (by omega)⟩
    rw [endC_take hc]
    have h1 := ih (by omega)
    have h2 := cueB_nums ((cues_spec h).2 k c hc).1
    omega
theorem endC_all {C : List TCue} (h : cuesB C = true) : 0 ≤ endC C ∧ endC C ≤ 7200000 := by
  have := endC_bound h C.length (Nat.le_refl _)
  rwa [List.take_length] at this
def playB (p : TPlayer) : Bool := cuesB p.fCues && (inB p.fTime 0 (endC p.fCues) && inB p.fRate 100 4000)
/-- The targets of cues, in order. -/
def targL (C : List TCue) : List (List UInt8) := C.map (·.fTarget)
def targS (C : List TCue) : List (List UInt8) := (targL C).foldl insS []
theorem targL_take {C : List TCue} {k : Nat} {c : TCue} (h : C[k]? = some c) : targL (C.take (k + 1)) = targL (C.take k) ++ [c.fTarget] := by
  unfold targL
  rw [List.take_add_one, h, Option.toList_some, List.map_append]
  rfl
/-- When the next cue of a target ends a fade, at the latest at a time. -/
def nextT (tg : List UInt8) : List TCue → Int → Int
  | [], e => e
  | c :: r, e => if c.fTarget = tg then min e c.fTime else nextT tg r e
def levF (tg : List UInt8) (t : Int) : List TCue → Int → Int
  | [], l => l
  | c :: r, l => if c.fTarget = tg ∧ c.fTime ≤ t then (if c.fAction = 2 ∧ nextT tg r t < c.fTime + c.fLength then levF tg t r (l + rnd ((c.fValue - l) * (nextT tg r t - c.fTime)) c.fLength) else levF tg t r c.fValue) else levF tg t r l
def levT (C : List TCue) (tg : List UInt8) (t : Int) : Int := levF tg t C 0
theorem nextT_low {tg : List UInt8} {b : Int} : ∀ {r : List TCue} {e : Int}, b ≤ e → (∀ c ∈ r, b ≤ c.fTime) → b ≤ nextT tg r e ∧ nextT tg r e ≤ e := by
  intro r
  induction r with
  | nil => intro e h _; exact ⟨h, Int.le_refl _⟩
  | cons c r ih =>
    intro e h hr
    unfold nextT
    split
    · have := hr c (by simp)
      omega
    · exact ih h fun x hx => hr x (by simp [hx])
theorem lev_step {l v e len : Int} (hl : 0 ≤ l ∧ l ≤ 1000) (hv : 0 ≤ v ∧ v ≤ 1000) (he : 0 ≤ e ∧ e ≤ len) (h1 : 1 ≤ len) : 0 ≤ l + rnd ((v - l) * e) len ∧ l + rnd ((v - l) * e) len ≤ 1000 := by
  by_cases h : l ≤ v
  · have h2 : 0 ≤ (v - l) * e := Int.mul_nonneg (by omega) he.1
    have h3 : (v - l) * e ≤ (v - l) * len := Int.mul_le_mul_of_nonneg_left he.2 (by omega)
    have h5 : rnd ((v - l) * e) len = (2 * ((v - l) * e) + len) / (2 * len) := by unfold rnd; rw [if_pos h2]
    have h6 : 0 ≤ (2 * ((v - l) * e) + len) / (2 * len) := Int.ediv_nonneg (by omega) (by omega)
    have h7 : (2 * ((v - l) * e) + len) / (2 * len) < v - l + 1 := by
      rw [Int.ediv_lt_iff_lt_mul (by omega), Int.add_mul]
      have e1 : (v - l) * (2 * len) = 2 * ((v - l) * len) := Int.mul_left_comm ..
      omega
    omega
  · have h2 : (v - l) * e ≤ 0 := Int.mul_nonpos_of_nonpos_of_nonneg (by omega) he.1
    have h3 : (v - l) * len ≤ (v - l) * e := Int.mul_le_mul_of_nonpos_left (by omega) he.2
    have h4 := rnd_bound (a := (v - l) * e) (b := len) (m := l - v) (by omega) (by
      have : len * (l - v) = -((v - l) * len) := by rw [Int.mul_comm, ← Int.neg_mul]; congr 1; omega
      omega) (by
      have : 0 ≤ len * (l - v) := Int.mul_nonneg (by omega) (by omega)
      omega)
    have h5 : rnd ((v - l) * e) len ≤ 0 := by
      by_cases h0 : (v - l) * e = 0
      · rw [h0, rnd_zero _ (by omega)]
        exact Int.le_refl _
      · unfold rnd
        rw [if_neg (by omega)]
        have : 0 ≤ (len - 2 * ((v - l) * e)) / (2 * len) := Int.ediv_nonneg (by omega) (by omega)
        omega
    omega
def levL (C : List TCue) (t : Int) : List TLevel := (targS C).map fun tg => ⟨tg, levT C tg t⟩
end Go.Eng

namespace Go.Eng
open Go Go.RowKit Go.Proofs
set_option maxRecDepth 100000
theorem ret_junk2 {X : Ctx} {G : Nat → Option (List D)} {pin : Nat} {st : St} {a b c : D} {post : D → List Obj → Prop} (h : RetS X G pin st (.tup [a, .junk, c]) post) : RetS X G pin st (.tup [a, b, c]) post :=
  RetS.mk fun β x w v hr hv => h.use β x w v hr (by
    obtain ⟨cs, rfl, hl, hi⟩ := hv.tup_inv
    refine .tup _ _ hl (fun i hi' => ?_)
    by_cases e : i = 1
    · subst e
      exact .ro _ _ (.junk _)
    · have := hi i hi'
      match i, e with
      | 0, _ => exact this
      | 2, _ => exact this
      | i + 3, _ => exact absurd hi' (by simp))
theorem c_impl_ShowEnd (C : List TCue) (hv : cuesB C = true) : FnC Tryz.prog 73 G0 0 [] [.sl 6 (C.map encCue)] (fun d os => d = .tup [.int .i64 (endC C), .int .i64 0] ∧ os = []) := by
  refine fn_rule Tryz.func73 rfl (by decide +kernel) rfl (fun w0 F0 lent β0 => ?_)
  repeat' (first | refine sC ?_ | ((with_reducible refine isAwp ?_); first | (refine sS ?_; intro Q' hn he hr) | refine sA ?_) | (refine sH ?_; clear hn he hr Q') | ((conv => whnf); first | refine sK ?_ | (refine sB ?_; repeat' (refine sb2 ?_ ?_ <;> intro hb <;> try exact cls)) | ((with_reducible refine isCall ?_); (refine call_pure (c_impl_ValidCues C) rfl rfl ?_)) | (refine sL ?_; intro hlen)))
  refine loop_env (fun k : Nat => [(4,.int .i64 (endC (C.take k))),(10,.sl 6 (C.map encCue)),(11,.int .i64 C.length),(12,.int .i64 k)]) (fun _ => []) (fun k => k ≤ C.length) (fun k => C.length - k) 0 (by omega) (by refine weak_to rfl rfl rfl ?_; ((repeat' (first | exact trivial | refine And.intro ?_ ?_)) <;> (first | rfl | (conv => rhs; whnf) <;> (first | rfl | (refine congrArg (D.int _) ?_; omega))))) (fun k hk Q' hn he hr => ?_)
  have hb8 := endC_bound hv k hk
  by_cases hkl : k < C.length
  · obtain ⟨c, hc⟩ : ∃ c, C[k]? = some c := ⟨_, List.getElem?_eq_getElem hkl⟩
    have hf := cueB_nums ((cues_spec hv).2 k c hc).1
    have hst := endC_take hc
    repeat' (first | refine sC ?_ | ((with_reducible refine isAwp ?_); first | (refine sS ?_; intro Q' hn he hr) | refine sA ?_) | (refine sH ?_; clear hn he hr Q') | ((conv => whnf); first | refine sK ?_ | (refine sB ?_; repeat' (refine sb2 ?_ ?_ <;> intro hb <;> try exact cls)) | (refine ElemS.the hc ?_) | refine sP ?_))
    all_goals (refine ⟨k + 1, by omega, by omega, ?_⟩; rw [hst]; exact (by refine weak_to rfl rfl rfl ?_; ((repeat' (first | exact trivial | refine And.intro ?_ ?_)) <;> (first | rfl | (conv => rhs; whnf) <;> (first | rfl | (refine congrArg (D.int _) ?_; simp only [cond_true]; omega) | (refine congrArg (D.int _) ?_; omega))))))
  · obtain rfl : k = C.length := by omega
    rw [List.take_length]
    repeat' (first | refine sC ?_ | ((with_reducible refine isAwp ?_); first | (refine sS ?_; intro Q' hn he hr) | refine sA ?_) | (refine sH ?_; clear hn he hr Q') | ((conv => whnf); first | refine sK ?_ | (refine sB ?_; repeat' (refine sb2 ?_ ?_ <;> intro hb <;> try exact cls)) | (refine ret_pick [] rfl rfl rfl ⟨?_, rfl⟩; conv => lhs; whnf) | (refine sH ?_; clear hn he hr Q')))
    all_goals rfl
theorem c_impl_ValidPlayer (p : TPlayer) (hv : cuesB p.fCues = true) : FnC Tryz.prog 71 G0 0 [] [.agg (encPlayer p)] (fun d os => d = .bool (playB p) ∧ os = []) := by
  refine fn_rule Tryz.func71 rfl (by decide +kernel) rfl (fun w0 F0 lent β0 => ?_)
  repeat' (first | refine sC ?_ | ((with_reducible refine isAwp ?_); first | (refine sS ?_; intro Q' hn he hr) | refine sA ?_) | (refine sH ?_; clear hn he hr Q') | ((conv => whnf); first | refine sK ?_ | (refine sB ?_; repeat' (first | refine sb0 ?_ | (refine sb2 ?_ ?_ <;> intro hb <;> try exact cls))) | ((with_reducible refine isCall ?_); first | (refine call_pure (c_impl_ShowEnd p.fCues hv) rfl rfl ?_) | (refine call_pure (c_within _ _ _) rfl rfl ?_)) | (refine ret_pick [] rfl rfl rfl ⟨?_, rfl⟩; conv => lhs; whnf)))
  all_goals (simp [playB, hv, *]; done)
theorem c_slices_CloneCue (a : List TCue) (hl : a.length ≤ 1048576) : FnC Tryz.prog 69 G0 0 [] [.sl 6 (a.map encCue)] (fun d os => d = .sl 6 (a.map encCue) ∧ os = []) := by
  refine fn_rule Tryz.func69 rfl (by decide +kernel) rfl (fun w0 F0 lent β0 => ?_)
  repeat' (first | refine sC ?_ | ((with_reducible refine isAwp ?_); first | (refine sS ?_; intro Q' hn he hr) | refine sA ?_) | (refine sH ?_; clear hn he hr Q') | ((conv => whnf); first | refine sK ?_ | (refine sB ?_; repeat' refine sb0 ?_) | (refine NilS.mk (fun hnil => ?_) ?_) | ((with_reducible refine isRet ?_); first | (refine ret_freeze 0 rfl (Nat.zero_le _) ?_; refine ret_pick [] rfl rfl rfl ⟨?_, rfl⟩) | (refine ret_nil 6 ?_; refine ret_pick [] rfl rfl rfl ⟨?_, rfl⟩)) | refine sP ?_))
  all_goals first | rfl | (rw [hnil]; rfl)
theorem c_impl_NewPlayer (C : List TCue) (hv : cuesB C = true) : FnC Tryz.prog 20 G0 0 [] [.sl 6 (C.map encCue)] (fun d os => d = .tup [.agg (encPlayer ⟨C, 0, 1000, false⟩), .int .i64 0] ∧ os = []) := by
  have hl := cues_len hv
  refine fn_rule Tryz.func20 rfl (by decide +kernel) rfl (fun w0 F0 lent β0 => ?_)
  repeat' (first | refine sC ?_ | ((with_reducible refine isAwp ?_); first | (refine sS ?_; intro Q' hn he hr) | refine sA ?_) | (refine sH ?_; clear hn he hr Q') | ((conv => whnf); first | refine sK ?_ | (refine sB ?_; repeat' (refine sb2 ?_ ?_ <;> intro hb <;> try exact cls)) | ((with_reducible refine isCall ?_); first | (refine call_pure (c_impl_ValidCues C) rfl rfl ?_) | (refine call_pure (c_slices_CloneCue C (by omega)) rfl rfl ?_)) | (refine ret_pick [] rfl rfl rfl ⟨?_, rfl⟩; conv => lhs; whnf)))
  all_goals rfl
theorem c_impl_switched (C : List TCue) (t r : Int) (b : Bool) (hv : playB ⟨C, t, r, b⟩ = true) (hc : cuesB C = true) : FnC Tryz.prog 70 G0 0 [] [.agg (encPlayer ⟨C, t, r, b⟩), .bool (!b)] (fun d os => d = .tup [.agg (encPlayer ⟨C, t, r, !b⟩), .int .i64 0] ∧ os = []) := by
  have hl := cues_len hc
  refine fn_rule Tryz.func70 rfl (by decide +kernel) rfl (fun w0 F0 lent β0 => ?_)
  repeat' (first | refine sC ?_ | ((with_reducible refine isAwp ?_); first | (refine sS ?_; intro Q' hn he hr) | refine sA ?_) | (refine sH ?_; clear hn he hr Q') | ((conv => whnf); first | refine sK ?_ | (refine sB ?_; repeat' (refine sb2 ?_ ?_ <;> intro hb <;> try exact cls)) | ((with_reducible refine isCall ?_); first | (refine call_pure (c_impl_ValidPlayer ⟨C, t, r, b⟩ hc) rfl rfl ?_) | (refine call_pure (c_slices_CloneCue C (by omega)) rfl rfl ?_)) | (refine ret_pick [] rfl rfl rfl ⟨?_, rfl⟩; conv => lhs; whnf)))
  all_goals first | rfl | (cases b <;> cases hb <;> rfl) | trace_state
theorem c_impl_PlayOn (C : List TCue) (t r : Int) (hv : playB ⟨C, t, r, false⟩ = true) (hc : cuesB C = true) : FnC Tryz.prog 21 G0 0 [] [.agg (encPlayer ⟨C, t, r, false⟩)] (fun d os => d = .tup [.agg (encPlayer ⟨C, t, r, true⟩), .int .i64 0] ∧ os = []) := by
  refine fn_rule Tryz.func21 rfl (by decide +kernel) rfl (fun w0 F0 lent β0 => ?_)
  repeat' (first | refine sC ?_ | ((with_reducible refine isAwp ?_); first | (refine sS ?_; intro Q' hn he hr) | refine sA ?_) | (refine sH ?_; clear hn he hr Q') | ((conv => whnf); first | refine sK ?_ | ((with_reducible refine isCall ?_); (refine call_pure (c_impl_switched C t r false hv hc) rfl rfl ?_)) | (refine ret_pick [] rfl rfl rfl ⟨?_, rfl⟩; conv => lhs; whnf)))
  all_goals rfl
theorem c_impl_SeekTo (C : List TCue) (t r s : Int) (b : Bool) (hv : playB ⟨C, t, r, b⟩ = true) (hc : cuesB C = true) (hs : 0 ≤ s ∧ s ≤ endC C) : FnC Tryz.prog 24 G0 0 [] [.agg (encPlayer ⟨C, t, r, b⟩), .int .i64 s] (fun d os => d = .tup [.agg (encPlayer ⟨C, s, r, b⟩), .int .i64 0] ∧ os = []) := by
  have hl := cues_len hc
  have hv2 : inB s 0 (endC C) = true := by simp only [inB, decide_eq_true_eq]; exact hs
  refine fn_rule Tryz.func24 rfl (by decide +kernel) rfl (fun w0 F0 lent β0 => ?_)
  repeat' (first | refine sC ?_ | ((with_reducible refine isAwp ?_); first | (refine sS ?_; intro Q' hn he hr) | refine sA ?_) | (refine sH ?_; clear hn he hr Q') | ((conv => whnf); first | refine sK ?_ | (refine sB ?_; repeat' (refine sb2 ?_ ?_ <;> intro hb <;> try exact cls)) | ((with_reducible refine isCall ?_); first | (refine call_pure (c_impl_ValidPlayer ⟨C, t, r, b⟩ hc) rfl rfl ?_) | (refine call_pure (c_impl_ShowEnd C hc) rfl rfl ?_) | (refine call_pure (c_within _ _ _) rfl rfl ?_) | (refine call_pure (c_slices_CloneCue C (by omega)) rfl rfl ?_)) | (refine ret_pick [] rfl rfl rfl ⟨?_, rfl⟩; conv => lhs; whnf)))
  all_goals first | rfl | (exfalso; omega) | trace_state
set_option maxHeartbeats 8000000 in
theorem c_impl_TickBy (C : List TCue) (m : Int) (hv : cuesB C = true) (hm : 0 ≤ m ∧ m ≤ 9000) : FnC Tryz.prog 22 G0 0 [] [.agg [.sl 6 (C.map encCue), .int .i64 0, .int .i64 1000, .bool true], .int .i64 m] (fun d os => (∃ (t : Int) (b : Bool), (0 ≤ t ∧ t ≤ endC C) ∧ d = .tup [.agg (encPlayer ⟨C, t, 1000, b⟩), .junk, .int .i64 0]) ∧ os = []) := by
  have hl := cues_len hv
  have hE := endC_all hv
  have hv2 : playB ⟨C, 0, 1000, true⟩ = true := by
    simp only [playB, hv, inB, Bool.true_and, Bool.and_eq_true, decide_eq_true_eq]
    omega
  have hv3 : inB m 0 600000 = true := by simp only [inB, decide_eq_true_eq]; omega
  have hq : (m * 1000).tdiv 1000 = m := Int.mul_tdiv_cancel m (by omega)
  by_cases hge : endC C ≤ m
  · refine fn_rule Tryz.func22 rfl (by decide +kernel) rfl (fun w0 F0 lent β0 => ?_)
    repeat' (first | refine sC ?_ | ((with_reducible refine isAwp ?_); first | (refine sS ?_; intro Q' hn he hr) | refine sA ?_) | (refine sH ?_; clear hn he hr Q') | refine sO ?_ | ((conv => whnf); first | refine sK ?_ | (refine sB ?_; repeat' (first | refine sb0 ?_ | (refine sb2 ?_ ?_ <;> intro hb <;> try exact cls))) | (with_reducible refine ArithS.to m hq (wrap64 (by omega)) ?_) | (refine AskS.mk ⟨by decide, ?_⟩) | ((with_reducible refine isCall ?_); first | (refine call_pure (c_impl_ValidPlayer ⟨C, 0, 1000, true⟩ hv) rfl rfl ?_) | (refine call_pure (c_impl_ShowEnd C hv) rfl rfl ?_) | (refine call_pure (c_within _ _ _) rfl rfl ?_) | (refine call_pure (c_slices_CloneCue C (by omega)) rfl rfl ?_)) | refine sP ?_ | (refine sL ?_; intro hlen) | refine sD ?_))
    all_goals first | (exfalso; omega) | skip
    refine loop_env2 (fun (k : Nat) (out : List (List UInt8)) => [(2,.hp 0 0),(4,.hp 1 0),(9,.int .i64 0),(10,.int .i64 (7200001)),(11,.h 2),(55,.sl 6 (C.map encCue)),(56,.int .i64 C.length),(57,.int .i64 k)]) (fun k out => [.box [.sl 6 (C.map encCue), .int .i64 (endC C), .int .i64 1000, .bool false], .box [nilV, .int .i64 0, .int .i64 0, .bool false], .row 9 1 (out.map encS)]) (fun k out => k ≤ C.length ∧ out.length ≤ k) (fun k out => C.length - k) 0 [] ⟨by omega, by simp⟩ (by refine Weak.trans (weak_adopt 11 9 1 rfl rfl) ?_; refine weak_to rfl rfl (by first | rfl | (rw [Int.zero_add]; rfl)) ?_; exact ⟨rfl, rfl, rfl, (by first | rfl | ((conv => rhs; whnf); refine congrArg (D.int _) ?_; omega)), rfl, rfl, rfl, rfl, trivial⟩) (fun k out hk Q' hn he hr => ?_)
    obtain ⟨hk1, hk2⟩ := hk
    by_cases hkl : k < C.length
    · obtain ⟨c, hc⟩ : ∃ c, C[k]? = some c := ⟨_, List.getElem?_eq_getElem hkl⟩
      repeat' (first | refine sC ?_ | ((with_reducible refine isAwp ?_); first | (refine sS ?_; intro Q' hn he hr) | refine sA ?_) | (refine sH ?_; clear hn he hr Q') | ((conv => whnf); first | refine sK ?_ | (refine sB ?_; repeat' (first | refine sb0 ?_ | (refine sb2 ?_ ?_ <;> intro hb <;> try exact cls))) | (refine ElemS.the hc ?_) | refine sP ?_))
      all_goals first
        | (refine ⟨k + 1, out, ⟨by omega, by omega⟩, by omega, ?_⟩; exact (by refine weak_to rfl rfl rfl ?_; ((repeat' (first | exact trivial | refine And.intro ?_ ?_)) <;> (first | rfl | (conv => rhs; whnf) <;> (first | rfl | (refine congrArg (D.int _) ?_; omega))))))
        | (refine ⟨k + 1, out ++ [c.fId], ⟨by omega, by simp; omega⟩, by omega, ?_⟩; exact (by refine weak_to rfl rfl (by rw [List.map_append]; rfl) ?_; ((repeat' (first | exact trivial | refine And.intro ?_ ?_)) <;> (first | rfl | (conv => rhs; whnf) <;> (first | rfl | (refine congrArg (D.int _) ?_; omega))))))
        | trace_state
    · repeat' (first | refine sC ?_ | ((with_reducible refine isAwp ?_); first | (refine sS ?_; intro Q' hn he hr) | refine sA ?_) | (refine sH ?_; clear hn he hr Q') | refine sO ?_ | ((conv => whnf); first | refine sK ?_ | (refine sB ?_; repeat' (first | refine sb0 ?_ | (refine sb2 ?_ ?_ <;> intro hb <;> try exact cls))) | ((with_reducible refine isRet ?_); (refine ret_junk2 ?_; refine ret_pick [] rfl rfl rfl ⟨⟨endC C, false, by omega, rfl⟩, rfl⟩)) | refine sP ?_ | (refine sE ?_; intro x hx) | (refine sF ?_; intro i y hi hy) | (refine sI ?_; intro i hi) | (refine sL ?_; intro hlen) | (refine sQ ?_; intro c hc hcm; try simp only [lnM, lnA, lnC, lnN] at hc) | (refine sX ?_; intro i1 i2 hi1 hi2 hj1 hj2; try simp only [cutL, lnM, lnA, lnC, lnN, lnT, lnD, lnR] at hi1 hi2 hj2) | refine sD ?_ | (refine ret_pick [] rfl rfl rfl ⟨?_, rfl⟩; conv => lhs; whnf) | (refine ret_pick [0] rfl rfl rfl ⟨rfl, ?_⟩) | (refine sH ?_; clear hn he hr Q')))
      all_goals trace_state
  · refine fn_rule Tryz.func22 rfl (by decide +kernel) rfl (fun w0 F0 lent β0 => ?_)
    repeat' (first | refine sC ?_ | ((with_reducible refine isAwp ?_); first | (refine sS ?_; intro Q' hn he hr) | refine sA ?_) | (refine sH ?_; clear hn he hr Q') | refine sO ?_ | ((conv => whnf); first | refine sK ?_ | (refine sB ?_; repeat' (first | refine sb0 ?_ | (refine sb2 ?_ ?_ <;> intro hb <;> try exact cls))) | (with_reducible refine ArithS.to m hq (wrap64 (by omega)) ?_) | (refine AskS.mk ⟨by decide, ?_⟩) | ((with_reducible refine isCall ?_); first | (refine call_pure (c_impl_ValidPlayer ⟨C, 0, 1000, true⟩ hv) rfl rfl ?_) | (refine call_pure (c_impl_ShowEnd C hv) rfl rfl ?_) | (refine call_pure (c_within _ _ _) rfl rfl ?_) | (refine call_pure (c_slices_CloneCue C (by omega)) rfl rfl ?_)) | refine sP ?_ | (refine sL ?_; intro hlen) | refine sD ?_))
    all_goals first | (exfalso; omega) | skip
    refine loop_env2 (fun (k : Nat) (out : List (List UInt8)) => [(2,.hp 0 0),(4,.hp 1 0),(9,.int .i64 0),(10,.int .i64 (m)),(11,.h 2),(55,.sl 6 (C.map encCue)),(56,.int .i64 C.length),(57,.int .i64 k)]) (fun k out => [.box [.sl 6 (C.map encCue), .int .i64 (m), .int .i64 1000, .bool true], .box [nilV, .int .i64 0, .int .i64 0, .bool false], .row 9 1 (out.map encS)]) (fun k out => k ≤ C.length ∧ out.length ≤ k) (fun k out => C.length - k) 0 [] ⟨by omega, by simp⟩ (by refine Weak.trans (weak_adopt 11 9 1 rfl rfl) ?_; refine weak_to rfl rfl (by first | rfl | (rw [Int.zero_add]; rfl)) ?_; exact ⟨rfl, rfl, rfl, (by first | rfl | ((conv => rhs; whnf); refine congrArg (D.int _) ?_; omega)), rfl, rfl, rfl, rfl, trivial⟩) (fun k out hk Q' hn he hr => ?_)
    obtain ⟨hk1, hk2⟩ := hk
    by_cases hkl : k < C.length
    · obtain ⟨c, hc⟩ : ∃ c, C[k]? = some c := ⟨_, List.getElem?_eq_getElem hkl⟩
      repeat' (first | refine sC ?_ | ((with_reducible refine isAwp ?_); first | (refine sS ?_; intro Q' hn he hr) | refine sA ?_) | (refine sH ?_; clear hn he hr Q') | ((conv => whnf); first | refine sK ?_ | (refine sB ?_; repeat' (first | refine sb0 ?_ | (refine sb2 ?_ ?_ <;> intro hb <;> try exact cls))) | (refine ElemS.the hc ?_) | refine sP ?_))
      all_goals first
        | (refine ⟨k + 1, out, ⟨by omega, by omega⟩, by omega, ?_⟩; exact (by refine weak_to rfl rfl rfl ?_; ((repeat' (first | exact trivial | refine And.intro ?_ ?_)) <;> (first | rfl | (conv => rhs; whnf) <;> (first | rfl | (refine congrArg (D.int _) ?_; omega))))))
        | (refine ⟨k + 1, out ++ [c.fId], ⟨by omega, by simp; omega⟩, by omega, ?_⟩; exact (by refine weak_to rfl rfl (by rw [List.map_append]; rfl) ?_; ((repeat' (first | exact trivial | refine And.intro ?_ ?_)) <;> (first | rfl | (conv => rhs; whnf) <;> (first | rfl | (refine congrArg (D.int _) ?_; omega))))))
        | trace_state
    · repeat' (first | refine sC ?_ | ((with_reducible refine isAwp ?_); first | (refine sS ?_; intro Q' hn he hr) | refine sA ?_) | (refine sH ?_; clear hn he hr Q') | refine sO ?_ | ((conv => whnf); first | refine sK ?_ | (refine sB ?_; repeat' (first | refine sb0 ?_ | (refine sb2 ?_ ?_ <;> intro hb <;> try exact cls))) | ((with_reducible refine isRet ?_); (refine ret_junk2 ?_; refine ret_pick [] rfl rfl rfl ⟨⟨m, true, by omega, rfl⟩, rfl⟩)) | refine sP ?_ | (refine sE ?_; intro x hx) | (refine sF ?_; intro i y hi hy) | (refine sI ?_; intro i hi) | (refine sL ?_; intro hlen) | (refine sQ ?_; intro c hc hcm; try simp only [lnM, lnA, lnC, lnN] at hc) | (refine sX ?_; intro i1 i2 hi1 hi2 hj1 hj2; try simp only [cutL, lnM, lnA, lnC, lnN, lnT, lnD, lnR] at hi1 hi2 hj2) | refine sD ?_ | (refine ret_pick [] rfl rfl rfl ⟨?_, rfl⟩; conv => lhs; whnf) | (refine ret_pick [0] rfl rfl rfl ⟨rfl, ?_⟩) | (refine sH ?_; clear hn he hr Q')))
      all_goals trace_state
end Go.Eng

namespace Go.Eng
open Go Go.RowKit Go.Proofs
set_option maxRecDepth 100000
theorem c_r8Wide_1 (code : List UInt8) (n : Int) (hn : 2 ≤ n ∧ n ≤ 1048576) : ∃ z : Int, 0 ≤ z ∧ z < n ∧ FnC Tryz.prog 23 G0 0 [] [.sl 1 (code.map byteE), .int .i64 1, .int .i64 n] (fun d os => d = .int .i64 z ∧ os = []) := by
  obtain ⟨u, hu1, hu2, hu3⟩ := c_r8At_at code 1 256 (by omega) (by omega)
  obtain ⟨v, hv1, hv2, hv3⟩ := c_r8At_at code 2 256 (by omega) (by omega)
  refine ⟨Int.tmod (256 * u + v) n, Int.tmod_nonneg _ (by omega), Int.tmod_lt_of_pos _ (by omega), ?_⟩
  refine fn_rule Tryz.func23 rfl (by decide +kernel) rfl (fun w0 F0 lent β0 => ?_)
  repeat' (first | refine sC ?_ | ((with_reducible refine isAwp ?_); first | (refine sS ?_; intro Q' hn he hr) | refine sA ?_) | (refine sH ?_; clear hn he hr Q') | ((conv => whnf); first | refine sK ?_ | (refine AskS.mk ⟨by omega, ?_⟩) | ((with_reducible refine isCall ?_); first | (refine call_pure (hu3) rfl rfl ?_) | (refine call_pure (hv3) rfl rfl ?_)) | refine sP ?_ | (refine ret_pick [] rfl rfl rfl ⟨?_, rfl⟩; conv => lhs; whnf)))
  all_goals rfl
theorem targL_len (C : List TCue) : (targL C).length = C.length := List.length_map _
theorem targS_len (C : List TCue) : (targS C).length ≤ C.length := by
  have h : ∀ (l a : List (List UInt8)), (l.foldl insS a).length ≤ a.length + l.length := by
    intro l
    induction l with
    | nil => intro a; exact Nat.le_refl _
    | cons x r ih =>
      intro a
      have h1 := ih (insS a x)
      have h2 : (insS a x).length ≤ a.length + 1 := by
        by_cases h3 : a[insAt Op.bytesLess a x]? = some x
        · rw [insS_have h3]; omega
        · rw [insS_new (fun y hy e => h3 (by rw [hy, e]))]
          simp
          omega
      simp only [List.foldl_cons, List.length_cons]
      omega
  have := h (targL C) []
  rw [targL_len] at this
  simpa [targS] using this
set_option maxHeartbeats 8000000 in
theorem c_impl_TargetsOf (C : List TCue) (hv : cuesB C = true) : FnC Tryz.prog 74 G0 0 [] [.sl 6 (C.map encCue)] (fun d os => d = .tup [.sl 1 ((targS C).map encS), .int .i64 0] ∧ os = []) := by
  have hl := cues_len hv
  have hll := targL_len C
  have hms : ((targL C).mergeSort fun x y => decide (x ≤ y)).length = (targL C).length := List.length_mergeSort _
  have hw : targS C = Lib.compact ((targL C).mergeSort fun x y => decide (x ≤ y)) := (words_sorted _).symm
  rw [hw]
  refine fn_rule Tryz.func74 rfl (by decide +kernel) rfl (fun w0 F0 lent β0 => ?_)
  repeat' (first | refine sC ?_ | ((with_reducible refine isAwp ?_); first | (refine sS ?_; intro Q' hn he hr) | refine sA ?_) | (refine sH ?_; clear hn he hr Q') | ((conv => whnf); first | refine sK ?_ | (refine sB ?_; repeat' (refine sb2 ?_ ?_ <;> intro hb <;> try exact cls)) | ((with_reducible refine isCall ?_); (refine call_pure (c_impl_ValidCues C) rfl rfl ?_)) | (refine sL ?_; intro hlen)))
  refine loop_env (fun k : Nat => [(4,.h 0),(10,.sl 6 (C.map encCue)),(11,.int .i64 C.length),(12,.int .i64 k)]) (fun k => [.row 9 1 ((targL (C.take k)).map encS)]) (fun k => k ≤ C.length) (fun k => C.length - k) 0 (by omega) (by refine Weak.trans (weak_adopt 4 9 1 rfl rfl) (weak_to rfl rfl rfl ?_); exact ⟨rfl, rfl, rfl, rfl, trivial⟩) (fun k hk Q' hn he hr => ?_)
  have hkl2 := targL_len (C.take k)
  have htl : (C.take k).length ≤ 32 := by rw [List.length_take]; omega
  by_cases hkl : k < C.length
  · obtain ⟨x, hx0⟩ : ∃ x, C[k]? = some x := ⟨_, List.getElem?_eq_getElem hkl⟩
    repeat' (first | refine sC ?_ | ((with_reducible refine isAwp ?_); first | (refine sS ?_; intro Q' hn he hr) | refine sA ?_) | (refine sH ?_; clear hn he hr Q') | ((conv => whnf); first | refine sK ?_ | (refine sB ?_; repeat' (refine sb2 ?_ ?_ <;> intro hb <;> try exact cls)) | (refine ElemS.the hx0 ?_) | refine sP ?_))
    all_goals first
      | (refine ⟨k + 1, by omega, by omega, ?_⟩
         exact (by refine weak_to rfl rfl (by rw [targL_take hx0, List.map_append]; rfl) ?_; ((repeat' (first | exact trivial | refine And.intro ?_ ?_)) <;> (first | rfl | (conv => rhs; whnf) <;> (first | rfl | (refine congrArg (D.int _) ?_; omega))))))
      | trace_state
  · obtain rfl : k = C.length := by omega
    rw [List.take_length]
    repeat' (first | refine sC ?_ | ((with_reducible refine isAwp ?_); first | (refine sS ?_; intro Q' hn he hr) | refine sA ?_) | (refine sH ?_; clear hn he hr Q') | ((conv => whnf); first | refine sK ?_ | (refine sB ?_; repeat' (refine sb2 ?_ ?_ <;> intro hb <;> try exact cls)) | ((with_reducible refine isCall ?_); first | (refine call_lend 0 rfl (c_slices_Sort (targL C) (by omega)) ?_; rintro d os ⟨rfl, rfl⟩; refine ⟨_, _, rfl, ?_⟩) | (refine call_mv 0 rfl (c_slices_Compact _ (by omega)) rfl (flat_one (FlatO.map fun _ => rfl)) (by first | exact (rfl : _ = 0) | exact (rfl : _ = 1) | exact (rfl : _ = 2) | exact (rfl : _ = 3) | exact (rfl : _ = 4) | exact (rfl : _ = 5) | exact (rfl : _ = 6) | exact (rfl : _ = 7) | exact (rfl : _ = 8) | exact (rfl : _ = 9) | exact (rfl : _ = 10) | exact (rfl : _ = 11) | exact (rfl : _ = 12) | exact (rfl : _ = 13) | exact (rfl : _ = 14) | exact (rfl : _ = 15) | exact (rfl : _ = 16) | exact (rfl : _ = 17) | exact (rfl : _ = 18) | exact (rfl : _ = 19) | exact (rfl : _ = 20) | exact (rfl : _ = 21) | exact (rfl : _ = 22) | exact (rfl : _ = 23) | exact (rfl : _ = 24) | exact (rfl : _ = 25) | exact (rfl : _ = 26) | exact (rfl : _ = 27) | exact (rfl : _ = 28) | exact (rfl : _ = 29) | exact (rfl : _ = 30) | exact (rfl : _ = 31) | exact (rfl : _ = 32) | exact (rfl : _ = 33) | exact (rfl : _ = 34) | exact (rfl : _ = 35) | exact (rfl : _ = 36) | exact (rfl : _ = 37) | exact (rfl : _ = 38) | exact (rfl : _ = 39)) ?_)) | ((with_reducible refine isRet ?_); (refine ret_freeze 1 rfl (Nat.zero_le _) ?_; refine ret_pick [] rfl rfl rfl ⟨?_, rfl⟩)) | (refine sH ?_; clear hn he hr Q')))
    all_goals rfl
set_option maxHeartbeats 16000000 in
theorem c_impl_levelAt (C : List TCue) (tg : List UInt8) (t : Int) (hv : cuesB C = true) (ht : 0 ≤ t ∧ t ≤ 7200000) : FnC Tryz.prog 75 G0 0 [] [.sl 6 (C.map encCue), .str tg, .int .i64 t] (fun d os => d = .int .i64 (levT C tg t) ∧ os = []) := by
  have hl := cues_len hv
  have hsp := (cues_spec hv).2
  refine fn_rule Tryz.func75 rfl (by decide +kernel) rfl (fun w0 F0 lent β0 => ?_)
  repeat' (first | refine sC ?_ | ((with_reducible refine isAwp ?_); first | (refine sS ?_; intro Q' hn he hr) | refine sA ?_) | (refine sH ?_; clear hn he hr Q') | ((conv => whnf); first | refine sK ?_ | (refine sL ?_; intro hlen)))
  refine loop_env2 (fun (k : Nat) (l : Int) => [(0,.sl 6 (C.map encCue)),(1,.str tg),(2,.int .i64 t),(7,.int .i64 l),(13,.sl 6 (C.map encCue)),(14,.int .i64 C.length),(15,.int .i64 k)]) (fun _ _ => []) (fun k l => k ≤ C.length ∧ levF tg t (C.drop k) l = levT C tg t ∧ 0 ≤ l ∧ l ≤ 1000) (fun k _ => C.length - k) 0 0 ⟨by omega, rfl, by omega, by omega⟩ (by refine weak_to rfl rfl rfl ?_; ((repeat' (first | exact trivial | refine And.intro ?_ ?_)) <;> (first | rfl | (conv => rhs; whnf) <;> (first | rfl | (refine congrArg (D.int _) ?_; omega))))) (fun k l hk Q' hn he hr => ?_)
  obtain ⟨hk1, hk2, hk3, hk4⟩ := hk
  by_cases hkl : k < C.length
  · obtain ⟨c, hc⟩ : ∃ c, C[k]? = some c := ⟨_, List.getElem?_eq_getElem hkl⟩
    have hcf := cueB_nums (hsp k c hc).1
    rw [drop_at hc, levF] at hk2
    by_cases hca : c.fTarget = tg ∧ c.fTime ≤ t
    · obtain ⟨hca1, hca2⟩ := hca
      rw [if_pos ⟨hca1, hca2⟩] at hk2
      have hlow : ∀ y ∈ C.drop (k + 1), c.fTime ≤ y.fTime := fun y hy => by
        obtain ⟨j, hj⟩ := List.getElem?_of_mem hy
        rw [List.getElem?_drop] at hj
        have := ((hsp _ y hj).2 k c (by omega) hc).1
        simp only [ltCue, Bool.or_eq_true, Bool.and_eq_true, decide_eq_true_eq] at this
        omega
      have hnt := nextT_low (tg := tg) (b := c.fTime) (r := C.drop (k + 1)) (e := t) hca2 hlow
      repeat' (first | refine sC ?_ | ((with_reducible refine isAwp ?_); first | (refine sS ?_; intro Q' hn he hr) | refine sA ?_) | (refine sH ?_; clear hn he hr Q') | ((conv => whnf); first | refine sK ?_ | (refine sB ?_; repeat' (first | refine sb0 ?_ | (refine sb2 ?_ ?_ <;> intro hb <;> try exact cls))) | (refine ElemS.the hc ?_) | (refine ArithS.to ((k + 1 : Nat) : Int) (by omega) (wrap64 (by omega)) ?_) | (refine sL ?_; intro hlen) | (refine sX ?_; intro i1 i2 hi1 hi2 hj1 hj2; try simp only [cutL, lnM, lnA, lnC, lnN, lnT, lnD, lnR] at hi1 hi2 hj2) | (refine sH ?_; clear hn he hr Q')))
      all_goals first | (exfalso; exact absurd hca1 (by assumption)) | (exfalso; omega) | skip
      have hR : (C.map encCue).drop (k + 1) = (C.drop (k + 1)).map encCue := List.map_drop.symm
      have hRl : (C.drop (k + 1)).length ≤ 32 := by rw [List.length_drop]; omega
      have hprod : ∀ e : Int, c.fTime ≤ e → e ≤ t → -7200000000 ≤ (c.fValue - l) * (e - c.fTime) ∧ (c.fValue - l) * (e - c.fTime) ≤ 7200000000 := fun e h1 h2 => by
        by_cases h3 : l ≤ c.fValue
        · have h4 : 0 ≤ (c.fValue - l) * (e - c.fTime) := Int.mul_nonneg (by omega) (by omega)
          have h5 : (c.fValue - l) * (e - c.fTime) ≤ 1000 * 7200000 := Int.mul_le_mul (by omega) (by omega) (by omega) (by omega)
          omega
        · have h4 : 0 ≤ (l - c.fValue) * (e - c.fTime) := Int.mul_nonneg (by omega) (by omega)
          have h5 : (l - c.fValue) * (e - c.fTime) ≤ 1000 * 7200000 := Int.mul_le_mul (by omega) (by omega) (by omega) (by omega)
          have h6 : (c.fValue - l) * (e - c.fTime) = -((l - c.fValue) * (e - c.fTime)) := by rw [← Int.neg_mul]; congr 1; omega
          omega
      refine loop_env (fun j : Nat => [(0,.sl 6 (C.map encCue)),(1,.str tg),(2,.int .i64 t),(7,.int .i64 l),(8,.int .i64 k),(9,.hp 0 0),(10,.int .i64 t),(13,.sl 6 (C.map encCue)),(14,.int .i64 C.length),(15,.int .i64 k),(34,.sl 6 ((C.drop (k + 1)).map encCue)),(35,.int .i64 (C.drop (k + 1)).length),(36,.int .i64 j)]) (fun _ => [.box (encCue c)]) (fun j => j ≤ (C.drop (k + 1)).length ∧ nextT tg ((C.drop (k + 1)).drop j) t = nextT tg (C.drop (k + 1)) t) (fun j => (C.drop (k + 1)).length - j) 0 ⟨Nat.zero_le _, rfl⟩ (by refine weak_to rfl rfl rfl ?_; ((repeat' (first | exact trivial | refine And.intro ?_ ?_)) <;> (first | rfl | (conv => rhs; whnf) <;> (first | rfl | (obtain rfl : i1 = k + 1 := (by omega); exact congrArg (D.sl 6) hR.symm) | (obtain rfl : i1 = k + 1 := (by omega); refine congrArg (D.int _) ?_; rw [← List.length_map (f := encCue), ← hR]; rfl) | (refine congrArg (D.int _) ?_; omega))))) (fun j hj Q' hn he hr => ?_)
      generalize hRd : C.drop (k + 1) = R at *
      obtain ⟨hj1, hj2⟩ := hj
      by_cases hjl : j < R.length
      · obtain ⟨y, hy0⟩ : ∃ y, R[j]? = some y := ⟨_, List.getElem?_eq_getElem hjl⟩
        rw [drop_at hy0, nextT] at hj2
        by_cases hyt : y.fTarget = tg
        · rw [if_pos hyt] at hj2
          have hE : (bif false then if y.fTime > t then y.fTime else t else if y.fTime < t then y.fTime else t) = nextT tg R t := by rw [← hj2]; show (if y.fTime < t then y.fTime else t) = min t y.fTime; omega
          have hp1 := hprod (bif false then if y.fTime > t then y.fTime else t else if y.fTime < t then y.fTime else t) (by omega) (by omega)
          have hls : c.fAction = 2 → (bif false then if y.fTime > t then y.fTime else t else if y.fTime < t then y.fTime else t) < c.fTime + c.fLength → 0 ≤ l + rnd ((c.fValue - l) * ((bif false then if y.fTime > t then y.fTime else t else if y.fTime < t then y.fTime else t) - c.fTime)) c.fLength ∧ l + rnd ((c.fValue - l) * ((bif false then if y.fTime > t then y.fTime else t else if y.fTime < t then y.fTime else t) - c.fTime)) c.fLength ≤ 1000 := fun h1 h2 => lev_step ⟨hk3, hk4⟩ hcf.2.1 ⟨by omega, by omega⟩ (hcf.2.2.2 h1)
          repeat' (first | refine sC ?_ | ((with_reducible refine isAwp ?_); first | (refine sS ?_; intro Q' hn he hr) | refine sA ?_) | (refine sH ?_; clear hn he hr Q') | ((conv => whnf); first | refine sK ?_ | (refine sB ?_; repeat' (first | refine sb0 ?_ | (refine sb2 ?_ ?_ <;> intro hb <;> try exact cls))) | (refine ElemS.the hy0 ?_) | (refine ArithS.in64 (by have h79 := hls (by assumption) (by assumption); omega) ?_) | ((with_reducible refine isCall ?_); (refine call_pure (c_impl_nearest _ _ (by have h79 := hcf.2.2.2 (by assumption); omega) (by omega)) rfl rfl ?_)) | refine sP ?_ | (refine sH ?_; clear hn he hr Q')))
          all_goals first
            | (exfalso; exact absurd hyt (by assumption))
            | (refine ⟨k + 1, l + rnd ((c.fValue - l) * ((bif false then if y.fTime > t then y.fTime else t else if y.fTime < t then y.fTime else t) - c.fTime)) c.fLength, ⟨by omega, ?_, (hls (by assumption) (by assumption)).1, (hls (by assumption) (by assumption)).2⟩, by omega, ?_⟩
               · rw [if_pos ⟨by assumption, by rw [← hE]; assumption⟩, ← hE] at hk2
                 rw [hRd]; exact hk2
               · exact (by refine weak_to rfl rfl rfl ?_; ((repeat' (first | exact trivial | refine And.intro ?_ ?_)) <;> (first | rfl | (conv => rhs; whnf) <;> (first | rfl | (refine congrArg (D.int _) ?_; omega))))))
            | (refine ⟨k + 1, c.fValue, ⟨by omega, ?_, by omega, by omega⟩, by omega, ?_⟩
               · rw [if_neg (by rw [← hE]; omega)] at hk2
                 rw [hRd]; exact hk2
               · exact (by refine weak_to rfl rfl rfl ?_; ((repeat' (first | exact trivial | refine And.intro ?_ ?_)) <;> (first | rfl | (conv => rhs; whnf) <;> (first | rfl | (refine congrArg (D.int _) ?_; omega))))))
            | trace_state
        · rw [if_neg hyt] at hj2
          repeat' (first | refine sC ?_ | ((with_reducible refine isAwp ?_); first | (refine sS ?_; intro Q' hn he hr) | refine sA ?_) | (refine sH ?_; clear hn he hr Q') | ((conv => whnf); first | refine sK ?_ | (refine sB ?_; repeat' (first | refine sb0 ?_ | (refine sb2 ?_ ?_ <;> intro hb <;> try exact cls))) | (refine ElemS.the hy0 ?_) | refine sP ?_ | (refine sH ?_; clear hn he hr Q')))
          all_goals first
            | (exfalso; exact absurd (by assumption) hyt)
            | (refine ⟨j + 1, ⟨by omega, hj2⟩, by omega, ?_⟩; exact (by refine weak_to rfl rfl rfl ?_; ((repeat' (first | exact trivial | refine And.intro ?_ ?_)) <;> (first | rfl | (conv => rhs; whnf) <;> (first | rfl | (refine congrArg (D.int _) ?_; omega))))))
            | trace_state
      · obtain rfl : j = R.length := by omega
        rw [List.drop_length, nextT] at hj2
        have hE : t = nextT tg R t := hj2
        have hp1 := hprod t (by omega) (by omega)
        have hls : c.fAction = 2 → t < c.fTime + c.fLength → 0 ≤ l + rnd ((c.fValue - l) * (t - c.fTime)) c.fLength ∧ l + rnd ((c.fValue - l) * (t - c.fTime)) c.fLength ≤ 1000 := fun h1 h2 => lev_step ⟨hk3, hk4⟩ hcf.2.1 ⟨by omega, by omega⟩ (hcf.2.2.2 h1)
        repeat' (first | refine sC ?_ | ((with_reducible refine isAwp ?_); first | (refine sS ?_; intro Q' hn he hr) | refine sA ?_) | (refine sH ?_; clear hn he hr Q') | ((conv => whnf); first | refine sK ?_ | (refine sB ?_; repeat' (first | refine sb0 ?_ | (refine sb2 ?_ ?_ <;> intro hb <;> try exact cls))) | (refine ArithS.in64 (by have h79 := hls (by assumption) (by assumption); omega) ?_) | ((with_reducible refine isCall ?_); (refine call_pure (c_impl_nearest _ _ (by have h79 := hcf.2.2.2 (by assumption); omega) (by omega)) rfl rfl ?_)) | refine sP ?_ | (refine sH ?_; clear hn he hr Q')))
        all_goals first
          | (refine ⟨k + 1, l + rnd ((c.fValue - l) * (t - c.fTime)) c.fLength, ⟨by omega, ?_, (hls (by assumption) (by assumption)).1, (hls (by assumption) (by assumption)).2⟩, by omega, ?_⟩
             · rw [if_pos ⟨by assumption, by rw [← hE]; assumption⟩, ← hE] at hk2
               rw [hRd]; exact hk2
             · exact (by refine weak_to rfl rfl rfl ?_; ((repeat' (first | exact trivial | refine And.intro ?_ ?_)) <;> (first | rfl | (conv => rhs; whnf) <;> (first | rfl | (refine congrArg (D.int _) ?_; omega))))))
          | (refine ⟨k + 1, c.fValue, ⟨by omega, ?_, by omega, by omega⟩, by omega, ?_⟩
             · rw [if_neg (by rw [← hE]; omega)] at hk2
               rw [hRd]; exact hk2
             · exact (by refine weak_to rfl rfl rfl ?_; ((repeat' (first | exact trivial | refine And.intro ?_ ?_)) <;> (first | rfl | (conv => rhs; whnf) <;> (first | rfl | (refine congrArg (D.int _) ?_; omega))))))
          | trace_state
    · rw [if_neg hca] at hk2
      repeat' (first | refine sC ?_ | ((with_reducible refine isAwp ?_); first | (refine sS ?_; intro Q' hn he hr) | refine sA ?_) | (refine sH ?_; clear hn he hr Q') | ((conv => whnf); first | refine sK ?_ | (refine sB ?_; repeat' (first | refine sb0 ?_ | (refine sb2 ?_ ?_ <;> intro hb <;> try exact cls))) | (refine ElemS.the hc ?_) | refine sP ?_ | (refine sL ?_; intro hlen) | (refine sX ?_; intro i1 i2 hi1 hi2 hj1 hj2; try simp only [cutL, lnM, lnA, lnC, lnN, lnT, lnD, lnR] at hi1 hi2 hj2) | (refine sH ?_; clear hn he hr Q')))
      all_goals first
        | (exfalso; apply hca; constructor <;> (first | assumption | omega))
        | (refine ⟨k + 1, l, ⟨by omega, hk2, by omega, by omega⟩, by omega, ?_⟩; exact (by refine weak_to rfl rfl rfl ?_; ((repeat' (first | exact trivial | refine And.intro ?_ ?_)) <;> (first | rfl | (conv => rhs; whnf) <;> (first | rfl | (refine congrArg (D.int _) ?_; omega))))))
        | trace_state
  · obtain rfl : k = C.length := by omega
    rw [List.drop_length, levF] at hk2
    repeat' (first | refine sC ?_ | ((with_reducible refine isAwp ?_); first | (refine sS ?_; intro Q' hn he hr) | refine sA ?_) | (refine sH ?_; clear hn he hr Q') | ((conv => whnf); first | refine sK ?_ | (refine sB ?_; repeat' (refine sb2 ?_ ?_ <;> intro hb <;> try exact cls)) | (refine ret_pick [] rfl rfl rfl ⟨?_, rfl⟩; conv => lhs; whnf) | (refine sH ?_; clear hn he hr Q')))
    all_goals (rw [hk2])
set_option maxHeartbeats 8000000 in
theorem c_impl_LevelsOf (C : List TCue) (t r : Int) (b : Bool) (hc : cuesB C = true) (ht : 0 ≤ t ∧ t ≤ endC C) (hv : playB ⟨C, t, r, b⟩ = true) : FnC Tryz.prog 25 G0 0 [] [.agg (encPlayer ⟨C, t, r, b⟩)] (fun d os => d = .tup [.h 0, .int .i64 0] ∧ os = [.row 71 2 ((levL C t).map encLevel)]) := by
  have hl := cues_len hc
  have hE := endC_all hc
  have hsl := targS_len C
  refine fn_rule Tryz.func25 rfl (by decide +kernel) rfl (fun w0 F0 lent β0 => ?_)
  repeat' (first | refine sC ?_ | ((with_reducible refine isAwp ?_); first | (refine sS ?_; intro Q' hn he hr) | refine sA ?_) | (refine sH ?_; clear hn he hr Q') | ((conv => whnf); first | refine sK ?_ | (refine sB ?_; repeat' (refine sb2 ?_ ?_ <;> intro hb <;> try exact cls)) | ((with_reducible refine isCall ?_); first | (refine call_pure (c_impl_ValidPlayer ⟨C, t, r, b⟩ hc) rfl rfl ?_) | (refine call_pure (c_impl_TargetsOf C hc) rfl rfl ?_)) | (refine sL ?_; intro hlen)))
  refine loop_env (fun k : Nat => [(1,.hp 0 0),(6,.h 1),(18,.sl 1 ((targS C).map encS)),(19,.int .i64 (targS C).length),(20,.int .i64 k)]) (fun k => [.box (encPlayer ⟨C, t, r, b⟩), .row 71 2 ((((targS C).take k).map fun tg => (⟨tg, levT C tg t⟩ : TLevel)).map encLevel)]) (fun k => k ≤ (targS C).length) (fun k => (targS C).length - k) 0 (by omega) (by refine Weak.trans (weak_adopt 6 71 2 rfl rfl) ?_; refine weak_to rfl rfl rfl ?_; exact ⟨rfl, rfl, rfl, rfl, rfl, trivial⟩) (fun k hk Q' hn he hr => ?_)
  have htl : ((targS C).take k).length ≤ 32 := by rw [List.length_take]; omega
  by_cases hkl : k < (targS C).length
  · obtain ⟨tg, htg⟩ : ∃ tg, (targS C)[k]? = some tg := ⟨_, List.getElem?_eq_getElem hkl⟩
    repeat' (first | refine sC ?_ | ((with_reducible refine isAwp ?_); first | (refine sS ?_; intro Q' hn he hr) | refine sA ?_) | (refine sH ?_; clear hn he hr Q') | ((conv => whnf); first | refine sK ?_ | (refine sB ?_; repeat' (refine sb2 ?_ ?_ <;> intro hb <;> try exact cls)) | (refine ElemS.the htg ?_) | ((with_reducible refine isCall ?_); (refine call_pure (c_impl_levelAt C tg t hc ⟨ht.1, by omega⟩) rfl rfl ?_)) | refine sP ?_))
    all_goals first
      | (refine ⟨k + 1, by omega, by omega, ?_⟩
         exact (by refine weak_to rfl rfl (by rw [List.take_add_one, htg, Option.toList_some, List.map_append, List.map_append]; rfl) ?_; ((repeat' (first | exact trivial | refine And.intro ?_ ?_)) <;> (first | rfl | (conv => rhs; whnf) <;> (first | rfl | (refine congrArg (D.int _) ?_; omega))))))
      | trace_state
  · obtain rfl : k = (targS C).length := by omega
    rw [List.take_length]
    repeat' (first | refine sC ?_ | ((with_reducible refine isAwp ?_); first | (refine sS ?_; intro Q' hn he hr) | refine sA ?_) | (refine sH ?_; clear hn he hr Q') | ((conv => whnf); first | refine sK ?_ | (refine sB ?_; repeat' (refine sb2 ?_ ?_ <;> intro hb <;> try exact cls)) | ((with_reducible refine isRet ?_); (refine ret_pick [1] rfl rfl rfl ⟨rfl, rfl⟩)) | (refine sH ?_; clear hn he hr Q')))
    all_goals trace_state
end Go.Eng
