/-
  Contracts of functions of the program and of the reference, and plain laws: a bundle of texts.
  No conditions.
-/
import Derived.Test.YtigdnelbanaieaaGreatDoorAY
import Derived.Test.YtigdnelbanaieaaGreatDoorVX
import Derived.Test.YtigdnelbanaieaaGreatDoorMF0
import Derived.Test.YtigdnelbanaieaaGreatDoorTX
import Derived.Test.YtigdnelbanaieaaGreatDoorD1
import Derived.Test.YtigdnelbanaieaaGreatDoorAX
set_option linter.unusedVariables false
set_option linter.unusedSimpArgs false
namespace Go.Eng
open Go Go.RowKit Go.Proofs
set_option maxRecDepth 100000
theorem awayV_bound (a b : TVector) : 0 ≤ awayV a b ∧ awayV a b ≤ 360000 := by
  unfold awayV
  split
  · omega
  · exact arcA_bound _ _
/-- The weight of a projector at a vector. -/
noncomputable def rawV (p : TProjector) (v : TVector) : Int := if p.fField < awayV (dirV p.fAzimuth p.fAltitude) v then 0 else (1000 * (p.fField - awayV (dirV p.fAzimuth p.fAltitude) v)).tdiv p.fField + 1
theorem rawV_no {p : TProjector} {v : TVector} (h : p.fField < awayV (dirV p.fAzimuth p.fAltitude) v) : rawV p v = 0 := by unfold rawV; rw [if_pos h]
theorem rawV_yes {p : TProjector} {v : TVector} (h : ¬ p.fField < awayV (dirV p.fAzimuth p.fAltitude) v) : rawV p v = (1000 * (p.fField - awayV (dirV p.fAzimuth p.fAltitude) v)).tdiv p.fField + 1 := by unfold rawV; rw [if_neg h]
theorem projB_facts {p : TProjector} (h : projB p = true) : (0 ≤ p.fAzimuth ∧ p.fAzimuth ≤ 359999) ∧ (-90000 ≤ p.fAltitude ∧ p.fAltitude ≤ 90000) ∧ (5000 ≤ p.fField ∧ p.fField ≤ 120000) ∧ (1 ≤ p.fPower ∧ p.fPower ≤ 1000) := by
  simp only [projB, dirB, inB, Bool.and_eq_true, decide_eq_true_eq] at h
  omega
theorem rawQ_bound {f d : Int} (hf : 5000 ≤ f ∧ f ≤ 120000) (hd : 0 ≤ d ∧ d ≤ f) : 0 ≤ (1000 * (f - d)).tdiv f ∧ (1000 * (f - d)).tdiv f ≤ 1000 := by
  rw [Int.tdiv_eq_ediv_of_nonneg (by omega)]
  refine ⟨Int.ediv_nonneg (by omega) (by omega), ?_⟩
  exact Int.ediv_le_of_le_mul (by omega) (by omega)
/-- How many projectors reach a direction. -/
noncomputable def reachN (ps : List TProjector) (a h : Int) : Nat := ps.countP fun p => decide (0 < rawV p (dirV a h))
theorem reachN_take {ps : List TProjector} {k : Nat} {p : TProjector} (hp : ps[k]? = some p) (a h : Int) : reachN (ps.take (k + 1)) a h = reachN (ps.take k) a h + if 0 < rawV p (dirV a h) then 1 else 0 := by
  unfold reachN
  rw [List.take_add_one, hp]
  by_cases hx : 0 < rawV p (dirV a h) <;> simp [hx]
theorem reachN_le (ps : List TProjector) (a h : Int) : reachN ps a h ≤ ps.length := List.countP_le_length
def encSpot (s : List Int) : List D := [.sl 1 (s.map encI)]
/-- The spots of a ring from an azimuth on; all rings from an altitude on. -/
def azimL (step h : Int) : Nat → Int → List (List Int)
  | 0, _ => []
  | n + 1, a => if a < 360000 then [a, h] :: azimL step h n (a + step) else []
def altiL (step : Int) : Nat → Int → List (List Int)
  | 0, _ => []
  | n + 1, h => if h ≤ 90000 then azimL step h 40 0 ++ altiL step n (h + step) else []
def spotsL (step : Int) : List (List Int) := altiL step 12 0
theorem azimL_go {step h a : Int} {n : Nat} (ha : a < 360000) : azimL step h (n + 1) a = [a, h] :: azimL step h n (a + step) := by simp [azimL, ha]
theorem azimL_end {step h a : Int} {n : Nat} (ha : ¬ a < 360000) : azimL step h n a = [] := by
  cases n with
  | zero => rfl
  | succ n => simp [azimL, ha]
theorem altiL_go {step h : Int} {n : Nat} (hh : h ≤ 90000) : altiL step (n + 1) h = azimL step h 40 0 ++ altiL step n (h + step) := by simp [altiL, hh]
theorem altiL_end {step h : Int} {n : Nat} (hh : ¬ h ≤ 90000) : altiL step n h = [] := by
  cases n with
  | zero => rfl
  | succ n => simp [altiL, hh]
def spotB (s : List Int) : Prop := ∃ a h, s = [a, h] ∧ (0 ≤ a ∧ a ≤ 359999) ∧ (0 ≤ h ∧ h ≤ 90000)
theorem azimL_mem {step h : Int} (hs : 0 ≤ step) (hh : 0 ≤ h ∧ h ≤ 90000) : ∀ (n : Nat) (a : Int), 0 ≤ a → ∀ s ∈ azimL step h n a, spotB s := by
  intro n
  induction n with
  | zero => intro a _ s h; cases h
  | succ n ih =>
    intro a ha s hm
    by_cases h1 : a < 360000
    · rw [azimL_go h1] at hm
      rcases List.mem_cons.1 hm with rfl | hm
      · exact ⟨a, h, rfl, by omega, hh⟩
      · exact ih _ (by omega) s hm
    · rw [azimL_end h1] at hm; cases hm
theorem altiL_mem {step : Int} (hs : 0 ≤ step) : ∀ (n : Nat) (h : Int), 0 ≤ h → ∀ s ∈ altiL step n h, spotB s := by
  intro n
  induction n with
  | zero => intro h _ s hm; cases hm
  | succ n ih =>
    intro h hh s hm
    by_cases h1 : h ≤ 90000
    · rw [altiL_go h1] at hm
      rcases List.mem_append.1 hm with hm | hm
      · exact azimL_mem hs ⟨hh, h1⟩ 40 0 (by omega) s hm
      · exact ih _ (by omega) s hm
    · rw [altiL_end h1] at hm; cases hm
theorem azimL_len {step h : Int} : ∀ (n : Nat) (a : Int), (azimL step h n a).length ≤ n := by
  intro n
  induction n with
  | zero => intro a; simp [azimL]
  | succ n ih =>
    intro a
    unfold azimL
    split
    · have := ih (a + step); simp only [List.length_cons]; omega
    · simp
theorem altiL_len {step : Int} : ∀ (n : Nat) (h : Int), (altiL step n h).length ≤ 40 * n := by
  intro n
  induction n with
  | zero => intro h; simp [altiL]
  | succ n ih =>
    intro h
    unfold altiL
    split
    · have h1 := ih (h + step); have h2 := azimL_len (step := step) (h := h) 40 0; simp only [List.length_append]; omega
    · simp
theorem spotsL_len (step : Int) : (spotsL step).length ≤ 480 := altiL_len 12 0
theorem spotsL_mem {step : Int} (hs : 0 ≤ step) {s : List Int} (h : s ∈ spotsL step) : spotB s := altiL_mem hs 12 0 (by omega) s h
/-- The spots that no projector reaches. -/
noncomputable def darkB (ps : List TProjector) (s : List Int) : Bool := decide (reachN ps (s.getD 0 0) (s.getD 1 0) = 0)
noncomputable def darkL (ps : List TProjector) (L : List (List Int)) : List (List Int) := L.filter (darkB ps)
theorem darkL_yes {ps : List TProjector} {L : List (List Int)} {k : Nat} {s : List Int} (hs : L[k]? = some s) (h : darkB ps s = true) : darkL ps (L.take (k + 1)) = darkL ps (L.take k) ++ [s] := by
  unfold darkL
  rw [List.take_add_one, hs, Option.toList_some, List.filter_append]
  simp [h]
theorem darkL_no {ps : List TProjector} {L : List (List Int)} {k : Nat} {s : List Int} (hs : L[k]? = some s) (h : darkB ps s = false) : darkL ps (L.take (k + 1)) = darkL ps (L.take k) := by
  unfold darkL
  rw [List.take_add_one, hs, Option.toList_some, List.filter_append]
  simp [h]
theorem darkL_len (ps : List TProjector) (L : List (List Int)) : (darkL ps L).length ≤ L.length := List.length_filter_le _ _
theorem darkL_mem {ps : List TProjector} {L : List (List Int)} {s : List Int} (h : s ∈ darkL ps L) : s ∈ L := (List.mem_filter.1 h).1
def domeT : List UInt8 := [100, 111, 109, 101]
def darkF (s : List Int) : TFinding := ⟨1, domeT, joinL (s.map Lib.itoa)⟩
noncomputable def domF (h : THouse) : List TFinding := (darkL h.fProjectors (spotsL h.fStep)).map darkF
/-- The ring of a seat, and its place there. -/
def splitR : List TRing → Int → Nat × Int
  | [], _ => (0, 0)
  | r :: rs, k => if k < r.fCount then (0, k) else ((splitR rs (k - r.fCount)).1 + 1, (splitR rs (k - r.fCount)).2)
theorem splitR_here {R : List TRing} {i : Nat} {r : TRing} (hr : R[i]? = some r) {k : Int} (h : k < r.fCount) : splitR (R.drop i) k = (0, k) := by
  have : R.drop i = r :: R.drop (i + 1) := (List.getElem?_eq_some_iff.1 hr).2 ▸ List.drop_eq_getElem_cons (List.getElem?_eq_some_iff.1 hr).1
  rw [this, splitR, if_pos h]
theorem splitR_next {R : List TRing} {i : Nat} {r : TRing} (hr : R[i]? = some r) {k : Int} (h : ¬ k < r.fCount) : splitR (R.drop i) k = ((splitR (R.drop (i + 1)) (k - r.fCount)).1 + 1, (splitR (R.drop (i + 1)) (k - r.fCount)).2) := by
  have : R.drop i = r :: R.drop (i + 1) := (List.getElem?_eq_some_iff.1 hr).2 ▸ List.drop_eq_getElem_cons (List.getElem?_eq_some_iff.1 hr).1
  rw [this, splitR, if_neg h]
theorem sumC_drop {R : List TRing} {i : Nat} {r : TRing} (hr : R[i]? = some r) : sumC (R.drop i) = r.fCount + sumC (R.drop (i + 1)) := by
  have : R.drop i = r :: R.drop (i + 1) := (List.getElem?_eq_some_iff.1 hr).2 ▸ List.drop_eq_getElem_cons (List.getElem?_eq_some_iff.1 hr).1
  rw [this]
  simp [sumC]
theorem splitR_ok : ∀ {R : List TRing} {k : Int}, 0 ≤ k → k < sumC R → ∃ r, R[(splitR R k).1]? = some r ∧ 0 ≤ (splitR R k).2 ∧ (splitR R k).2 < r.fCount := by
  intro R
  induction R with
  | nil => intro k h1 h2; simp [sumC] at h2; omega
  | cons r R ih =>
    intro k h1 h2
    by_cases h : k < r.fCount
    · refine ⟨r, ?_⟩
      rw [splitR, if_pos h]
      exact ⟨rfl, h1, h⟩
    · have h3 : k - r.fCount < sumC R := by simp [sumC] at h2 ⊢; omega
      obtain ⟨r', h4, h5, h6⟩ := ih (k := k - r.fCount) (by omega) h3
      refine ⟨r', ?_⟩
      rw [splitR, if_neg h]
      exact ⟨by simpa using h4, h5, h6⟩
def noRing : TRing := ⟨0, 0, 0, 0, 0⟩
def ringAt (R : List TRing) (k : Int) : TRing := R.getD (splitR R k).1 noRing
def seatA (R : List TRing) (k : Int) : Int := (ringAt R k).fFrom + (splitR R k).2 * (ringAt R k).fStep
def placeV (R : List TRing) (k : Int) : TVector := ⟨rnd ((ringAt R k).fRadius * sinA (seatA R k)) 1000000, rnd ((ringAt R k).fRadius * cosA (seatA R k)) 1000000, 0⟩
def seatT (R : List TRing) (k : Int) : List UInt8 := 114 :: Lib.itoa (((splitR R k).1 : Int) + 1) ++ 115 :: Lib.itoa ((splitR R k).2 + 1)
def insideB (d : TDome) (v : TVector) : Bool := inB v.fX (-(d.fRadius - 1)) (d.fRadius - 1) && (inB v.fY (-(d.fRadius - 1)) (d.fRadius - 1) && (inB v.fZ (-(d.fRadius - 1)) (d.fRadius - 1) && decide (v.fX * v.fX + v.fY * v.fY + v.fZ * v.fZ < (d.fRadius - 1) * (d.fRadius - 1))))
/-- A point of a dome, and the vector from a seat to it. -/
def pointV (d : TDome) (a h : Int) : TVector := ⟨rnd (d.fRadius * (dirV ((90000 - a) % 360000) h).fX) 1000000, rnd (d.fRadius * (dirV ((90000 - a) % 360000) h).fY) 1000000, rnd (d.fRadius * (dirV ((90000 - a) % 360000) h).fZ) 1000000⟩
def viewV (d : TDome) (v : TVector) (a h : Int) : TVector := ⟨(pointV d a h).fX - v.fX, (pointV d a h).fY - v.fY, (pointV d a h).fZ - v.fZ⟩
def lonV (v : TVector) : Int := if v.fX = 0 ∧ v.fY = 0 then 0 else arcA v.fY v.fX
noncomputable def latR (v : TVector) : Int := arcA v.fZ (rootN (v.fX * v.fX + v.fY * v.fY).toNat)
noncomputable def latV (v : TVector) : Int := if 90000 < latR v then latR v - 360000 else latR v
noncomputable def errV (d : TDome) (v : TVector) (a h : Int) : Int := awayV (dirV a h) (dirV ((90000 - lonV (viewV d v a h)) % 360000) (latV (viewV d v a h)))
noncomputable def worstI (d : TDome) (v : TVector) (a : Int) : Nat → Int → Int → Int
  | 0, _, w => w
  | n + 1, h, w => if h ≤ 90000 then worstI d v a n (h + 45000) (max w (errV d v a h)) else w
noncomputable def worstJ (d : TDome) (v : TVector) : Nat → Int → Int → Int
  | 0, _, w => w
  | n + 1, a, w => if a < 360000 then worstJ d v n (a + 45000) (worstI d v a 4 0 w) else w
noncomputable def worstV (d : TDome) (v : TVector) : Int := worstJ d v 9 0 0
theorem worstI_go {d : TDome} {v : TVector} {a h w : Int} {n : Nat} (hh : h ≤ 90000) : worstI d v a (n + 1) h w = worstI d v a n (h + 45000) (max w (errV d v a h)) := by rw [worstI, if_pos hh]
theorem worstI_end {d : TDome} {v : TVector} {a h w : Int} {n : Nat} (hh : ¬ h ≤ 90000) : worstI d v a n h w = w := by
  cases n with
  | zero => rfl
  | succ n => rw [worstI, if_neg hh]
theorem worstJ_go {d : TDome} {v : TVector} {a w : Int} {n : Nat} (ha : a < 360000) : worstJ d v (n + 1) a w = worstJ d v n (a + 45000) (worstI d v a 4 0 w) := by rw [worstJ, if_pos ha]
theorem worstJ_end {d : TDome} {v : TVector} {a w : Int} {n : Nat} (ha : ¬ a < 360000) : worstJ d v n a w = w := by
  cases n with
  | zero => rfl
  | succ n => rw [worstJ, if_neg ha]
theorem errV_bound (d : TDome) (v : TVector) (a h : Int) : 0 ≤ errV d v a h ∧ errV d v a h ≤ 360000 := awayV_bound _ _
theorem worstI_bound (d : TDome) (v : TVector) (a : Int) : ∀ (n : Nat) (h w : Int), 0 ≤ w ∧ w ≤ 360000 → 0 ≤ worstI d v a n h w ∧ worstI d v a n h w ≤ 360000 := by
  intro n
  induction n with
  | zero => intro h w hw; exact hw
  | succ n ih =>
    intro h w hw
    by_cases hh : h ≤ 90000
    · rw [worstI_go hh]
      have := errV_bound d v a h
      exact ih _ _ (by omega)
    · rw [worstI_end hh]; exact hw
theorem worstJ_bound (d : TDome) (v : TVector) : ∀ (n : Nat) (a w : Int), 0 ≤ w ∧ w ≤ 360000 → 0 ≤ worstJ d v n a w ∧ worstJ d v n a w ≤ 360000 := by
  intro n
  induction n with
  | zero => intro a w hw; exact hw
  | succ n ih =>
    intro a w hw
    by_cases ha : a < 360000
    · rw [worstJ_go ha]
      exact ih _ _ (worstI_bound d v a 4 0 w hw)
    · rw [worstJ_end ha]; exact hw
theorem worstV_bound (d : TDome) (v : TVector) : 0 ≤ worstV d v ∧ worstV d v ≤ 360000 := worstJ_bound d v 9 0 0 (by omega)
noncomputable def scoreV (d : TDome) (v : TVector) : Int := if insideB d v = true then max 0 (1000 - (worstV d v).tdiv 90) else 0
theorem scoreV_bound (d : TDome) (v : TVector) : 0 ≤ scoreV d v ∧ scoreV d v ≤ 1000 := by
  have h := worstV_bound d v
  unfold scoreV
  split
  · have h1 : 0 ≤ (worstV d v).tdiv 90 := Int.tdiv_nonneg h.1 (by omega)
    omega
  · omega
noncomputable def scoreS (h : THouse) (k : Int) : Int := scoreV h.fDome (placeV h.fRings k)
noncomputable def seatF (h : THouse) : Nat → List TFinding
  | 0 => []
  | k + 1 => seatF h k ++ match h.fBooked[k]? with
    | none => []
    | some x => if scoreS h x < h.fLeast then [⟨5, seatT h.fRings x, Lib.itoa (scoreS h x)⟩] else []
theorem seatF_len (h : THouse) : ∀ k, (seatF h k).length ≤ k
  | 0 => Nat.le_refl _
  | k + 1 => by
    have h1 := seatF_len h k
    simp only [seatF, List.length_append]
    split
    · simp; omega
    · split <;> simp <;> omega
theorem seatF_yes {h : THouse} {k : Nat} {x : Int} (hx : h.fBooked[k]? = some x) (h1 : scoreS h x < h.fLeast) : seatF h (k + 1) = seatF h k ++ [⟨5, seatT h.fRings x, Lib.itoa (scoreS h x)⟩] := by
  simp only [seatF, hx, if_pos h1]
theorem seatF_no {h : THouse} {k : Nat} {x : Int} (hx : h.fBooked[k]? = some x) (h1 : ¬ scoreS h x < h.fLeast) : seatF h (k + 1) = seatF h k := by
  simp only [seatF, hx, if_neg h1, List.append_nil]
theorem arc_zero : arcA 0 0 = 0 := by
  have hb : ∀ (low high : Nat), bsr (arcT (min (absI 0) (absI 0)) (max (absI 0) (absI 0))) low high = low ∨ high < low := by
    intro low high
    induction hn : high - low using Nat.strongRecOn generalizing low high with
    | _ n ih =>
      by_cases h : low < high
      · left
        rw [bsr_yes h (by simp [arcT, absI])]
        rcases ih _ (by omega) low ((low + high) / 2) rfl with h1 | h1
        · exact h1
        · omega
      · by_cases h2 : high < low
        · exact .inr h2
        · left; exact bsr_end h
  have h0 : arcLow 0 0 = 0 := by
    unfold arcLow
    rcases hb 0 45000 with h | h
    · exact h
    · omega
  unfold arcA arcB
  rw [h0]
  simp
theorem rings_at {R : List TRing} {B : List Int} (hr : ringsB R = true) (hb : idxsB (sumC R) B = true) {j : Nat} {k : Int} (hk : B[j]? = some k) : 0 ≤ k ∧ k < sumC R := by
  have h3 := listOk_at hb hk
  simp only [inB, decide_eq_true_eq] at h3
  omega
theorem ringAt_ok {R : List TRing} (hr : ringsB R = true) {k : Int} (h1 : 0 ≤ k) (h2 : k < sumC R) : R[(splitR R k).1]? = some (ringAt R k) ∧ ringB (ringAt R k) = true ∧ 0 ≤ (splitR R k).2 ∧ (splitR R k).2 < (ringAt R k).fCount ∧ (splitR R k).1 < 6 := by
  obtain ⟨r, h3, h4, h5⟩ := splitR_ok h1 h2
  have e : ringAt R k = r := by simp [ringAt, List.getD_eq_getElem?_getD, h3]
  obtain ⟨h6, h7, _⟩ := ringsB_all hr
  have h8 := (List.getElem?_eq_some_iff.1 h3).1
  rw [e]
  exact ⟨h3, h6 _ _ h3, h4, h5, by omega⟩
theorem ringB_facts {r : TRing} (h : ringB r = true) : (500 ≤ r.fRadius ∧ r.fRadius ≤ 30000) ∧ (1 ≤ r.fCount ∧ r.fCount ≤ 60) ∧ (0 ≤ r.fFrom ∧ r.fFrom ≤ 359999) ∧ (1000 ≤ r.fStep ∧ r.fStep ≤ 90000) ∧ r.fCount * r.fStep ≤ 360000 := by
  simp only [ringB, inB, Bool.and_eq_true, decide_eq_true_eq] at h
  omega
theorem seatA_bound {r : TRing} (h : ringB r = true) {n : Int} (h0 : 0 ≤ n) (h1 : n < r.fCount) : 0 ≤ n * r.fStep ∧ n * r.fStep ≤ 360000 := by
  obtain ⟨_, h2, _, h3, h4⟩ := ringB_facts h
  refine ⟨Int.mul_nonneg h0 (by omega), Int.le_trans (Int.mul_le_mul_of_nonneg_right (by omega) (by omega)) h4⟩
end Go.Eng

namespace Go.Eng
open Go Go.RowKit Go.Proofs
set_option maxRecDepth 100000
theorem g1_sub {G : Nat → Option (List D)} {k : Nat} {c : List D} (h : G k = some c) : ∀ g cs, G1 k c g = some cs → G g = some cs := by
  intro g cs hg
  unfold G1 at hg
  split at hg
  · rename_i e
    subst e
    cases hg
    exact h
  · cases hg
theorem FnC.up1 {P : Program} {f : FuncId} {k : Nat} {c : List D} {G : Nat → Option (List D)} {pin : Nat} {os : List Obj} {ds : List D} {post : D → List Obj → Prop} (h : FnC P f (G1 k c) pin os ds post) (hG : G k = some c) : FnC P f G pin os ds post := h.moreG (g1_sub hG)
/-- The powers of ten and the sines. -/
def GSP : Nat → Option (List D) := fun g => if g = 2 then some (Lib.pow10Tab.map fun z => .int .u64 z) else if g = 1 then some (sineT.map (.int .i64)) else none
theorem FnC.spS {f : FuncId} {pin : Nat} {os : List Obj} {ds : List D} {post : D → List Obj → Prop} (h : FnC Tryz.prog f GS pin os ds post) : FnC Tryz.prog f GSP pin os ds post := FnC.up1 h rfl
theorem FnC.spP {f : FuncId} {pin : Nat} {os : List Obj} {ds : List D} {post : D → List Obj → Prop} (h : FnC Tryz.prog f GP pin os ds post) : FnC Tryz.prog f GSP pin os ds post := FnC.up1 h rfl
end Go.Eng
