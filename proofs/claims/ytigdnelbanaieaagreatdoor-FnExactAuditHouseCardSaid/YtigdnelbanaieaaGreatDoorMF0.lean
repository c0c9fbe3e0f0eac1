/-
  Plans of loading, and the findings of the media, in plain words.
  No conditions.
-/
import Derived.Test.YtigdnelbanaieaaGreatDoorVY
set_option linter.unusedVariables false
set_option linter.unusedSimpArgs false
namespace Go.Eng
open Go Go.RowKit Go.Proofs
set_option maxRecDepth 100000
structure TFinding where
  fKind : Int
  fWho : List UInt8
  fWhat : List UInt8
def encFinding (x : TFinding) : List D := [.int .i64 x.fKind, .str x.fWho, .str x.fWhat]
def TFinding.sz (x : TFinding) : Nat := x.fWho.length + x.fWhat.length
def eqTFinding (a b : TFinding) : Bool := eqI a.fKind b.fKind && (eqStr a.fWho b.fWho && (eqStr a.fWhat b.fWhat))
theorem eqTFinding_refl (x : TFinding) : eqTFinding x x = true := by simp [eqTFinding, eqI, eqStr, eqBo]
def loadT (M : List TMedia) (b : Int) (n : List UInt8) : Int := (1000 * sizeM M n + b - 1).tdiv b
def planT (M : List TMedia) (b : Int) : List TNeed → Int
  | [] => 0
  | x :: r => loadT M b x.fName + planT M b r
theorem planT_app (M : List TMedia) (b : Int) : ∀ (a r : List TNeed), planT M b (a ++ r) = planT M b a + planT M b r
  | [], r => by simp [planT]
  | x :: a, r => by simp only [List.cons_append, planT, planT_app M b a r]; omega
theorem planT_step {M : List TMedia} {b : Int} {N : List TNeed} {k : Nat} {x : TNeed} (hx : N[k]? = some x) : planT M b (N.take (k + 1)) = planT M b (N.take k) + loadT M b x.fName := by
  rw [List.take_add_one, hx, Option.toList_some, planT_app]
  simp [planT]
def planR (M : List TMedia) (b : Int) (N : List TNeed) : List Int := (List.range N.length).map fun k => planT M b (N.take k)
theorem planR_len (M : List TMedia) (b : Int) (N : List TNeed) : (planR M b N).length = N.length := by simp [planR]
theorem planR_at (M : List TMedia) (b : Int) {N : List TNeed} {k : Nat} (h : k < N.length) : (planR M b N)[k]? = some (planT M b (N.take k)) := by
  simp [planR, h]
theorem validMs_size {M : List TMedia} (h : validMs M = true) (n : List UInt8) : 0 ≤ sizeM M n ∧ sizeM M n ≤ 100000 := by
  unfold sizeM
  split
  · rename_i x hx
    have h2 : validM x = true := by
      have h3 := listOk_at (show listOk validM ltMedia M = true by simp only [validMs, Bool.and_eq_true] at h; exact h.2) hx
      exact h3
    simp only [validM, inB, Bool.and_eq_true, decide_eq_true_eq] at h2
    omega
  · omega
theorem loadT_le {M : List TMedia} {b : Int} (h : validMs M = true) (hb : 1 ≤ b ∧ b ≤ 100000) (n : List UInt8) : 0 ≤ loadT M b n ∧ loadT M b n ≤ 100000000 := by
  obtain ⟨h1, h2⟩ := validMs_size h n
  unfold loadT
  rw [Int.tdiv_eq_ediv_of_nonneg (by omega)]
  refine ⟨Int.ediv_nonneg (by omega) (by omega), ?_⟩
  refine Int.ediv_le_of_le_mul (by omega) ?_
  have h3 : 100000000 * 1 ≤ 100000000 * b := by omega
  have h4 : 1000 * sizeM M n ≤ 100000000 := by omega
  have h5 : b - 1 ≤ 99999 * b := by omega
  by_cases hs : sizeM M n = 100000
  · have h6 : (100000000 - 1) * 1 ≤ (100000000 - 1) * b := Int.mul_le_mul_of_nonneg_left hb.1 (by omega)
    omega
  · omega
theorem planT_le {M : List TMedia} {b : Int} (h : validMs M = true) (hb : 1 ≤ b ∧ b ≤ 100000) : ∀ N : List TNeed, 0 ≤ planT M b N ∧ planT M b N ≤ N.length * 100000000
  | [] => by simp [planT]
  | x :: r => by
    have h1 := loadT_le h hb x.fName
    have h2 := planT_le h hb r
    simp only [planT, List.length_cons, Int.natCast_add, Int.natCast_one]
    omega
def lateT (M : List TMedia) (b : Int) (N : List TNeed) (k : Nat) (x : TNeed) : Int := planT M b (N.take (k + 1)) - x.fTime
def medF (M : List TMedia) (b : Int) (N : List TNeed) : Nat → List TFinding
  | 0 => []
  | k + 1 => medF M b N k ++ match N[k]? with
    | none => []
    | some x => if 0 < lateT M b N k x then [⟨6, x.fName, Lib.itoa (lateT M b N k x)⟩] else []
theorem medF_len (M : List TMedia) (b : Int) (N : List TNeed) : ∀ k, (medF M b N k).length ≤ k
  | 0 => Nat.le_refl _
  | k + 1 => by
    have h := medF_len M b N k
    simp only [medF, List.length_append]
    split
    · simp; omega
    · split <;> simp <;> omega
theorem medF_yes {M : List TMedia} {b : Int} {N : List TNeed} {k : Nat} {x : TNeed} (hx : N[k]? = some x) (h : 0 < lateT M b N k x) : medF M b N (k + 1) = medF M b N k ++ [⟨6, x.fName, Lib.itoa (lateT M b N k x)⟩] := by
  simp only [medF, hx, if_pos h]
theorem medF_no {M : List TMedia} {b : Int} {N : List TNeed} {k : Nat} {x : TNeed} (hx : N[k]? = some x) (h : ¬ 0 < lateT M b N k x) : medF M b N (k + 1) = medF M b N k := by
  simp only [medF, hx, if_neg h, List.append_nil]
end Go.Eng
