/-
  Numbers read back from their texts: plain laws.
  No conditions.
-/
import Derived.Test.YtbpbhjlochijdaaGreatDoorND0
set_option linter.unusedVariables false
set_option linter.unusedSimpArgs false
namespace Go.Eng
open Go Go.RowKit
set_option maxRecDepth 100000
theorem dec_ne : ∀ (f u : Nat), u < f → Lib.decDigits u ≠ [] ∧ (0 < u → (Lib.decDigits u)[0]? ≠ some 48)
  | 0, u, h => absurd h (Nat.not_lt_zero _)
  | f + 1, u, h => by
    have hd : ∀ d : Nat, d < 10 → (UInt8.ofNat (48 + d)).toNat = 48 + d := fun d hd => UInt8.toNat_ofNat_of_lt' (by show 48 + d < 256; omega)
    rw [Lib.decDigits]
    by_cases hu : u < 10
    · rw [dif_pos hu]
      refine ⟨by simp, fun h0 h2 => ?_⟩
      have h3 : UInt8.ofNat (48 + u) = 48 := by simpa using h2
      have h4 := hd u hu
      rw [h3] at h4
      have : (48 : UInt8).toNat = 48 := rfl
      omega
    · rw [dif_neg hu]
      obtain ⟨h1, h2⟩ := dec_ne f (u / 10) (by omega)
      refine ⟨by simp, fun _ => ?_⟩
      rw [List.getElem?_append_left (List.length_pos_iff.2 h1)]
      exact h2 (by omega)
theorem num_itoa {n : Int} (h : -1000000000000 ≤ n ∧ n ≤ 1000000000000) : numOk (Lib.itoa n) = true ∧ numV (Lib.itoa n) = n := by
  by_cases h0 : n < 0
  · obtain ⟨u, rfl⟩ : ∃ u : Nat, n = -(u : Int) := ⟨n.natAbs, by omega⟩
    have hu : 0 < u := by omega
    obtain ⟨h1, h2⟩ := dec_all (u + 1) u (by omega)
    obtain ⟨h3, h4⟩ := dec_ne (u + 1) u (by omega)
    have h5 := dec_len 17 u (by omega)
    have h6 : 1 ≤ (Lib.decDigits u).length := List.length_pos_iff.2 h3
    rw [Lib.itoa_neg u (by omega)]
    have hn : neg45 (45 :: Lib.decDigits u) = true := rfl
    have hd : digsOf (45 :: Lib.decDigits u) = Lib.decDigits u := rfl
    have hok : numOk (45 :: Lib.decDigits u) = true := by
      unfold numOk
      rw [hd, h1, decide_eq_true (show 1 ≤ (Lib.decDigits u).length ∧ (Lib.decDigits u).length ≤ 18 from ⟨h6, h5⟩), decide_eq_false (h4 hu)]
      rfl
    refine ⟨hok, ?_⟩
    unfold numV
    rw [if_pos hn, hd, h2]
  · obtain ⟨u, rfl⟩ : ∃ u : Nat, n = u := ⟨n.toNat, by omega⟩
    obtain ⟨h1, h2⟩ := dec_all (u + 1) u (by omega)
    obtain ⟨h3, h4⟩ := dec_ne (u + 1) u (by omega)
    have h5 := dec_len 17 u (by omega)
    have h6 : 1 ≤ (Lib.decDigits u).length := List.length_pos_iff.2 h3
    rw [Lib.itoa_nonneg]
    have hn : neg45 (Lib.decDigits u) = false := by
      cases hc : Lib.decDigits u with
      | nil => exact absurd hc h3
      | cons c r =>
        rw [hc, List.all_cons, Bool.and_eq_true] at h1
        have h7 := isDig_iff.1 h1.1
        unfold neg45
        cases hb : ((c :: r)[0]? == some 45) with
        | false => rfl
        | true =>
          have h8 : c = 45 := by simpa using hb
          rw [h8] at h7
          exact absurd h7 (by decide)
    have hd : digsOf (Lib.decDigits u) = Lib.decDigits u := by unfold digsOf; rw [hn]; rfl
    have hok : numOk (Lib.decDigits u) = true := by
      unfold numOk
      rw [hd, h1, decide_eq_true (show 1 ≤ (Lib.decDigits u).length ∧ (Lib.decDigits u).length ≤ 18 from ⟨h6, h5⟩)]
      by_cases hu : 0 < u
      · rw [decide_eq_false (h4 hu)]; rfl
      · have : u = 0 := by omega
        subst this
        rw [Lib.decDigits, dif_pos (by omega)]
        rfl
    refine ⟨hok, ?_⟩
    unfold numV
    rw [hn, hd, h2]
    rfl
theorem readN_itoa {n : Int} (h : -1000000000000 ≤ n ∧ n ≤ 1000000000000) : readN (Lib.itoa n) = (n, true) := by
  unfold readN
  rw [if_pos (num_itoa h).1, (num_itoa h).2]
end Go.Eng
