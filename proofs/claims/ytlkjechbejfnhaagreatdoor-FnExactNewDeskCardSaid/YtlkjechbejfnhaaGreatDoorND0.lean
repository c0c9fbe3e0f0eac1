/-
  Plain laws: numbers read from their decimal forms.
  No conditions.
-/
import Derived.Test.YtlkjechbejfnhaaGreatDoorED
import Derived.Lib.ParseIntBCases
import Derived.Lib.ItoaMem
set_option linter.unusedVariables false
set_option linter.unusedSimpArgs false
namespace Go.Eng
open Go Go.RowKit
def isDig (c : UInt8) : Bool := decide (48 ≤ c.toNat) && decide (c.toNat ≤ 57)
theorem isDig_iff {c : UInt8} : isDig c = true ↔ 48 ≤ c.toNat ∧ c.toNat ≤ 57 := by simp [isDig]
/-- What digits spell. -/
def digV (a : Nat) (l : List UInt8) : Nat := l.foldl (fun a c => a * 10 + (c.toNat - 48)) a
theorem digV_nil (a : Nat) : digV a [] = a := by unfold digV; rw [List.foldl_nil]
theorem digV_cons (a : Nat) (c : UInt8) (r : List UInt8) : digV a (c :: r) = digV (a * 10 + (c.toNat - 48)) r := by unfold digV; rw [List.foldl_cons]
theorem digV_append (c : UInt8) (l : List UInt8) (a : Nat) : digV a (l ++ [c]) = digV a l * 10 + (c.toNat - 48) := by
  unfold digV
  rw [List.foldl_append, List.foldl_cons, List.foldl_nil]
theorem digV_lt (l : List UInt8) : ∀ (a k : Nat), l.all isDig = true → a < 10 ^ k → digV a l < 10 ^ (k + l.length) := by
  induction l with
  | nil => intro a k _ h; rw [digV_nil]; exact h
  | cons c r ih =>
    intro a k h ha
    simp only [List.all_cons, Bool.and_eq_true] at h
    have hc := isDig_iff.1 h.1
    have := ih (a * 10 + (c.toNat - 48)) (k + 1) h.2 (by rw [Nat.pow_succ]; omega)
    rw [digV_cons, List.length_cons, show k + (r.length + 1) = k + 1 + r.length by omega]
    exact this
theorem digV_ge (l : List UInt8) : ∀ (a : Nat), a ≤ digV a l := by
  induction l with
  | nil => intro a; rw [digV_nil]; exact Nat.le_refl _
  | cons c r ih =>
    intro a
    have := ih (a * 10 + (c.toNat - 48))
    rw [digV_cons]
    omega
theorem ten18 : (10 : Nat) ^ 18 = 1000000000000000000 := by decide
theorem parseM_dig : ∀ (l : List UInt8) (acc k : Nat), acc < 10 ^ k → k + l.length ≤ 18 → Lib.parseUintM 18446744073709551615 acc l = if l.all isDig = true then .ok (digV acc l) else .syntax
  | [], acc, k, _, _ => by rw [digV_nil]; rfl
  | c :: r, acc, k, h, hl => by
    have hl' : k + r.length + 1 ≤ 18 := by simpa [Nat.add_assoc] using hl
    have hp : 10 ^ k * 10 ≤ 10 ^ 18 := by rw [← Nat.pow_succ]; exact Nat.pow_le_pow_right (by decide) (by omega)
    rw [ten18] at hp
    rw [Lib.parseUintM]
    by_cases hd : 48 ≤ c.toNat ∧ c.toNat ≤ 57
    · rw [if_pos hd, if_neg (by omega), if_neg (by omega), parseM_dig r _ (k + 1) (by rw [Nat.pow_succ]; omega) (by omega)]
      rw [List.all_cons, isDig_iff.2 hd, Bool.true_and, digV_cons]
    · rw [if_neg hd]
      have h1 : isDig c = false := by
        cases h2 : isDig c with
        | false => rfl
        | true => exact absurd (isDig_iff.1 h2) hd
      rw [List.all_cons, h1, Bool.false_and, if_neg (by simp)]
theorem parseU_dig {l : List UInt8} (h0 : l ≠ []) (hl : l.length ≤ 18) : Lib.parseUintB 64 l = if l.all isDig = true then .ok (digV 0 l) else .syntax := by
  rw [Lib.parseUintB, if_neg h0, show 2 ^ 64 - 1 = 18446744073709551615 by decide]
  exact parseM_dig l 0 0 (by decide) (by omega)
theorem decDigits_ne (u : Nat) : Lib.decDigits u ≠ [] := by
  rw [Lib.decDigits]
  split <;> simp
/-- The digits of a number begin with none where it is not small. -/
theorem decDigits_head : ∀ (f u : Nat), u < f → 0 < u → ∃ c r, Lib.decDigits u = c :: r ∧ 49 ≤ c.toNat ∧ c.toNat ≤ 57
  | 0, u, h, _ => absurd h (Nat.not_lt_zero _)
  | f + 1, u, h, h0 => by
    rw [Lib.decDigits]
    by_cases hu : u < 10
    · rw [dif_pos hu]
      refine ⟨_, _, rfl, ?_⟩
      rw [UInt8.toNat_ofNat_of_lt' (by show 48 + u < 256; omega)]
      omega
    · rw [dif_neg hu]
      obtain ⟨c, r, h1, h2⟩ := decDigits_head f (u / 10) (by omega) (by omega)
      rw [h1]
      exact ⟨c, r ++ [UInt8.ofNat (48 + u % 10)], rfl, h2⟩
theorem decDigits_step {v d : Nat} (hv : 0 < v) (hd : d < 10) : Lib.decDigits (v * 10 + d) = Lib.decDigits v ++ [UInt8.ofNat (48 + d)] := by
  rw [Lib.decDigits, dif_neg (by omega), show (v * 10 + d) / 10 = v by omega, show (v * 10 + d) % 10 = d by omega]
/-- Digits without a needless zero are those of what they spell. -/
theorem dec_digV : ∀ (n : Nat) (l : List UInt8), l.length = n → l ≠ [] → l.all isDig = true → (l[0]? ≠ some 48 ∨ l.length = 1) → Lib.decDigits (digV 0 l) = l ∧ (l[0]? ≠ some 48 → 0 < digV 0 l)
  | 0, l, hn, h0, _, _ => absurd (List.length_eq_zero_iff.1 hn) h0
  | n + 1, l, hn, h0, hd, hz => by
    obtain ⟨r, c, rfl⟩ : ∃ r c, l = r ++ [c] := ⟨l.dropLast, l.getLast h0, (List.dropLast_concat_getLast h0).symm⟩
    rw [List.all_append, Bool.and_eq_true] at hd
    have hc : 48 ≤ c.toNat ∧ c.toNat ≤ 57 := isDig_iff.1 (by simpa using hd.2)
    have ec : UInt8.ofNat (48 + (c.toNat - 48)) = c := by
      apply UInt8.toNat_inj.1
      rw [UInt8.toNat_ofNat_of_lt' (by show 48 + (c.toNat - 48) < 256; omega)]
      omega
    rw [digV_append]
    cases r with
    | nil =>
      refine ⟨?_, fun h1 => ?_⟩
      · rw [digV_nil]
        show Lib.decDigits (0 * 10 + (c.toNat - 48)) = [c]
        rw [Lib.decDigits, dif_pos (by omega), Nat.zero_mul, Nat.zero_add, ec]
      · have h2 : c ≠ 48 := fun e => h1 (by simp [e])
        have h3 : c.toNat ≠ 48 := fun e => h2 (UInt8.toNat_inj.1 (by rw [e]; rfl))
        rw [digV_nil]
        show 0 < 0 * 10 + (c.toNat - 48)
        omega
    | cons b r =>
      have hb : (b :: r)[0]? ≠ some 48 := by
        rcases hz with hz | hz
        · simpa using hz
        · simp at hz
      obtain ⟨h1, h2⟩ := dec_digV n (b :: r) (by simpa using hn) (by simp) hd.1 (.inl hb)
      have h3 := h2 hb
      refine ⟨?_, fun _ => by omega⟩
      rw [decDigits_step h3 (by omega), h1, ec]
/-- Is the text a number's decimal form of at most 18 digits, and which number is it? -/
def neg45 (s : List UInt8) : Bool := s[0]? == some 45
def digsOf (s : List UInt8) : List UInt8 := if neg45 s = true then s.drop 1 else s
def numOk (s : List UInt8) : Bool := decide (1 ≤ (digsOf s).length ∧ (digsOf s).length ≤ 18) && ((digsOf s).all isDig && !(decide ((digsOf s)[0]? = some 48) && decide (1 < s.length)))
def numV (s : List UInt8) : Int := if neg45 s = true then -(digV 0 (digsOf s) : Nat) else (digV 0 (digsOf s) : Nat)
def readN (s : List UInt8) : Int × Bool := if numOk s = true then (numV s, true) else (0, false)
theorem numV_le {s : List UInt8} (h : numOk s = true) : -1000000000000000000 < numV s ∧ numV s < 1000000000000000000 := by
  simp only [numOk, Bool.and_eq_true, decide_eq_true_eq] at h
  have h1 := digV_lt (digsOf s) 0 0 h.2.1 (by decide)
  have h2 : 10 ^ (0 + (digsOf s).length) ≤ 10 ^ 18 := Nat.pow_le_pow_right (by decide) (by omega)
  rw [ten18] at h2
  unfold numV
  split <;> omega
theorem parse_good {s : List UInt8} (h : numOk s = true) : Lib.parseIntB 64 s = .ok (numV s) ∧ Lib.itoa (numV s) = s := by
  have hb := numV_le h
  have h' := h
  simp only [numOk, Bool.and_eq_true, decide_eq_true_eq, Bool.not_eq_true', Bool.and_eq_false_iff, decide_eq_false_iff_not] at h'
  obtain ⟨⟨h1, h2⟩, h3, h4⟩ := h'
  have hne : digsOf s ≠ [] := fun e => by rw [e] at h1; simp at h1
  have hz : (digsOf s)[0]? ≠ some 48 ∨ (digsOf s).length = 1 := by
    rcases h4 with h4 | h4
    · exact .inl h4
    · refine .inr ?_
      have : (digsOf s).length ≤ s.length := by
        unfold digsOf
        split
        · simp
        · exact Nat.le_refl _
      omega
  obtain ⟨h5, h6⟩ := dec_digV _ (digsOf s) rfl hne h3 hz
  have hlt := digV_lt (digsOf s) 0 0 h3 (by decide)
  have hlt2 : 10 ^ (0 + (digsOf s).length) ≤ 10 ^ 18 := Nat.pow_le_pow_right (by decide) (by omega)
  rw [ten18] at hlt2
  cases hn : neg45 s with
  | true =>
    have e1 : digsOf s = s.drop 1 := by unfold digsOf; rw [if_pos hn]
    have e2 : numV s = -(digV 0 (digsOf s) : Nat) := by unfold numV; rw [if_pos hn]
    obtain ⟨r, rfl⟩ : ∃ r, s = 45 :: r := by
      cases s with
      | nil => simp [neg45] at hn
      | cons c r =>
        have : c = 45 := by simpa [neg45] using hn
        exact ⟨r, by rw [this]⟩
    have e3 : digsOf (45 :: r) = r := by rw [e1]; rfl
    rw [e3] at h1 h2 h3 h4 h5 h6 hne hlt hlt2 e2
    have e45 : (45 : UInt8).toNat = 45 := rfl
    have hpos : 0 < digV 0 r := h6 (by
      rcases h4 with h4 | h4
      · exact h4
      · simp at h4; exact absurd h4 hne)
    rw [e2]
    have hb9 : digV 0 r ≤ 9223372036854775807 := by omega
    refine ⟨?_, ?_⟩
    · rw [Lib.parseIntB]
      rw [e45, if_pos (Or.inr rfl), parseU_dig hne h2, if_pos h3]
      simp only
      rw [if_neg (by simp), if_neg (by simp; omega)]
      simp
    · rw [Lib.itoa_neg _ hpos, h5]
  | false =>
    have e1 : digsOf s = s := by unfold digsOf; rw [if_neg (by rw [hn]; simp)]
    have e2 : numV s = (digV 0 (digsOf s) : Nat) := by unfold numV; rw [if_neg (by rw [hn]; simp)]
    rw [e1] at h1 h2 h3 h4 h5 h6 hne hlt hlt2 e2
    rw [e2]
    refine ⟨?_, by rw [Lib.itoa_nonneg, h5]⟩
    cases s with
    | nil => exact absurd rfl hne
    | cons c r =>
      have hc : 48 ≤ c.toNat ∧ c.toNat ≤ 57 := by
        simp only [List.all_cons, Bool.and_eq_true] at h3
        exact isDig_iff.1 h3.1
      rw [Lib.parseIntB]
      rw [if_neg (by omega), parseU_dig hne h2, if_pos h3]
      simp only
      rw [if_neg (by omega), if_neg (by omega), if_neg (by omega)]
/-- What the library's reading and writing make of other texts. -/
theorem parse_bad {s : List UInt8} (h : numOk s = false) (h1 : 1 ≤ (digsOf s).length) (h2 : (digsOf s).length ≤ 18) : Lib.parseIntB 64 s = .syntax ∨ ∃ v, Lib.parseIntB 64 s = .ok v ∧ (-1000000000000000000 < v ∧ v < 1000000000000000000) ∧ Lib.itoa v ≠ s := by
  have lim : ∀ l : List UInt8, l.all isDig = true → l.length ≤ 18 → digV 0 l < 1000000000000000000 := fun l hl hn => by
    have h3 := digV_lt l 0 0 hl (by decide)
    have h4 : 10 ^ (0 + l.length) ≤ 10 ^ 18 := Nat.pow_le_pow_right (by decide) (by omega)
    rw [ten18] at h4
    omega
  cases s with
  | nil => simp [digsOf, neg45] at h1
  | cons c r =>
    by_cases hc : c = 45
    · subst hc
      have hn : neg45 (45 :: r) = true := rfl
      have e1 : digsOf (45 :: r) = r := by unfold digsOf; rw [if_pos hn]; rfl
      rw [e1] at h1 h2
      have hne : r ≠ [] := fun e => by rw [e] at h1; simp at h1
      have e45 : (45 : UInt8).toNat = 45 := rfl
      rw [Lib.parseIntB]
      rw [e45, if_pos (Or.inr rfl), parseU_dig hne h2]
      by_cases h3 : r.all isDig = true
      · rw [if_pos h3]
        have h9 := lim r h3 h2
        refine .inr ⟨-(digV 0 r : Nat), ?_, by omega, fun e => ?_⟩
        · simp only
          rw [if_neg (by simp), if_neg (by simp; omega)]
          simp
        · -- the form has a zero ahead
          have hz : r[0]? = some 48 := by
            apply Classical.byContradiction
            intro hz
            have : numOk (45 :: r) = true := by
              simp only [numOk, e1, Bool.and_eq_true, decide_eq_true_eq, Bool.not_eq_true', Bool.and_eq_false_iff, decide_eq_false_iff_not]
              exact ⟨⟨h1, h2⟩, h3, .inl hz⟩
            rw [h] at this
            cases this
          by_cases h0 : 0 < digV 0 r
          · rw [Lib.itoa_neg _ h0] at e
            obtain ⟨c', r', h4, h5⟩ := decDigits_head _ _ (Nat.lt_succ_self _) h0
            rw [h4] at e
            obtain rfl : c' :: r' = r := (List.cons.inj e).2
            have : c' = 48 := by simpa using hz
            subst this
            have h6 : (48 : UInt8).toNat = 48 := rfl
            omega
          · have : digV 0 r = 0 := by omega
            rw [this] at e
            have h7 : Lib.itoa (-((0 : Nat) : Int)) = Lib.decDigits 0 := Lib.itoa_nonneg 0
            rw [h7, Lib.decDigits, dif_pos (by decide)] at e
            have h8 := (List.cons.inj e).1
            revert h8
            decide
      · rw [if_neg h3]
        exact .inl rfl
    · have hcn : c.toNat ≠ 45 := fun e => hc (UInt8.toNat_inj.1 (by rw [e]; rfl))
      have hn : neg45 (c :: r) = false := by simp [neg45, hc]
      have e1 : digsOf (c :: r) = c :: r := by unfold digsOf; rw [if_neg (by rw [hn]; simp)]
      rw [e1] at h1 h2
      by_cases hp : c.toNat = 43
      · rw [Lib.parseIntB]
        rw [if_pos (Or.inl hp)]
        by_cases hr : r = []
        · subst hr
          exact .inl rfl
        · rw [parseU_dig hr (by simp at h2; omega)]
          by_cases h3 : r.all isDig = true
          · rw [if_pos h3]
            have h9 := lim r h3 (by simp at h2; omega)
            refine .inr ⟨(digV 0 r : Nat), ?_, by omega, fun e => ?_⟩
            · simp only
              rw [if_neg (by omega), if_neg (by omega), if_neg (by omega)]
            · rw [Lib.itoa_nonneg] at e
              by_cases h0 : 0 < digV 0 r
              · obtain ⟨c', r', h4, h5⟩ := decDigits_head _ _ (Nat.lt_succ_self _) h0
                rw [h4] at e
                obtain rfl : c' = c := (List.cons.inj e).1
                omega
              · have : digV 0 r = 0 := by omega
                rw [this, Lib.decDigits, dif_pos (by decide)] at e
                obtain rfl := (List.cons.inj e).1
                revert hp
                decide
          · rw [if_neg h3]
            exact .inl rfl
      · rw [Lib.parseIntB]
        rw [if_neg (by omega), parseU_dig (by simp) h2]
        by_cases h3 : (c :: r).all isDig = true
        · rw [if_pos h3]
          have h9 := lim (c :: r) h3 h2
          refine .inr ⟨(digV 0 (c :: r) : Nat), ?_, by omega, fun e => ?_⟩
          · simp only
            rw [if_neg (by omega), if_neg (by omega), if_neg (by omega)]
          · have hz : (c :: r)[0]? = some 48 ∧ 1 < (c :: r).length := by
              apply Classical.byContradiction
              intro hz
              have : numOk (c :: r) = true := by
                simp only [numOk, e1, Bool.and_eq_true, decide_eq_true_eq, Bool.not_eq_true', Bool.and_eq_false_iff, decide_eq_false_iff_not]
                refine ⟨⟨h1, h2⟩, h3, ?_⟩
                by_cases h4 : (c :: r)[0]? = some 48
                · exact .inr fun h5 => hz ⟨h4, h5⟩
                · exact .inl h4
              rw [h] at this
              cases this
            have hc48 : c = 48 := by simpa using hz.1
            rw [Lib.itoa_nonneg] at e
            by_cases h0 : 0 < digV 0 (c :: r)
            · obtain ⟨c', r', h4, h5⟩ := decDigits_head _ _ (Nat.lt_succ_self _) h0
              rw [h4] at e
              obtain rfl : c' = c := (List.cons.inj e).1
              subst hc48
              have h6 : (48 : UInt8).toNat = 48 := rfl
              omega
            · have : digV 0 (c :: r) = 0 := by omega
              rw [this, Lib.decDigits, dif_pos (by decide)] at e
              have h8 := congrArg List.length e
              have h10 := hz.2
              simp at h8 h10
              rw [h8] at h10
              simp at h10
        · rw [if_neg h3]
          exact .inl rfl
theorem dec_all : ∀ (f u : Nat), u < f → (Lib.decDigits u).all isDig = true ∧ digV 0 (Lib.decDigits u) = u
  | 0, u, h => absurd h (Nat.not_lt_zero _)
  | f + 1, u, h => by
    have hd : ∀ d : Nat, d < 10 → (UInt8.ofNat (48 + d)).toNat = 48 + d := fun d hd => UInt8.toNat_ofNat_of_lt' (by show 48 + d < 256; omega)
    rw [Lib.decDigits]
    by_cases hu : u < 10
    · rw [dif_pos hu]
      have h1 := hd u hu
      have h2 : isDig (UInt8.ofNat (48 + u)) = true := isDig_iff.2 (by omega)
      refine ⟨?_, ?_⟩
      · rw [List.all_cons, h2]; rfl
      · rw [digV_cons, digV_nil, h1]
        omega
    · rw [dif_neg hu]
      have h1 := hd (u % 10) (by omega)
      have h2 : isDig (UInt8.ofNat (48 + u % 10)) = true := isDig_iff.2 (by omega)
      obtain ⟨h3, h4⟩ := dec_all f (u / 10) (by omega)
      refine ⟨?_, ?_⟩
      · rw [List.all_append, h3, List.all_cons, h2]; rfl
      · rw [digV_append, h4, h1]
        omega
theorem dec_len : ∀ (k u : Nat), u < 10 ^ (k + 1) → (Lib.decDigits u).length ≤ k + 1
  | 0, u, h => by
    rw [Lib.decDigits, dif_pos (by omega)]
    simp
  | k + 1, u, h => by
    rw [Lib.decDigits]
    by_cases hu : u < 10
    · rw [dif_pos hu]; simp
    · rw [dif_neg hu, List.length_append]
      rw [Nat.pow_succ] at h
      have := dec_len k (u / 10) (by omega)
      simp; omega
theorem digV_zeros (l : List UInt8) : ∀ n : Nat, digV 0 (List.replicate n 48 ++ l) = digV 0 l
  | 0 => rfl
  | n + 1 => by
    rw [List.replicate_succ, List.cons_append, digV_cons, show 0 * 10 + ((48 : UInt8).toNat - 48) = 0 from rfl]
    exact digV_zeros l n
theorem itoa_bytes (n : Int) : ∀ x ∈ Lib.itoa n, x.toNat = 45 ∨ 48 ≤ x.toNat := by
  intro x hx
  by_cases h : n < 0
  · obtain ⟨u, rfl⟩ : ∃ u : Nat, n = -(u : Int) := ⟨n.natAbs, by omega⟩
    rw [Lib.itoa_neg u (by omega)] at hx
    rcases List.mem_cons.1 hx with hx | hx
    · exact .inl (by rw [hx]; rfl)
    · exact .inr (isDig_iff.1 (List.all_eq_true.1 (dec_all (u + 1) u (by omega)).1 x hx)).1
  · obtain ⟨u, rfl⟩ : ∃ u : Nat, n = u := ⟨n.toNat, by omega⟩
    rw [Lib.itoa_nonneg] at hx
    exact .inr (isDig_iff.1 (List.all_eq_true.1 (dec_all (u + 1) u (by omega)).1 x hx)).1
end Go.Eng
