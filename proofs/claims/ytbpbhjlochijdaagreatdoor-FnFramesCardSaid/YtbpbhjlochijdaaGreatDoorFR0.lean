/-
  A changed byte of an archive is noticed, and stars come back from their blocks: plain laws.
  No conditions.
-/
import Derived.Test.YtbpbhjlochijdaaGreatDoorFS0
import Derived.Test.YtbpbhjlochijdaaGreatDoorAR4
import Derived.Test.YtbpbhjlochijdaaGreatDoorSK
import Derived.Test.YtbpbhjlochijdaaGreatDoorRI
set_option linter.unusedVariables false
set_option linter.unusedSimpArgs false
namespace Go.Eng
open Go Go.RowKit
set_option maxRecDepth 100000
theorem splitC_nl {c : UInt8} (B : List UInt8) : ∀ {A : List UInt8} {P : List (List UInt8)} {p : List UInt8}, splitC c A = P ++ [p] → splitC c (A ++ c :: B) = P ++ p :: splitC c B := by
  intro A
  induction A with
  | nil =>
    intro P p h
    have h1 : splitC c ([] : List UInt8) = [[]] := rfl
    rw [h1] at h
    cases P with
    | nil =>
      have : p = [] := by simpa using h.symm
      subst this
      show splitC c (c :: B) = _
      rw [splitC, if_pos rfl]
      rfl
    | cons q P => have := congrArg List.length h; simp at this
  | cons a A ih =>
    intro P p h
    rw [splitC] at h
    rw [List.cons_append, splitC]
    by_cases ha : a = c
    · rw [if_pos ha] at h ⊢
      cases P with
      | nil =>
        have := congrArg List.length h
        have h3 := List.length_pos_iff.2 (splitC_ne c A)
        simp at this
        exact absurd this (splitC_ne c A)
      | cons q P =>
        obtain ⟨h4, h5⟩ := List.cons.inj h
        rw [ih h5, ← h4]
        rfl
    · rw [if_neg ha] at h ⊢
      cases hs : splitC c A with
      | nil => exact absurd hs (splitC_ne c A)
      | cons q Q =>
        rw [hs] at h
        simp only at h
        cases P with
        | nil =>
          have hq : Q = [] ∧ a :: q = p := by
            have := List.cons.inj (show (a :: q) :: Q = p :: [] from h)
            exact ⟨this.2, this.1⟩
          obtain ⟨rfl, rfl⟩ := hq
          rw [ih (P := []) (p := q) hs]
          rfl
        | cons r P =>
          obtain ⟨h4, h5⟩ := List.cons.inj h
          rw [ih (P := q :: P) (p := p) (by rw [hs, h5]; rfl), ← h4]
          rfl
theorem splitC_mid {c x : UInt8} (hx : x ≠ c) {B : List UInt8} {q : List UInt8} {Q : List (List UInt8)} (hB : splitC c B = q :: Q) : ∀ {A : List UInt8} {P : List (List UInt8)} {p : List UInt8}, splitC c A = P ++ [p] → splitC c (A ++ x :: B) = P ++ (p ++ x :: q) :: Q := by
  intro A
  induction A with
  | nil =>
    intro P p h
    have h1 : splitC c ([] : List UInt8) = [[]] := rfl
    rw [h1] at h
    cases P with
    | nil =>
      have : p = [] := by simpa using h.symm
      subst this
      show splitC c (x :: B) = _
      rw [splitC, if_neg hx, hB]
      rfl
    | cons q P => have := congrArg List.length h; simp at this
  | cons a A ih =>
    intro P p h
    rw [splitC] at h
    rw [List.cons_append, splitC]
    by_cases ha : a = c
    · rw [if_pos ha] at h ⊢
      cases P with
      | nil =>
        have := congrArg List.length h
        simp at this
        exact absurd this (splitC_ne c A)
      | cons q P =>
        obtain ⟨h4, h5⟩ := List.cons.inj h
        rw [ih h5, ← h4]
        rfl
    · rw [if_neg ha] at h ⊢
      cases hs : splitC c A with
      | nil => exact absurd hs (splitC_ne c A)
      | cons q2 Q2 =>
        rw [hs] at h
        simp only at h
        cases P with
        | nil =>
          have hq : Q2 = [] ∧ a :: q2 = p := by
            have := List.cons.inj (show (a :: q2) :: Q2 = p :: [] from h)
            exact ⟨this.2, this.1⟩
          obtain ⟨rfl, rfl⟩ := hq
          rw [ih (P := []) (p := q2) hs]
          rfl
        | cons r P =>
          obtain ⟨h4, h5⟩ := List.cons.inj h
          rw [ih (P := q2 :: P) (p := p) (by rw [hs, h5]; rfl), ← h4]
          rfl
/-- What a text that loads looks like. -/
theorem load_facts {s : List UInt8} {b : List TBlock} (h : loadAll s = .inr b) : ∃ l0 r, splitC 10 s = l0 :: (r ++ [[]]) ∧ headP l0 = true ∧ (r.length : Int) = (readN (digsA l0)).1 ∧ ∀ l ∈ r, (parseB l).2 = 0 := by
  have loadR_all : ∀ (r : List (List UInt8)) (n : Nat) (a b : List TBlock), loadR r n a = .inr b → ∀ l ∈ r, (parseB l).2 = 0 := by
    intro r
    induction r with
    | nil => intro n a b _ l hl; cases hl
    | cons l0 r ih =>
      intro n a b h l hl
      rw [loadR] at h
      split at h
      · rename_i h0
        split at h
        · rcases List.mem_cons.1 hl with rfl | hl
          · exact h0
          · exact ih _ _ _ h l hl
        · cases h
      · cases h
  obtain ⟨L, z, hP⟩ := split_last 10 s
  rw [loadAll_eq hP] at h
  unfold loadOf at h
  split at h
  · cases h
  · rename_i l0 r
    split at h
    · cases h
    · rename_i hz
      have hz : z = [] := Decidable.not_not.1 hz
      split at h
      · cases h
      · rename_i hh
        split at h
        · cases h
        · rename_i a ha
          split at h
          · rename_i hn
            have h3 := loadR_len r 1 [] a ha
            refine ⟨l0, r, by rw [hP, hz]; rfl, by simpa using hh, ?_, loadR_all r 1 [] a ha⟩
            rw [← hn, h3]
            simp
          · cases h
theorem headL_is (n : Nat) : headL n = (archL ++ Lib.itoa n) ++ [10] ∧ (∀ x ∈ archL ++ Lib.itoa n, x ≠ 10) := by
  refine ⟨by simp [headL, archL], ?_⟩
  intro x hx
  rw [List.mem_append] at hx
  rcases hx with hx | hx
  · intro e
    rw [e] at hx
    exact absurd hx (by decide)
  · rw [Lib.itoa_nonneg] at hx
    have := isDig_iff.1 (List.all_eq_true.1 (dec_all (n + 1) n (by omega)).1 x hx)
    exact byte_ne (by show x.toNat ≠ 10; omega)
theorem save_lines {LS : List TBlock} (hv : ∀ b ∈ LS, validB b = true) : splitC 10 (saveTo LS LS.length) = (archL ++ Lib.itoa LS.length) :: (LS.map lineW ++ [[]]) := by
  obtain ⟨h1, h2⟩ := headL_is LS.length
  have e : LS.map lineOf = (LS.map lineW).map (· ++ [10]) := by
    rw [List.map_map]
    exact List.map_congr_left fun b _ => lineOf_eq b
  rw [saveTo, List.take_length, h1, e, List.append_assoc, List.singleton_append, splitC_cat _ h2, splitC_lines]
  intro q hq
  obtain ⟨b, hb, rfl⟩ := List.mem_map.1 hq
  exact lineW_free (hv b hb)
theorem headP_facts {l : List UInt8} (h : headP l = true) : ∃ s, l = archL ++ s ∧ digsA l = s ∧ numOk s = true ∧ (readN (digsA l)).1 = numV s := by
  unfold headP at h
  simp only [Bool.and_eq_true] at h
  have hp := h.1
  have hn : numOk (digsA l) = true := by rw [← readN_snd]; exact h.2.1
  have e : digsA l = l.drop 8 := by unfold digsA; rw [if_pos hp]
  refine ⟨l.drop 8, ?_, e, by rw [← e]; exact hn, by rw [readN_fst hn, e]⟩
  have h1 : l.take 8 = archL := by
    unfold preA at hp
    exact of_decide_eq_true hp
  rw [← h1, List.take_append_drop]
theorem itoa_small {n : Nat} (h : n ≤ 32) : (Lib.itoa (n : Int)).length ≤ 2 := by
  rw [Lib.itoa_nonneg]
  exact dec_len 1 n (by omega)
/-- A changed byte is noticed. -/
theorem load_changed {LS : List TBlock} (hv : validBs LS = true) {i : Nat} {x y : UInt8} (hi : (saveTo LS LS.length)[i]? = some y) (hne : x ≠ y) (b : List TBlock) : loadAll ((saveTo LS LS.length).set i x) ≠ .inr b := by
  intro hload
  obtain ⟨hl, hval, hch⟩ := validBs_iff.1 hv
  have hW := save_lines hval
  have hil := (List.getElem?_eq_some_iff.1 hi)
  generalize hS : saveTo LS LS.length = S at *
  have eS : S = S.take i ++ y :: S.drop (i + 1) := by rw [← hil.2, ← List.drop_eq_getElem_cons hil.1, List.take_append_drop]
  have eS' : S.set i x = S.take i ++ x :: S.drop (i + 1) := by rw [List.set_eq_take_append_cons_drop, if_pos hil.1]
  generalize hA : S.take i = A at *
  generalize hB : S.drop (i + 1) = B at *
  obtain ⟨l0, r, hW', hh, hn, hall⟩ := load_facts hload
  obtain ⟨P, p, hP⟩ := split_last 10 A
  obtain ⟨q, Q, hQ⟩ : ∃ q Q, splitC 10 B = q :: Q := by
    cases h : splitC 10 B with
    | nil => exact absurd h (splitC_ne 10 B)
    | cons q Q => exact ⟨q, Q, rfl⟩
  obtain ⟨s, hs1, hs2, hs3, hs4⟩ := headP_facts hh
  rw [eS'] at hW'
  rw [eS] at hW
  have hlen : ∀ {l : List (List UInt8)}, (archL ++ Lib.itoa (LS.length : Int)) :: (LS.map lineW ++ [[]]) = l → l.length = LS.length + 2 := by
    intro l e
    rw [← e]
    simp
  have hlen' : ∀ {l : List (List UInt8)}, l0 :: (r ++ [[]]) = l → l.length = r.length + 2 := by
    intro l e
    rw [← e]
    simp
  have hsame : l0 = archL ++ Lib.itoa (LS.length : Int) → r.length = LS.length := by
    intro e
    have e2 : s = Lib.itoa (LS.length : Int) := by
      rw [e] at hs1
      exact (List.append_cancel_left hs1).symm
    have h5 : (r.length : Int) = numV s := by rw [hn, hs4]
    have h6 := (parse_good hs3).2
    have h7 : readN (Lib.itoa (LS.length : Int)) = (readN s) := by rw [e2]
    have h8 : numV s = (LS.length : Int) := by rw [e2]; exact (num_itoa (by omega)).2
    omega
  by_cases hy : y = 10
  · -- a line's end is lost
    have hx : x ≠ 10 := fun e => hne (e.trans hy.symm)
    rw [hy, splitC_nl B hP, hQ] at hW
    rw [splitC_mid hx hQ hP] at hW'
    have n1 := hlen hW.symm
    have n2 := hlen' hW'.symm
    simp only [List.length_append, List.length_cons] at n1 n2
    cases P with
    | nil =>
      obtain ⟨w1, w2⟩ := List.cons.inj (show p :: q :: Q = _ from hW)
      obtain ⟨w3, w4⟩ := List.cons.inj (show (p ++ x :: q) :: Q = _ from hW')
      cases hLS : LS with
      | nil =>
        rw [hLS] at n1
        simp only [List.length_nil] at n1 n2
        omega
      | cons b0 r0 =>
        rw [hLS, List.map_cons, List.cons_append] at w2
        have hq := (List.cons.inj w2).1
        obtain ⟨z1, z2, z3, z4⟩ := lineW_shape b0
        have h32 : (32 : UInt8) ∈ q := by rw [hq]; exact List.mem_of_getElem? z2
        have e1 : s = Lib.itoa (LS.length : Int) ++ x :: q := by
          have : archL ++ s = archL ++ (Lib.itoa (LS.length : Int) ++ x :: q) := by rw [← hs1, ← w3, w1, List.append_assoc]
          exact List.append_cancel_left this
        exact numOk_free hs3 32 (by rw [e1]; simp [h32]) rfl
    | cons p0 P =>
      have w1 := (List.cons.inj (show p0 :: (P ++ p :: q :: Q) = _ from hW)).1
      have w3 := (List.cons.inj (show p0 :: (P ++ (p ++ x :: q) :: Q) = _ from hW')).1
      have := hsame (by rw [← w3, w1])
      simp only [List.length_cons] at n1 n2
      omega
  · rw [splitC_mid hy hQ hP] at hW
    by_cases hx : x = 10
    · -- a line is cut
      rw [hx, splitC_nl B hP, hQ] at hW'
      have n1 := hlen hW.symm
      have n2 := hlen' hW'.symm
      simp only [List.length_append, List.length_cons] at n1 n2
      cases P with
      | nil =>
        obtain ⟨w1, w2⟩ := List.cons.inj (show (p ++ y :: q) :: Q = _ from hW)
        obtain ⟨w3, w4⟩ := List.cons.inj (show p :: q :: Q = _ from hW')
        have hqr : q ∈ r := by
          cases r with
          | nil =>
            simp only [List.length_nil] at n2
            simp only [List.length_nil] at n1
            omega
          | cons r0 r1 =>
            rw [List.cons_append] at w4
            rw [(List.cons.inj w4).1]
            simp
        have h6 := hall q hqr
        have h7 : 6 ≤ q.length := by
          apply Classical.byContradiction
          intro hc
          rw [parseB_a (.inl (by omega))] at h6
          exact absurd h6 (by decide)
        have h8 := congrArg List.length w1
        have h9 := congrArg List.length hs1
        rw [← w3] at h9
        have h10 := itoa_small hl
        have h11 : archL.length = 8 := rfl
        simp only [List.length_append, List.length_cons] at h8 h9
        omega
      | cons p0 P =>
        have w1 := (List.cons.inj (show p0 :: (P ++ (p ++ y :: q) :: Q) = _ from hW)).1
        have w3 := (List.cons.inj (show p0 :: (P ++ p :: q :: Q) = _ from hW')).1
        have := hsame (by rw [← w3, w1])
        simp only [List.length_cons] at n1 n2
        omega
    · rw [splitC_mid hx hQ hP] at hW'
      have n1 := hlen hW.symm
      have n2 := hlen' hW'.symm
      simp only [List.length_append, List.length_cons] at n1 n2
      cases P with
      | nil =>
        obtain ⟨w1, w2⟩ := List.cons.inj (show (p ++ y :: q) :: Q = _ from hW)
        obtain ⟨w3, w4⟩ := List.cons.inj (show (p ++ x :: q) :: Q = _ from hW')
        have h5 : (r.length : Int) = numV s := by rw [hn, hs4]
        have h6 := (parse_good hs3).2
        have h7 : r.length = LS.length := by omega
        have h8 : s = Lib.itoa (LS.length : Int) := by rw [← h6, ← h5, h7]
        have h9 : p ++ x :: q = p ++ y :: q := by rw [w1, w3, hs1, h8]
        exact hne (List.cons.inj (List.append_cancel_left h9)).1
      | cons p0 P =>
        have w2 := (List.cons.inj (show p0 :: (P ++ (p ++ y :: q) :: Q) = _ from hW)).2
        have w4 := (List.cons.inj (show p0 :: (P ++ (p ++ x :: q) :: Q) = _ from hW')).2
        have m1 : (LS.map lineW ++ [[]])[P.length]? = some (p ++ y :: q) := by rw [← w2]; simp
        have m2 : (r ++ [[]])[P.length]? = some (p ++ x :: q) := by rw [← w4]; simp
        by_cases hPl : P.length < LS.length
        · rw [List.getElem?_append_left (by simpa using hPl), List.getElem?_map, List.getElem?_eq_getElem hPl] at m1
          have e1 : lineW LS[P.length] = p ++ y :: q := by simpa using m1
          have hrl : P.length < r.length := by simp only [List.length_cons] at n1 n2; omega
          rw [List.getElem?_append_left hrl] at m2
          have h6 := hall _ (List.mem_of_getElem? m2)
          have h7 : (lineW LS[P.length])[p.length]? = some y := by rw [e1]; simp
          have h8 := parse_changed (x := x) h7 hne
          apply h8
          rw [e1]
          have : (p ++ y :: q).set p.length x = p ++ x :: q := by simp
          rw [this]
          exact h6
        · rw [List.getElem?_append_right (by simp; omega)] at m1
          have := List.mem_of_getElem? m1
          have h9 := List.mem_singleton.1 this
          have := congrArg List.length h9
          simp at this
/-- What was written is read back. -/
theorem load_saved {LS : List TBlock} (hv : validBs LS = true) : loadAll (saveTo LS LS.length) = .inr LS ∧ damAll (saveTo LS LS.length) = [] ∧ salAll (saveTo LS LS.length) = LS := by
  obtain ⟨hl, hval, hch⟩ := validBs_iff.1 hv
  have hW := save_lines hval
  have hpw := validBs_pw hv
  have e1 : splitC 10 (saveTo LS LS.length) = ((archL ++ Lib.itoa (LS.length : Int)) :: LS.map lineW) ++ [[]] := hW
  have hdl : (splitC 10 (saveTo LS LS.length)).dropLast = (archL ++ Lib.itoa (LS.length : Int)) :: LS.map lineW := by rw [e1, List.dropLast_concat]
  have hgl : (splitC 10 (saveTo LS LS.length)).getLast? = some [] := by rw [e1, List.getLast?_concat]
  refine ⟨?_, ?_, ?_⟩
  · rw [loadAll_eq e1]
    unfold loadOf
    simp only
    have hnum := num_itoa (n := (LS.length : Int)) (by omega)
    have hpre : preA (archL ++ Lib.itoa (LS.length : Int)) = true := by
      unfold preA
      exact decide_eq_true (by simp [archL])
    have hdA : digsA (archL ++ Lib.itoa (LS.length : Int)) = Lib.itoa (LS.length : Int) := by
      unfold digsA
      rw [if_pos hpre]
      simp [archL]
    have hread : readN (digsA (archL ++ Lib.itoa (LS.length : Int))) = ((LS.length : Int), true) := by
      rw [hdA]
      unfold readN
      rw [if_pos hnum.1, hnum.2]
    have hhead : headP (archL ++ Lib.itoa (LS.length : Int)) = true := by
      unfold headP
      rw [hpre, hread]
      simp [inB]
      omega
    have loadR_lines : ∀ (M a : List TBlock) (n : Nat), (∀ b ∈ M, validB b = true) → (a ++ M).Pairwise (fun x y => ltBlk x y = true) → loadR (M.map lineW) n a = .inr (a ++ M) := by
      intro M
      induction M with
      | nil => intro a n _ _; rw [List.map_nil, loadR, List.append_nil]
      | cons m M ih =>
        intro a n h1 h2
        have hp := parse_line (h1 m (by simp))
        have hnx : nextOk a m = true := by
          rcases List.eq_nil_or_concat a with rfl | ⟨a', t, rfl⟩
          · exact nextOk_nil m
          · rw [nextOk_at (j := a'.length) (x := t) (by simp) (by simp)]
            rw [List.pairwise_append] at h2
            exact h2.2.2 t (by simp) m (by simp)
        rw [List.map_cons, loadR, hp, if_pos rfl]
        simp only
        rw [if_pos hnx, ih (a ++ [m]) (n + 1) (fun b hb => h1 b (by simp [hb])) (by rw [List.append_assoc]; exact h2), List.append_assoc]
        rfl
    rw [if_neg (by simp), if_neg (by rw [hhead]; simp), loadR_lines LS [] 1 hval (by simpa using hpw), hread]
    simp
  · unfold damAll
    rw [hdl, hgl, if_pos rfl]
    have := damR_lines LS [] 1 hval
    rw [List.append_nil] at this
    rw [List.drop_one, List.tail_cons, this]
    rfl
  · unfold salAll
    rw [hdl]
    have := salR_lines LS [] [] hval (by simpa using hpw) (by simpa using hl)
    rw [List.append_nil] at this
    rw [List.drop_one, List.tail_cons, this]
    rfl
/-! ### Stars -/
theorem readStar_own {x : TStar} (h : starB x = true) : readStar (starText x) = some x := by
  have hf := starB_facts h
  unfold readStar
  rw [starText_split h]
  have h1 := num_itoa (n := x.fRight) (by omega)
  have h2 := num_itoa (n := x.fDeclination) (by omega)
  have h3 := num_itoa (n := x.fMagnitude) (by omega)
  have h4 := num_itoa (n := x.fColour) (by omega)
  have e : starOf x.fId (Lib.itoa x.fRight) (Lib.itoa x.fDeclination) (Lib.itoa x.fMagnitude) (Lib.itoa x.fColour) = x := by
    unfold starOf
    rw [h1.2, h2.2, h3.2, h4.2]
  unfold star5
  simp only
  rw [if_pos ⟨h1.1, h2.1, h3.1, h4.1⟩, e, if_pos h]
theorem starBlk_valid {x : TStar} (h : starB x = true) : validB (starBlk x) = true := by
  have hf := starB_facts h
  have hn : nameB x.fId = true := by
    simp only [starB, Bool.and_eq_true] at h
    exact h.1
  have l1 := itoa_len (n := x.fRight) (by omega)
  have l2 := itoa_len (n := x.fDeclination) (by omega)
  have l3 := itoa_len (n := x.fMagnitude) (by omega)
  have l4 := itoa_len (n := x.fColour) (by omega)
  have hi : ∀ n : Int, ∀ c ∈ Lib.itoa n, c ≠ 10 := fun n c hc e => by
    have := itoa_bytes n c hc
    rw [e] at this
    revert this
    decide
  have hnm : ∀ c ∈ x.fId, c ≠ 10 := fun c hc e => by
    have := nameB_byte hn hc
    rw [e] at this
    revert this
    decide
  have hfree : ∀ c ∈ starText x, c ≠ 10 := by
    intro c hc
    simp only [starText, List.mem_append, List.mem_singleton] at hc
    rcases hc with (((((((hc | hc) | hc) | hc) | hc) | hc) | hc) | hc) | hc
    · exact hnm c hc
    · rw [hc]; decide
    · exact hi _ c hc
    · rw [hc]; decide
    · exact hi _ c hc
    · rw [hc]; decide
    · exact hi _ c hc
    · rw [hc]; decide
    · exact hi _ c hc
  have hlen : (starText x).length ≤ 400 := by
    simp only [starText, List.length_append, List.length_singleton]
    omega
  have hline : lineB (starText x) = true := by
    unfold lineB
    rw [List.all_eq_true]
    intro c hc
    have h1 := hfree c hc
    rw [Bool.not_eq_true', decide_eq_false_iff_not]
    intro e
    exact h1 (UInt8.toNat_inj.1 (by show c.toNat = 10; omega))
  unfold validB
  rw [show nameB (starBlk x).fKind = true from (show nameB [115, 116, 97, 114] = true by decide), show nameB (starBlk x).fName = true from hn, show lineB (starBlk x).fText = true from hline, decide_eq_true (show (starBlk x).fText.length ≤ 400 from hlen)]
  rfl
theorem starBlks_all (a : List TStar) : starBlks a a.length = a.map starBlk := by unfold starBlks; rw [List.take_length]
theorem less_irrefl' (a : List UInt8) : Op.bytesLess a a = false := less_irrefl a
theorem ltStar_pw {a : List TStar} (h : starsB a = true) : chain ltBlk (a.map starBlk) = true := by
  simp only [starsB, listOk, Bool.and_eq_true] at h
  have hc := chain_iff.1 h.2.2
  refine chain_iff.2 fun j x y hx hy => ?_
  rw [List.getElem?_map] at hx hy
  cases hx0 : a[j]? with
  | none => rw [hx0] at hx; cases hx
  | some x0 =>
    cases hy0 : a[j + 1]? with
    | none => rw [hy0] at hy; cases hy
    | some y0 =>
      rw [hx0] at hx
      rw [hy0] at hy
      cases hx
      cases hy
      have h1 := hc j x0 y0 hx0 hy0
      unfold ltStar at h1
      unfold ltBlk
      rw [show (starBlk x0).fName = x0.fId from rfl, show (starBlk y0).fName = y0.fId from rfl, h1, show (starBlk x0).fKind = (starBlk y0).fKind from rfl]
      simp
theorem starBlks_valid {a : List TStar} (h : starsB a = true) : validBs (starBlks a a.length) = true := by
  rw [starBlks_all]
  refine validBs_iff.2 ⟨by rw [List.length_map]; have := starsB_len h; omega, fun b hb => ?_, ltStar_pw h⟩
  obtain ⟨x, hx, rfl⟩ := List.mem_map.1 hb
  obtain ⟨j, hj⟩ := List.getElem?_of_mem hx
  exact starBlk_valid (starsB_at h hj)
/-- Stars come back from their blocks. -/
theorem stars_back {a : List TStar} (h : starsB a = true) : starsAll (starBlks a a.length) = .inr a := by
  have hr : ∀ (M o : List TStar), (∀ x ∈ M, starB x = true) → starsR (M.map starBlk) o = .inr (o ++ M) := by
    intro M
    induction M with
    | nil => intro o _; rw [List.map_nil, starsR, List.append_nil]
    | cons x M ih =>
      intro o hM
      have hx := readStar_own (hM x (by simp))
      rw [List.map_cons, starsR, if_pos (show (starBlk x).fKind = starW from rfl), show (starBlk x).fText = starText x from rfl, hx]
      simp only
      rw [if_pos (show x.fId = (starBlk x).fName from rfl), ih (o ++ [x]) fun y hy => hM y (by simp [hy]), List.append_assoc]
      rfl
  unfold starsAll
  rw [starBlks_valid h, if_neg (by simp), starBlks_all, hr a [] fun x hx => by obtain ⟨j, hj⟩ := List.getElem?_of_mem hx; exact starsB_at h hj]
  simp only
  rw [List.nil_append, if_pos (starsB_len h)]
end Go.Eng
