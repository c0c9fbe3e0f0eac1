/-
  Plain laws: one changed byte of an archive.
  No conditions.
-/
import Derived.Test.YtbpbhjlochijdaaGreatDoorAR0
import Derived.Test.YtbpbhjlochijdaaGreatDoorPB0
import Derived.Test.YtbpbhjlochijdaaGreatDoorND0
set_option linter.unusedVariables false
set_option linter.unusedSimpArgs false
namespace Go.Eng
open Go Go.RowKit

theorem splitC_cat {c : UInt8} {p : List UInt8} (l : List UInt8) (h : ∀ x ∈ p, x ≠ c) : splitC c (p ++ c :: l) = p :: splitC c l := by
  rw [splitC_hit (m := p.length) (fun j hj e => ?_) (by simp)]
  · simp
  · rw [List.getElem?_append_left hj] at e
    exact h _ (List.mem_of_getElem? e) rfl
theorem splitC_lines {c : UInt8} : ∀ (L : List (List UInt8)), (∀ p ∈ L, ∀ x ∈ p, x ≠ c) → splitC c ((L.map (· ++ [c])).flatten) = L ++ [[]]
  | [], _ => rfl
  | p :: L, h => by
    rw [List.map_cons, List.flatten_cons, List.append_assoc, List.singleton_append, splitC_cat _ (h p (by simp)), splitC_lines L fun q hq => h q (by simp [hq])]
    rfl
/-- A byte changed: the part that holds it changes, and no other. -/
theorem splitC_set {c b x : UInt8} (hx : x ≠ c) (hb : b ≠ c) : ∀ {l : List UInt8} {i : Nat}, l[i]? = some x → ∃ p j, (splitC c l)[(l.take i).count c]? = some p ∧ p[j]? = some x ∧ splitC c (l.set i b) = (splitC c l).set ((l.take i).count c) (p.set j b)
  | [], i, h => by simp at h
  | y :: r, 0, h => by
    have e : y = x := by simpa using h
    subst e
    cases hs : splitC c r with
    | nil => exact absurd hs (splitC_ne c r)
    | cons p ps =>
      refine ⟨y :: p, 0, ?_, rfl, ?_⟩
      · simp [splitC, hx, hs]
      · simp [splitC, hx, hb, hs]
  | y :: r, i + 1, h => by
    obtain ⟨p, j, h1, h2, h3⟩ := splitC_set hx hb (l := r) (i := i) (by simpa using h)
    by_cases hy : y = c
    · subst hy
      refine ⟨p, j, ?_, h2, ?_⟩
      · simpa [splitC] using h1
      · simp [splitC, h3]
    · cases hs : splitC c r with
      | nil => exact absurd hs (splitC_ne c r)
      | cons q ps =>
        have hc : ((y :: r).take (i + 1)).count c = (r.take i).count c := by
          rw [List.take_succ_cons, List.count_cons_of_ne hy]
        rw [hc]
        rw [hs] at h1 h3
        cases hn : (r.take i).count c with
        | zero =>
          rw [hn] at h1 h3
          have e : q = p := by simpa using h1
          subst e
          refine ⟨y :: q, j + 1, ?_, by simpa using h2, ?_⟩
          · simp [splitC, hy, hs]
          · simp [splitC, hy, hs, h3]
        | succ n =>
          rw [hn] at h1 h3
          refine ⟨p, j, ?_, h2, ?_⟩
          · simpa [splitC, hy, hs] using h1
          · simp [splitC, hy, hs, h3]
theorem five_len {u : Nat} (h : u < 65536) : (fiveL (Lib.itoa (u : Int))).length = 5 := by
  have := dec_len 4 u (by rw [show (10 : Nat) ^ (4 + 1) = 100000 by decide]; omega)
  rw [Lib.itoa_nonneg]
  simp [fiveL]; omega
theorem five_inj {u v : Nat} (h : fiveL (Lib.itoa (u : Int)) = fiveL (Lib.itoa (v : Int))) : u = v := by
  have h1 := congrArg (digV 0) h
  unfold fiveL at h1
  rw [Lib.itoa_nonneg, Lib.itoa_nonneg, digV_zeros, digV_zeros, (dec_all (u + 1) u (by omega)).2, (dec_all (v + 1) v (by omega)).2] at h1
  exact h1
theorem five_dig {u : Nat} : (fiveL (Lib.itoa (u : Int))).all isDig = true := by
  unfold fiveL
  rw [Lib.itoa_nonneg, List.all_append, (dec_all (u + 1) u (by omega)).1, Bool.and_true, List.all_eq_true]
  intro x hx
  rw [(List.mem_replicate.1 hx).2]
  decide
theorem crcT_len (r : List UInt8) : (crcT r).length = 5 := five_len (crcL_lt (by decide))
theorem crcT_inj {a b : List UInt8} (h : crcT a = crcT b) : crcL a 65535 = crcL b 65535 := five_inj h
/-- The line of a block, without its end. -/
def lineW (b : TBlock) : List UInt8 := crcT (restB b) ++ 32 :: restB b
theorem lineOf_eq (b : TBlock) : lineOf b = lineW b ++ [10] := by simp [lineOf, lineW]
theorem nameB_byte {l : List UInt8} (h : nameB l = true) {x : UInt8} (hx : x ∈ l) : 48 ≤ x.toNat := by
  simp only [nameB, Bool.and_eq_true, List.all_eq_true] at h
  have h1 := h.2.2.2 x hx
  simp only [smallB, digitB, Bool.or_eq_true, Bool.and_eq_true, decide_eq_true_eq] at h1
  omega
theorem validB_parts {b : TBlock} (h : validB b = true) : nameB b.fKind = true ∧ nameB b.fName = true ∧ lineB b.fText = true := by
  simp only [validB, Bool.and_eq_true] at h
  exact ⟨h.1, h.2.1, h.2.2.2⟩
theorem byte_ne {x c : UInt8} (h : x.toNat ≠ c.toNat) : x ≠ c := fun e => h (by rw [e])
theorem restB_free {b : TBlock} (h : validB b = true) : ∀ x ∈ restB b, x ≠ 10 := by
  obtain ⟨h1, h2, h3⟩ := validB_parts h
  intro x hx
  simp only [restB, List.mem_append, List.mem_singleton] at hx
  rcases hx with (((hx | hx) | hx) | hx) | hx
  · exact byte_ne (by have := nameB_byte h1 hx; show x.toNat ≠ 10; omega)
  · rw [hx]; decide
  · exact byte_ne (by have := nameB_byte h2 hx; show x.toNat ≠ 10; omega)
  · rw [hx]; decide
  · simp only [lineB, List.all_eq_true] at h3
    have h4 := h3 x hx
    simp only [Bool.not_eq_true', decide_eq_false_iff_not] at h4
    exact byte_ne (by show x.toNat ≠ 10; omega)
theorem lineW_free {b : TBlock} (h : validB b = true) : ∀ x ∈ lineW b, x ≠ 10 := by
  intro x hx
  rw [lineW, List.mem_append, List.mem_cons] at hx
  rcases hx with hx | hx | hx
  · have h1 := List.all_eq_true.1 (five_dig (u := crcL (restB b) 65535)) x hx
    have h2 := isDig_iff.1 h1
    exact byte_ne (by show x.toNat ≠ 10; omega)
  · rw [hx]; decide
  · exact restB_free h x hx
theorem lineW_shape (b : TBlock) : (lineW b).length = 6 + (restB b).length ∧ (lineW b)[5]? = some 32 ∧ (lineW b).take 5 = crcT (restB b) ∧ (lineW b).drop 6 = restB b := by
  have h := crcT_len (restB b)
  unfold lineW
  refine ⟨by simp [h]; omega, ?_, ?_, ?_⟩
  · rw [List.getElem?_append_right (by omega), h]; rfl
  · rw [List.take_append_of_le_length (by omega), ← h, List.take_length]
  · rw [show (6 : Nat) = (crcT (restB b)).length + 1 by omega, List.drop_append]
    simp
theorem cutTx_cat {c : UInt8} {p : List UInt8} (l : List UInt8) (h : ∀ x ∈ p, x ≠ c) : cutTx c (p ++ c :: l) = (p, l, true) := by
  rw [cutTx_hit (m := p.length) (fun j hj e => ?_) (by simp)]
  · simp
  · rw [List.getElem?_append_left hj] at e
    exact h _ (List.mem_of_getElem? e) rfl
/-- A line is read back. -/
theorem parse_line {b : TBlock} (h : validB b = true) : parseB (lineW b) = (b, 0) := by
  obtain ⟨h1, h2, h3⟩ := validB_parts h
  obtain ⟨s1, s2, s3, s4⟩ := lineW_shape b
  have c1 : cutTx 32 (restB b) = (b.fKind, b.fName ++ 32 :: b.fText, true) := by
    have : restB b = b.fKind ++ 32 :: (b.fName ++ 32 :: b.fText) := by simp [restB]
    rw [this]
    exact cutTx_cat _ fun x hx => byte_ne (by have := nameB_byte h1 hx; show x.toNat ≠ 32; omega)
  have c2 : cutTx 32 (b.fName ++ 32 :: b.fText) = (b.fName, b.fText, true) := cutTx_cat _ fun x hx => byte_ne (by have := nameB_byte h2 hx; show x.toNat ≠ 32; omega)
  unfold parseB
  rw [s2, s3, s4, if_neg (by simp; omega), if_neg (by simp), c1]
  simp only [c2]
  rw [if_neg (by simp), if_neg (by rw [show (⟨b.fKind, b.fName, b.fText⟩ : TBlock) = b from rfl, h]; simp)]
/-- A line with a changed byte is not read. -/
theorem parse_changed {b : TBlock} {j : Nat} {x y : UInt8} (hy : (lineW b)[j]? = some y) (hne : x ≠ y) : (parseB ((lineW b).set j x)).2 ≠ 0 := by
  obtain ⟨s1, s2, s3, s4⟩ := lineW_shape b
  have hj := (List.getElem?_eq_some_iff.1 hy).1
  have hset : ((lineW b).set j x)[j]? = some x := by rw [List.getElem?_set_self hj]
  unfold parseB
  by_cases d1 : ((lineW b).set j x).length < 6 ∨ ((lineW b).set j x)[5]? ≠ some 32
  · rw [if_pos d1]; decide
  by_cases d2 : ((lineW b).set j x).take 5 ≠ crcT (((lineW b).set j x).drop 6)
  · rw [if_neg d1, if_pos d2]; decide
  exfalso
  have e1 : ((lineW b).set j x)[5]? = some 32 := Classical.byContradiction fun g => d1 (.inr g)
  have e2 : ((lineW b).set j x).take 5 = crcT (((lineW b).set j x).drop 6) := Classical.byContradiction fun g => d2 g
  have hc : j < 5 ∨ j = 5 ∨ 5 < j := by omega
  rcases hc with hc | hc | hc
  · have e3 : ((lineW b).set j x).drop 6 = (lineW b).drop 6 := List.ext_getElem? fun i => by rw [List.getElem?_drop, List.getElem?_drop, List.getElem?_set_ne (by omega)]
    rw [e3, s4, ← s3] at e2
    have e4 := congrArg (fun l => l[j]?) e2
    simp only [List.getElem?_take, if_pos hc] at e4
    rw [hset, hy] at e4
    exact hne (by simpa using e4)
  · subst hc
    rw [hset] at e1
    rw [s2] at hy
    exact hne (by simp_all)
  · have e3 : ((lineW b).set j x).take 5 = (lineW b).take 5 := List.ext_getElem? fun i => by
      rw [List.getElem?_take, List.getElem?_take]
      by_cases hi : i < 5
      · rw [if_pos hi, if_pos hi, List.getElem?_set_ne (by omega)]
      · rw [if_neg hi, if_neg hi]
    have e4 : ((lineW b).set j x).drop 6 = (restB b).set (j - 6) x := List.ext_getElem? fun i => by
      rw [← s4, List.getElem?_drop]
      by_cases hi : 6 + i = j
      · subst hi
        rw [List.getElem?_set_self hj, show 6 + i - 6 = i by omega, List.getElem?_set_self (by rw [List.length_drop]; omega)]
      · rw [List.getElem?_set_ne (by omega), List.getElem?_set_ne (by omega), List.getElem?_drop]
    rw [e3, e4, s3] at e2
    have e5 := crcL_set (x := 65535) (by decide) (k := j - 6) (b := x) (l := restB b) (by omega) (crcT_inj e2).symm
    have e6 : (restB b)[j - 6]? = some y := by rw [← s4, List.getElem?_drop, show 6 + (j - 6) = j by omega, hy]
    rw [← e5, List.getElem?_set_self (by omega)] at e6
    exact hne (by simpa using e6)
/-- A block behind all others is put at the end. -/
theorem putB_last {a : List TBlock} {t : TBlock} (h : ∀ x ∈ a, ltBlk x t = true) (hl : a.length < 32) : putB a t = a ++ [t] := by
  have h1 : insAt ltBlk a t = a.length := firstAt_eq (Nat.le_refl _) (fun j x _ hx => by rw [h x (List.mem_of_getElem? hx)]; rfl) (fun x hx => by simp at hx)
  have h2 : insF ltBlk eqkB a t = false := by
    unfold insF
    rw [h1, List.getElem?_eq_none (Nat.le_refl _)]
    rfl
  have h3 : roomB a t = true := by
    unfold roomB
    rw [h2, decide_eq_true hl]; rfl
  unfold putB
  rw [if_pos h3]
  unfold insB insL insN
  rw [h2, h1]
  simp
theorem salR_lines : ∀ (M : List TBlock) (R : List (List UInt8)) (a : List TBlock), (∀ b ∈ M, validB b = true) → (a ++ M).Pairwise (fun x y => ltBlk x y = true) → (a ++ M).length ≤ 32 → salR (M.map lineW ++ R) a = salR R (a ++ M)
  | [], R, a, _, _, _ => by simp
  | m :: M, R, a, hv, hp, hl => by
    have h1 := parse_line (hv m (by simp))
    have h2 : ∀ x ∈ a, ltBlk x m = true := fun x hx => (List.pairwise_append.1 hp).2.2 x hx m (by simp)
    rw [List.length_append, List.length_cons] at hl
    rw [List.map_cons, List.cons_append, salR, h1, if_pos rfl, putB_last h2 (by omega), salR_lines M R (a ++ [m]) (fun b hb => hv b (by simp [hb])) (by simpa using hp) (by simp; omega)]
    simp
theorem damR_lines : ∀ (M : List TBlock) (R : List (List UInt8)) (n : Nat), (∀ b ∈ M, validB b = true) → damR (M.map lineW ++ R) n = damR R (n + M.length)
  | [], R, n, _ => by simp
  | m :: M, R, n, hv => by
    have h1 := parse_line (hv m (by simp))
    rw [List.map_cons, List.cons_append, damR, h1, if_pos rfl, damR_lines M R (n + 1) fun b hb => hv b (by simp [hb]), List.length_cons]
    congr 1
    omega
theorem headL_eq (n : Nat) : ∃ p : List UInt8, headL n = p ++ [10] ∧ ∀ x ∈ p, x ≠ 10 := by
  refine ⟨[97, 114, 99, 104, 105, 118, 101, 32] ++ Lib.itoa n, by simp [headL], ?_⟩
  intro x hx
  rw [List.mem_append] at hx
  rcases hx with hx | hx
  · intro e
    rw [e] at hx
    exact absurd hx (by decide)
  · rw [Lib.itoa_nonneg] at hx
    have := isDig_iff.1 (List.all_eq_true.1 (dec_all (n + 1) n (by omega)).1 x hx)
    exact byte_ne (by show x.toNat ≠ 10; omega)
theorem save_split {LS : List TBlock} (hv : ∀ b ∈ LS, validB b = true) : ∃ p, splitC 10 (saveTo LS LS.length) = p :: (LS.map lineW ++ [[]]) := by
  obtain ⟨p, h1, h2⟩ := headL_eq LS.length
  refine ⟨p, ?_⟩
  have e : LS.map lineOf = (LS.map lineW).map (· ++ [10]) := by
    rw [List.map_map]
    exact List.map_congr_left fun b _ => lineOf_eq b
  rw [saveTo, List.take_length, h1, e, List.append_assoc, List.singleton_append, splitC_cat _ h2, splitC_lines]
  intro q hq
  obtain ⟨b, hb, rfl⟩ := List.mem_map.1 hq
  exact lineW_free (hv b hb)
/-- What is found and what is kept where one byte of a line is changed. -/
theorem salvage_law {LS : List TBlock} (hv : validBs LS = true) {i : Nat} {x y : UInt8} (hi : (saveTo LS LS.length)[i]? = some y) (hy : y ≠ 10) (hx : x ≠ 10) (hne : x ≠ y) (h1 : ((saveTo LS LS.length).take i).count 10 ≠ 0) :
    ∃ k, k < LS.length ∧ ((saveTo LS LS.length).take i).count 10 = k + 1 ∧ damAll ((saveTo LS LS.length).set i x) = [(k : Int) + 2] ∧ salAll ((saveTo LS LS.length).set i x) = LS.take k ++ LS.drop (k + 1) := by
  obtain ⟨hl, hval, hch⟩ := validBs_iff.1 hv
  have hpw := validBs_pw hv
  obtain ⟨hd, hsp⟩ := save_split hval
  obtain ⟨p, j, g1, g2, g3⟩ := splitC_set (c := 10) hy hx hi
  obtain ⟨k, hk⟩ : ∃ k, ((saveTo LS LS.length).take i).count 10 = k + 1 := ⟨((saveTo LS LS.length).take i).count 10 - 1, by omega⟩
  rw [hk, hsp, List.getElem?_cons_succ] at g1
  rw [hk, hsp, List.set_cons_succ] at g3
  have hkl : k < LS.length := by
    apply Classical.byContradiction
    intro hc
    rw [List.getElem?_append_right (by simp; omega)] at g1
    have := List.mem_of_getElem? g1
    rw [List.mem_singleton.1 this] at g2
    simp at g2
  rw [List.getElem?_append_left (by simpa using hkl), List.getElem?_map, List.getElem?_eq_getElem hkl] at g1
  have ep : lineW LS[k] = p := by simpa using g1
  subst ep
  have hbad := parse_changed (x := x) g2 hne
  generalize hq : (lineW LS[k]).set j x = q at g3 hbad
  have es : ((LS.map lineW ++ [[]]).set k q) = ((LS.take k).map lineW ++ q :: (LS.drop (k + 1)).map lineW) ++ [[]] := by
    rw [List.set_append_left _ _ (by simpa using hkl), List.set_eq_take_append_cons_drop, if_pos (by simpa using hkl), List.map_take, List.map_drop]
  have ecut : LS = LS.take k ++ LS[k] :: LS.drop (k + 1) := by rw [← List.drop_eq_getElem_cons hkl, List.take_append_drop]
  have hv1 : ∀ b ∈ LS.take k, validB b = true := fun b hb => hval b (List.mem_of_mem_take hb)
  have hv2 : ∀ b ∈ LS.drop (k + 1), validB b = true := fun b hb => hval b (List.mem_of_mem_drop hb)
  have hd1 : (hd :: (((LS.take k).map lineW ++ q :: (LS.drop (k + 1)).map lineW) ++ [[]])).dropLast = hd :: ((LS.take k).map lineW ++ q :: (LS.drop (k + 1)).map lineW) := by
    rw [← List.cons_append, List.dropLast_concat]
  have hd2 : (hd :: (((LS.take k).map lineW ++ q :: (LS.drop (k + 1)).map lineW) ++ [[]])).getLast? = some [] := by
    rw [← List.cons_append, List.getLast?_concat]
  refine ⟨k, hkl, hk, ?_, ?_⟩
  · unfold damAll
    rw [g3, es, hd1, hd2, if_pos rfl, List.append_nil, List.drop_one, List.tail_cons, damR_lines _ _ _ hv1, damR, if_neg hbad]
    have := damR_lines (LS.drop (k + 1)) [] (1 + (LS.take k).length + 1) hv2
    rw [List.append_nil] at this
    rw [this, damR, List.length_take]
    congr 1
    omega
  · unfold salAll
    rw [g3, es, hd1, List.drop_one, List.tail_cons]
    have hpw2 := hpw
    rw [ecut] at hpw2
    have hsub : (LS.take k ++ LS.drop (k + 1)).Pairwise (fun x y => ltBlk x y = true) := hpw2.sublist (List.Sublist.append_left (List.sublist_cons_self _ _) _)
    rw [salR_lines _ _ [] hv1 (by rw [List.nil_append]; exact hpw.sublist (List.take_sublist _ _)) (by simp; omega), salR, if_neg hbad, List.nil_append]
    have := salR_lines (LS.drop (k + 1)) [] (LS.take k) hv2 hsub (by simp; omega)
    rw [List.append_nil] at this
    rw [this, salR]
end Go.Eng
