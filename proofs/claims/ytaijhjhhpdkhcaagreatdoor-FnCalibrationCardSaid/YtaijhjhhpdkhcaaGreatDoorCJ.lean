/-
  Contracts of functions of the program and of the reference, and plain laws: a bundle of texts.
  No conditions.
-/
import Derived.Test.YtaijhjhhpdkhcaaGreatDoorED
import Derived.Test.YtaijhjhhpdkhcaaGreatDoorAC
import Derived.Test.YtaijhjhhpdkhcaaGreatDoorRL
import Derived.Test.YtaijhjhhpdkhcaaGreatDoorRI
import Derived.Test.YtaijhjhhpdkhcaaGreatDoorD1
import Derived.Test.YtaijhjhhpdkhcaaGreatDoorP1
import Derived.Test.YtaijhjhhpdkhcaaGreatDoorRW
set_option linter.unusedVariables false
set_option linter.unusedSimpArgs false
set_option maxHeartbeats 4000000
namespace Go.Eng
open Go Go.RowKit Go.Proofs
set_option maxRecDepth 100000
theorem splitC_catC {c : UInt8} {p : List UInt8} (l : List UInt8) (h : ∀ x ∈ p, x ≠ c) : splitC c (p ++ c :: l) = p :: splitC c l := by
  rw [splitC_hit (m := p.length) (fun j hj e => ?_) (by simp)]
  · simp
  · rw [List.getElem?_append_left hj] at e
    exact h _ (List.mem_of_getElem? e) rfl
theorem worstTo_spec {a : List TMark} : ∀ {n : Nat}, n ≤ a.length → 1 ≤ n → (worstTo a n).1 < n ∧ (∃ m, a[(worstTo a n).1]? = some m ∧ errMk m = (worstTo a n).2) ∧ ∀ (j : Nat) m, j < n → a[j]? = some m → errMk m ≤ (worstTo a n).2 := by
  intro n
  induction n with
  | zero => intro _ h; omega
  | succ k ih =>
    intro hk _
    have hm : a[k]? = some a[k] := List.getElem?_eq_getElem (by omega)
    by_cases hl : (worstTo a k).2 < errMk a[k]
    · rw [worstTo_yes hm hl]
      refine ⟨Nat.lt_succ_self k, ⟨_, hm, rfl⟩, fun j m hj hjm => ?_⟩
      by_cases e : j = k
      · subst e; rw [hm] at hjm; cases hjm; exact Int.le_refl _
      · have h3 := (ih (by omega) (by omega)).2.2 j m (by omega) hjm
        show errMk m ≤ errMk a[k]
        omega
    · rw [worstTo_no hm hl]
      by_cases hk0 : k = 0
      · subst hk0
        exfalso
        apply hl
        have h3 := (errMk_bound a[0]).1
        show (-1 : Int) < errMk a[0]
        omega
      · obtain ⟨h1, h2, h3⟩ := ih (by omega) (by omega)
        refine ⟨by omega, h2, fun j m hj hjm => ?_⟩
        by_cases e : j = k
        · subst e; rw [hm] at hjm; cases hjm; omega
        · exact h3 j m (by omega) hjm
theorem sumMk_le {a : List TMark} {w : Int} (h : ∀ (j : Nat) m, a[j]? = some m → errMk m ≤ w) : sumMk a ≤ w * a.length := by
  induction a with
  | nil => simp [sumMk]
  | cons m r ih =>
    have h1 := h 0 m rfl
    have h2 := ih fun j x hx => h (j + 1) x (by simpa using hx)
    rw [sumMk, List.length_cons, Int.natCast_add, Int.mul_add]
    simp only [Int.natCast_one, Int.mul_one]
    omega
theorem meanMk_le {a : List TMark} (hl : 1 ≤ a.length) {w : Int} (h : ∀ (j : Nat) m, a[j]? = some m → errMk m ≤ w) : 0 ≤ meanMk a ∧ meanMk a ≤ w := by
  have h0 := (sumMk_bound a).1
  have h1 := sumMk_le h
  unfold meanMk
  rw [Int.tdiv_eq_ediv_of_nonneg h0]
  refine ⟨Int.ediv_nonneg h0 (by omega), ?_⟩
  have h2 := Int.ediv_le_ediv (a := sumMk a) (b := w * a.length) (c := (a.length : Int)) (by omega) h1
  rwa [Int.mul_ediv_cancel _ (by omega)] at h2
theorem arcA_up {y x : Int} (hy : 0 ≤ y) : 0 ≤ arcA y x ∧ arcA y x ≤ 180000 := by
  have h1 : arcLow y x ≤ 45000 := bsr_le (by omega)
  have h2 : 0 ≤ arcB y x ∧ arcB y x ≤ 90000 := by unfold arcB; split <;> omega
  unfold arcA
  (repeat' split) <;> omega
theorem lenV_nonneg (v : TVector) : 0 ≤ lenV v := by unfold lenV; omega
theorem errMk_up (m : TMark) : 0 ≤ errMk m ∧ errMk m ≤ 180000 := by
  unfold errMk awayV
  split
  · omega
  · exact arcA_up (lenV_nonneg _)
/-- What is left to turn where t has been turned. -/
theorem sgnA_turn {f az t : Int} (hs : -5000 ≤ sgnA f az ∧ sgnA f az ≤ 5000) (ht : -5000 ≤ t ∧ t ≤ 5000) : sgnA ((f + t) % 360000) az = sgnA f az - t := by
  unfold sgnA at *
  split at hs <;> split <;> omega
theorem turnS_corr {t l : Int} (ht : -5000 ≤ t ∧ t ≤ 5000) : ∀ {a : List TMark}, (∀ (k : Nat) m, a[k]? = some m → validMk m = true) → turnS (a.map (corrMk t l)) = turnS a - t * a.length := by
  intro a
  induction a with
  | nil => intro _; simp [turnS]
  | cons m r ih =>
    intro hok
    have h1 := (validMk_fit (hok 0 m rfl)).1
    have h2 := ih fun k x hx => hok (k + 1) x (by simpa using hx)
    rw [List.map_cons, turnS, turnS, h2, List.length_cons, Int.natCast_add, Int.mul_add]
    show sgnA ((m.fFound + t) % 360000) m.fAzimuth + _ = _
    rw [sgnA_turn h1 ht]
    simp only [Int.natCast_one, Int.mul_one]
    omega
theorem rnd_near {a n : Int} (hn : 0 < n) : -n ≤ 2 * (a - rnd a n * n) ∧ 2 * (a - rnd a n * n) ≤ n := by
  unfold rnd
  split
  · have h1 := Int.emod_add_mul_ediv (2 * a + n) (2 * n)
    have h2 := Int.emod_nonneg (2 * a + n) (show 2 * n ≠ 0 by omega)
    have h3 := Int.emod_lt_of_pos (2 * a + n) (show 0 < 2 * n by omega)
    have h4 : 2 * n * ((2 * a + n) / (2 * n)) = 2 * ((2 * a + n) / (2 * n) * n) := by rw [Int.mul_assoc, Int.mul_comm n]
    omega
  · have h1 := Int.emod_add_mul_ediv (n - 2 * a) (2 * n)
    have h2 := Int.emod_nonneg (n - 2 * a) (show 2 * n ≠ 0 by omega)
    have h3 := Int.emod_lt_of_pos (n - 2 * a) (show 0 < 2 * n by omega)
    have h4 : 2 * n * ((n - 2 * a) / (2 * n)) = 2 * ((n - 2 * a) / (2 * n) * n) := by rw [Int.mul_assoc, Int.mul_comm n]
    rw [Int.neg_mul]
    omega
theorem rnd_rest {a n : Int} (hn : 0 < n) : -1 ≤ rnd (a - rnd a n * n) n ∧ rnd (a - rnd a n * n) n ≤ 1 := by
  have h := rnd_near (a := a) hn
  exact rnd_bound hn (by omega) (by omega)
/-- Corrected marks ask for no turn but one of rounding. -/
theorem turnM_again {a : List TMark} (h : askMk a = 0) : -1 ≤ turnM (fixedM a) ∧ turnM (fixedM a) ≤ 1 := by
  obtain ⟨hok, hl1, hl2⟩ := askMk_ok h
  have hb := (fitM_bound hok hl1).1
  unfold turnM
  rw [fixedM_len]
  unfold fixedM
  rw [turnS_corr hb hok]
  exact rnd_rest (by omega)
theorem askMk_fixed {a : List TMark} (h : askMk a = 0) (hc : corrOk (turnM a) (liftM a) a) : askMk (fixedM a) = 0 := by
  obtain ⟨_, hl1, hl2⟩ := askMk_ok h
  have h1 := corrOk_all hc
  have h2 : ¬ firstAt badMk (fixedM a) < (fixedM a).length := by
    intro h3
    have h4 := (firstAt_spec badMk (fixedM a)).2 _ (List.getElem?_eq_getElem h3)
    have h5 := h1 _ _ (List.getElem?_eq_getElem h3)
    have h6 : badMk (fixedM a)[firstAt badMk (fixedM a)] = false := by
      have h7 : validMk (fixedM a)[firstAt badMk (fixedM a)] = true := h5
      simp only [badMk, h7, Bool.not_true]
    rw [h6] at h4
    cases h4
  unfold askMk
  rw [if_neg h2, fixedM_len, if_pos ⟨hl1, hl2⟩]
/-- The indices of marks that do not fit. -/
def oddB (t l lim : Int) (m : TMark) : Bool := decide (lim < absI (sgnA m.fFound m.fAzimuth - t)) || decide (lim < absI (m.fAltitude - m.fHeight - l))
def oddL (t l lim : Int) (a : List TMark) : Nat → List Int
  | 0 => []
  | k + 1 => match a[k]? with
    | some m => if oddB t l lim m = true then oddL t l lim a k ++ [(k : Int)] else oddL t l lim a k
    | none => oddL t l lim a k
theorem oddL_yes {t l lim : Int} {a : List TMark} {k : Nat} {m : TMark} (h : a[k]? = some m) (ho : oddB t l lim m = true) : oddL t l lim a (k + 1) = oddL t l lim a k ++ [(k : Int)] := by
  rw [oddL, h]; simp only; rw [if_pos ho]
theorem oddL_no {t l lim : Int} {a : List TMark} {k : Nat} {m : TMark} (h : a[k]? = some m) (ho : ¬ oddB t l lim m = true) : oddL t l lim a (k + 1) = oddL t l lim a k := by
  rw [oddL, h]; simp only; rw [if_neg ho]
theorem oddL_len (t l lim : Int) (a : List TMark) (k : Nat) : (oddL t l lim a k).length ≤ k := by
  induction k with
  | zero => simp [oddL]
  | succ k ih =>
    rw [oddL]
    split
    · split
      · rw [List.length_append, List.length_singleton]; omega
      · omega
    · omega
theorem oddB_more {t l : Int} {m : TMark} (h : oddB t l 200 m = true) : oddB t l 50 m = true := by
  simp only [oddB, Bool.or_eq_true, decide_eq_true_eq] at *
  omega
theorem oddL_more {t l : Int} {a : List TMark} {k : Nat} : ∀ x ∈ oddL t l 200 a k, x ∈ oddL t l 50 a k := by
  induction k with
  | zero => intro x hx; cases hx
  | succ k ih =>
    cases hm : a[k]? with
    | none => rw [oddL, oddL, hm]; exact ih
    | some m =>
      intro x hx
      by_cases h1 : oddB t l 200 m = true
      · rw [oddL_yes hm h1, List.mem_append] at hx
        rw [oddL_yes hm (oddB_more h1), List.mem_append]
        exact hx.imp (ih x) id
      · rw [oddL_no hm h1] at hx
        by_cases h2 : oddB t l 50 m = true
        · rw [oddL_yes hm h2, List.mem_append]
          exact .inl (ih x hx)
        · rw [oddL_no hm h2]
          exact ih x hx
/-! ### Sessions as texts -/
def joinL : List (List UInt8) → List UInt8
  | [] => []
  | [p] => p
  | p :: q :: r => p ++ 44 :: joinL (q :: r)
def sessT (x : TSession) : List UInt8 := joinL ([x.fDay, x.fTurn, x.fLift, x.fError].map Lib.itoa)
theorem itoa_byte44 (n : Int) : ∀ x ∈ Lib.itoa n, x ≠ 44 := by
  intro x hx e
  subst e
  have := itoa_bytes n _ hx
  revert this
  decide
theorem splitC_free {c : UInt8} : ∀ {p : List UInt8}, (∀ x ∈ p, x ≠ c) → splitC c p = [p] := by
  intro p
  induction p with
  | nil => intro _; rfl
  | cons x r ih =>
    intro h
    have h1 := h x (by simp)
    have h2 := ih fun y hy => h y (by simp [hy])
    simp [splitC, h1, h2]
theorem splitC_joinL : ∀ {L : List (List UInt8)}, L ≠ [] → (∀ p ∈ L, ∀ x ∈ p, x ≠ 44) → splitC 44 (joinL L) = L := by
  intro L
  induction L with
  | nil => intro h; exact absurd rfl h
  | cons p r ih =>
    intro _ h
    cases r with
    | nil => exact splitC_free (h p (by simp))
    | cons q r =>
      rw [joinL, splitC_catC _ (h p (by simp)), ih (by simp) fun y hy => h y (by simp [hy])]
theorem itoa_dash (n : Int) : Lib.itoa n ≠ [45] := by
  intro h
  by_cases h0 : n < 0
  · obtain ⟨u, rfl⟩ : ∃ u : Nat, n = -(u : Int) := ⟨n.natAbs, by omega⟩
    rw [Lib.itoa_neg u (by omega)] at h
    exact (dec_ne (u + 1) u (by omega)).1 (List.cons.inj h).2
  · obtain ⟨u, rfl⟩ : ∃ u : Nat, n = u := ⟨n.toNat, by omega⟩
    rw [Lib.itoa_nonneg] at h
    have h1 := (dec_all (u + 1) u (by omega)).1
    rw [h] at h1
    exact absurd h1 (by decide)
theorem readS_sess {x : TSession} (h : sessB x = true) : readS (sessT x) = (x, true) := by
  have hb := h
  simp only [sessB, inB, Bool.and_eq_true, decide_eq_true_eq] at hb
  have e1 : splitC 44 (sessT x) = [x.fDay, x.fTurn, x.fLift, x.fError].map Lib.itoa := by
    unfold sessT
    refine splitC_joinL (by simp) fun p hp => ?_
    obtain ⟨n, _, rfl⟩ := List.mem_map.1 hp
    exact itoa_byte44 n
  have r1 := readN_itoa (n := x.fDay) (by omega)
  have r2 := readN_itoa (n := x.fTurn) (by omega)
  have r3 := readN_itoa (n := x.fLift) (by omega)
  have r4 := readN_itoa (n := x.fError) (by omega)
  have g : ∀ n : Int, -1000000000000 ≤ n ∧ n ≤ 1000000000000 → goodN (Lib.itoa n) = true := by
    intro n hn
    unfold goodN
    rw [readN_itoa hn]
    simpa [inB] using hn
  have hd : sessT x ≠ [45] := by
    intro e
    rw [e] at e1
    have h7 := congrArg List.length e1
    have h8 : (splitC 44 [45]).length = 1 := by decide
    rw [h8] at h7
    simp at h7
  have e2 : readL (sessT x) = ([x.fDay, x.fTurn, x.fLift, x.fError], true) := by
    rw [readL_good hd (by rw [e1]; simp) (by rw [e1]; simp [g _ (show -1000000000000 ≤ x.fDay ∧ x.fDay ≤ 1000000000000 by omega), g _ (show -1000000000000 ≤ x.fTurn ∧ x.fTurn ≤ 1000000000000 by omega), g _ (show -1000000000000 ≤ x.fLift ∧ x.fLift ≤ 1000000000000 by omega), g _ (show -1000000000000 ≤ x.fError ∧ x.fError ≤ 1000000000000 by omega)]), e1]
    simp [r1, r2, r3, r4]
  unfold readS
  rw [e2]
  simp only
  rw [if_pos h]
theorem sess_of {a : List TMark} {day : Int} (h : askMk a = 0) (hv : inB day 0 100000 = true) (hc : corrOk (turnM a) (liftM a) a) : sessB ⟨day, turnM a, liftM a, meanMk (fixedM a)⟩ = true := by
  obtain ⟨hok, hl1, hl2⟩ := askMk_ok h
  have hb := fitM_bound hok hl1
  have hm := meanMk_le (a := fixedM a) (by rw [fixedM_len]; exact hl1) (w := 180000) fun j m _ => (errMk_up m).2
  have hv2 : 0 ≤ day ∧ day ≤ 100000 := by simpa [inB] using hv
  simp only [sessB, inB, Bool.and_eq_true, decide_eq_true_eq]
  omega
end Go.Eng

namespace Go.Eng
open Go Go.RowKit Go.Proofs
set_option maxRecDepth 100000
theorem c_impl_FitMarks_bad (a : List TMark) (h : askMk a ≠ 0) : FnC Tryz.prog 23 G0 0 [] [.sl 4 (a.map encMark)] (fun d os => d = .tup [.int .i64 0, .int .i64 0, .int .i64 (askMk a)] ∧ os = []) := by
  refine fn_rule Tryz.func23 rfl (by decide +kernel) rfl (fun w0 F0 lent β0 => ?_)
  repeat' (first | refine sC ?_ | ((with_reducible refine isAwp ?_); first | (refine sS ?_; intro Q' hn he hr) | refine sA ?_) | (refine sH ?_; clear hn he hr Q') | refine sO ?_ | ((conv => whnf); first | refine sK ?_ | (refine sB ?_; repeat' (first | refine sb0 ?_ | (refine sb2 ?_ ?_ <;> intro hb <;> try exact cls))) | ((with_reducible refine isCall ?_); first | (refine call_pure (c_impl_checkMarks a) rfl rfl ?_)) | ((with_reducible refine isCallQ ?_); first | (refine callQ_pure (c_impl_checkMarks a) rfl rfl ?_)) | refine sP ?_ | (refine sE ?_; intro x hx) | (refine sF ?_; intro i y hi hy) | (refine sI ?_; intro i hi) | (refine sL ?_; intro hlen) | (refine sQ ?_; intro c hc hcm; try simp only [lnM, lnA, lnC, lnN] at hc) | (refine sX ?_; intro i1 i2 hi1 hi2 hj1 hj2; try simp only [cutL, lnM, lnA, lnC, lnN, lnT, lnD, lnR] at hi1 hi2 hj2) | refine sD ?_ | (refine ret_pick [] rfl rfl rfl ⟨?_, rfl⟩; conv => lhs; whnf) | (refine ret_pick [0] rfl rfl rfl ⟨rfl, ?_⟩) | (refine sH ?_; clear hn he hr Q')))
  all_goals first | rfl | exact absurd hb h
theorem c_impl_FitMarks_ok (a : List TMark) (h : askMk a = 0) : FnC Tryz.prog 23 G0 0 [] [.sl 4 (a.map encMark)] (fun d os => d = .tup [.int .i64 (turnM a), .int .i64 (liftM a), .int .i64 0] ∧ os = []) := by
  obtain ⟨hok, hl⟩ := askMk_ok h
  refine fn_rule Tryz.func23 rfl (by decide +kernel) rfl (fun w0 F0 lent β0 => ?_)
  repeat' (first | refine sC ?_ | ((with_reducible refine isAwp ?_); first | (refine sS ?_; intro Q' hn he hr) | refine sA ?_) | (refine sH ?_; clear hn he hr Q') | refine sO ?_ | ((conv => whnf); first | refine sK ?_ | (refine sB ?_; repeat' (first | refine sb0 ?_ | (refine sb2 ?_ ?_ <;> intro hb <;> try exact cls))) | ((with_reducible refine isCall ?_); first | (refine call_pure (c_impl_checkMarks a) rfl rfl ?_) | (refine call_pure (c_impl_fitMarks a hok hl) rfl rfl ?_)) | ((with_reducible refine isCallQ ?_); first | (refine callQ_pure (c_impl_checkMarks a) rfl rfl ?_) | (refine callQ_pure (c_impl_fitMarks a hok hl) rfl rfl ?_)) | refine sP ?_ | (refine sE ?_; intro x hx) | (refine sF ?_; intro i y hi hy) | (refine sI ?_; intro i hi) | (refine sL ?_; intro hlen) | (refine sQ ?_; intro c hc hcm; try simp only [lnM, lnA, lnC, lnN] at hc) | (refine sX ?_; intro i1 i2 hi1 hi2 hj1 hj2; try simp only [cutL, lnM, lnA, lnC, lnN, lnT, lnD, lnR] at hi1 hi2 hj2) | refine sD ?_ | (refine ret_pick [] rfl rfl rfl ⟨?_, rfl⟩; conv => lhs; whnf) | (refine ret_pick [0] rfl rfl rfl ⟨rfl, ?_⟩) | (refine sH ?_; clear hn he hr Q')))
  all_goals first | rfl | exact absurd h hb
theorem c_impl_OddMarks (a : List TMark) (lim : Int) (h : askMk a = 0) (hl : 0 ≤ lim ∧ lim ≤ 5000) : FnC Tryz.prog 29 G0 0 [] [.sl 4 (a.map encMark), .int .i64 lim] (fun d os => d = .tup [.h 0, .int .i64 0] ∧ os = [.row 2 1 ((oddL (turnM a) (liftM a) lim a a.length).map encI)]) := by
  obtain ⟨hok, hl1, hl2⟩ := askMk_ok h
  have hfm := fitM_bound hok hl1
  have hv : inB lim 0 5000 = true := by simp [inB]; omega
  refine fn_rule Tryz.func29 rfl (by decide +kernel) rfl (fun w0 F0 lent β0 => ?_)
  repeat' (first | refine sC ?_ | ((with_reducible refine isAwp ?_); first | (refine sS ?_; intro Q' hn he hr) | refine sA ?_) | (refine sH ?_; clear hn he hr Q') | refine sO ?_ | ((conv => whnf); first | refine sK ?_ | (refine sB ?_; repeat' (first | refine sb0 ?_ | (refine sb2 ?_ ?_ <;> intro hb <;> try exact cls))) | ((with_reducible refine isCall ?_); first | (refine call_pure (c_impl_checkMarks a) rfl rfl ?_) | (refine call_pure (c_within _ _ _) rfl rfl ?_) | (refine call_pure (c_impl_fitMarks a hok ⟨hl1, hl2⟩) rfl rfl ?_)) | ((with_reducible refine isCallQ ?_); first | (refine callQ_pure (c_impl_checkMarks a) rfl rfl ?_) | (refine callQ_pure (c_within _ _ _) rfl rfl ?_) | (refine callQ_pure (c_impl_fitMarks a hok ⟨hl1, hl2⟩) rfl rfl ?_)) | refine sP ?_ | (refine sE ?_; intro x hx) | (refine sF ?_; intro i y hi hy) | (refine sI ?_; intro i hi) | (refine sL ?_; intro hlen) | (refine sQ ?_; intro c hc hcm; try simp only [lnM, lnA, lnC, lnN] at hc) | (refine sX ?_; intro i1 i2 hi1 hi2 hj1 hj2; try simp only [cutL, lnM, lnA, lnC, lnN, lnT, lnD, lnR] at hi1 hi2 hj2) | refine sD ?_ | (refine ret_pick [] rfl rfl rfl ⟨?_, rfl⟩; conv => lhs; whnf) | (refine ret_pick [0] rfl rfl rfl ⟨rfl, ?_⟩) | (refine sH ?_; clear hn he hr Q')))
  refine loop_env (fun k : Nat => [(0,.sl 4 (a.map encMark)),(1,.int .i64 lim),(7,.int .i64 (turnM a)),(8,.int .i64 (liftM a)),(9,.h 0),(25,.sl 4 (a.map encMark)),(26,.int .i64 a.length),(27,.int .i64 k)]) (fun k => [.row 2 1 ((oddL (turnM a) (liftM a) lim a k).map encI)]) (fun k => k ≤ a.length) (fun k => a.length - k) 0 (by omega) (by refine Weak.trans (weak_adopt 9 2 1 rfl rfl) (weak_to rfl rfl rfl ?_); exact ⟨rfl, rfl, rfl, rfl, rfl, rfl, rfl, rfl, trivial⟩) (fun k hk Q' hn he hr => ?_)
  have h8 := oddL_len (turnM a) (liftM a) lim a k
  by_cases hkl : k < a.length
  · obtain ⟨m, hm⟩ : ∃ m, a[k]? = some m := ⟨_, List.getElem?_eq_getElem hkl⟩
    have hft := validMk_fit (hok k m hm)
    have hbd := validMk_bounds (hok k m hm)
    repeat' (first | refine sC ?_ | ((with_reducible refine isAwp ?_); first | (refine sS ?_; intro Q' hn he hr) | refine sA ?_) | (refine sH ?_; clear hn he hr Q') | refine sO ?_ | ((conv => whnf); first | refine sK ?_ | (refine sB ?_; repeat' (first | refine sb0 ?_ | (refine sb2 ?_ ?_ <;> intro hb <;> try exact cls))) | (refine ElemS.the hm ?_) | (refine ArithS.in64 (by omega) ?_) | ((with_reducible refine isCall ?_); first | (refine call_pure (c_impl_SignedBetween _ _ hbd.2.1 hbd.1.1) rfl rfl ?_) | (refine call_pure (c_absOf _ (by omega)) rfl rfl ?_)) | ((with_reducible refine isCallQ ?_); first | (refine callQ_pure (c_impl_SignedBetween _ _ hbd.2.1 hbd.1.1) rfl rfl ?_) | (refine callQ_pure (c_absOf _ (by omega)) rfl rfl ?_)) | refine sP ?_ | (refine sE ?_; intro x hx) | (refine sF ?_; intro i y hi hy) | (refine sI ?_; intro i hi) | (refine sL ?_; intro hlen) | (refine sQ ?_; intro c hc hcm; try simp only [lnM, lnA, lnC, lnN] at hc) | (refine sX ?_; intro i1 i2 hi1 hi2 hj1 hj2; try simp only [cutL, lnM, lnA, lnC, lnN, lnT, lnD, lnR] at hi1 hi2 hj2) | refine sD ?_ | (refine ret_pick [] rfl rfl rfl ⟨?_, rfl⟩; conv => lhs; whnf) | (refine ret_pick [0] rfl rfl rfl ⟨rfl, ?_⟩) | (refine sH ?_; clear hn he hr Q')))
    all_goals first
      | (have h9 : oddB (turnM a) (liftM a) lim m = true := (by simp only [oddB, Bool.or_eq_true, decide_eq_true_eq]; omega)
         refine ⟨k + 1, by omega, by omega, ?_⟩
         rw [oddL_yes hm h9]
         exact (by refine weak_to rfl rfl (by rw [List.map_append]; rfl) ?_; ((repeat' (first | exact trivial | refine And.intro ?_ ?_)) <;> (first | rfl | (conv => rhs; whnf) <;> (first | rfl | (refine congrArg (D.int _) ?_; omega))))))
      | (have h9 : ¬ oddB (turnM a) (liftM a) lim m = true := (by simp only [oddB, Bool.or_eq_true, decide_eq_true_eq]; omega)
         refine ⟨k + 1, by omega, by omega, ?_⟩
         rw [oddL_no hm h9]
         exact (by refine weak_to rfl rfl rfl ?_; ((repeat' (first | exact trivial | refine And.intro ?_ ?_)) <;> (first | rfl | (conv => rhs; whnf) <;> (first | rfl | (refine congrArg (D.int _) ?_; omega))))))
      | trace_state
  · obtain rfl : k = a.length := by omega
    repeat' (first | refine sC ?_ | ((with_reducible refine isAwp ?_); first | (refine sS ?_; intro Q' hn he hr) | refine sA ?_) | (refine sH ?_; clear hn he hr Q') | refine sO ?_ | ((conv => whnf); first | refine sK ?_ | (refine sB ?_; repeat' (first | refine sb0 ?_ | (refine sb2 ?_ ?_ <;> intro hb <;> try exact cls))) | refine sP ?_ | (refine sE ?_; intro x hx) | (refine sF ?_; intro i y hi hy) | (refine sI ?_; intro i hi) | (refine sL ?_; intro hlen) | (refine sQ ?_; intro c hc hcm; try simp only [lnM, lnA, lnC, lnN] at hc) | (refine sX ?_; intro i1 i2 hi1 hi2 hj1 hj2; try simp only [cutL, lnM, lnA, lnC, lnN, lnT, lnD, lnR] at hi1 hi2 hj2) | refine sD ?_ | (refine ret_pick [] rfl rfl rfl ⟨?_, rfl⟩; conv => lhs; whnf) | (refine ret_pick [0] rfl rfl rfl ⟨rfl, ?_⟩) | (refine sH ?_; clear hn he hr Q')))
    all_goals rfl
end Go.Eng

namespace Go.Eng
open Go Go.RowKit Go.Proofs
set_option maxRecDepth 100000
def zStr : List D := [.str []]
theorem texts_cells {F : Nat → Prop} {w : World} {v : Value} {a : List (List UInt8)} (h : RO F w v (.sl 1 (a.map encS))) :
    (a = [] ∧ ∃ ad c, v = .slice ad 0 c) ∨ ∃ b off cap, v = .slice (some ⟨b, off, none⟩) a.length cap ∧ F b ∧ a.length ≤ cap ∧ cap ≤ maxLen ∧ ∀ i x, a[i]? = some x → w.cell? ⟨b, off + i, none⟩ = some (.string ⟨x.toArray⟩) := by
  rcases h.sl_cases with ⟨he, ad, c, hv⟩ | ⟨b, off, cap, c, hv, hF, hcap, hm, hs, hc, hr⟩
  · left
    exact ⟨by simpa using he, ad, c, hv⟩
  · right
    refine ⟨b, off, cap, by simpa using hv, hF, by simpa using hcap, hm, fun i x hx => ?_⟩
    have hi : i < (a.map encS).length := by simpa using (List.getElem?_eq_some_iff.1 hx).1
    have e : (a.map encS).getD i [] = encS x := by simp [List.getD_eq_getElem?_getD, hx]
    have h0 := hr i 0 hi (by omega)
    rw [e] at h0
    have c0 := (Rep.ro (β := fun _ => none) _ _ (show RO F w (c i 0) (.str x) from h0)).str_inv
    have := (hc i 0 hi (by omega)).1
    rw [Nat.mul_one, Nat.add_zero] at this
    rw [← c0]
    exact this
theorem c_strings_Join (l : List (List UInt8)) (s : List UInt8) (hl : l.length ≤ 1000) (hlen : (Lib.join l s).length ≤ 1048576) : FnC Tryz.prog 134 G0 0 [] [.sl 1 (l.map encS), .str s] (fun d os => d = .str (Lib.join l s) ∧ os = []) := by
  refine FnC.of_calls (callFunc_enter Tryz.func134 rfl (by decide +kernel)) fun w F vs hF hln hr hG => ?_
  have h1 : vs.getD 1 undef = .string ⟨s.toArray⟩ := (Rep.ro (β := fun _ => none) _ _ (hr 1 (Nat.lt_of_sub_eq_succ rfl))).str_inv
  have h0 := hr 0 (Nat.lt_of_sub_eq_succ rfl)
  have ok : ∀ w' : World, RO (fun b => F b ∨ (w.heap.size ≤ b ∧ b < w'.heap.size)) w' (.string ⟨(Lib.join l s).toArray⟩) (.str (Lib.join l s)) := fun w' => .str _ (by unfold maxLen; omega)
  rcases texts_cells (show RO F w (vs.getD 0 undef) (.sl 1 (l.map encS)) from h0) with ⟨he, ad, c, hv⟩ | ⟨b, off, cap, hv, hFb, hcap, hm, hcells⟩
  · have e : vs.toArray = #[.slice ad 0 c, .string ⟨s.toArray⟩] := by rw [list2 hln, hv, h1]
    rw [e]
    refine (Tryz.strings_Join_none ad c ⟨s.toArray⟩ w).mono ?_
    rintro e w' ⟨rfl, rfl⟩
    subst he
    exact ⟨_, rfl, ⟨rfl, rfl, rfl, Nat.le_refl _, fun _ _ _ => rfl⟩, ok _⟩
  · have e : vs.toArray = #[.slice (some ⟨b, off, none⟩) (l.map fun x => (⟨x.toArray⟩ : ByteArray)).length cap, .string ⟨s.toArray⟩] := by rw [list2 hln, hv, h1, List.length_map]
    rw [e]
    have em : (l.map fun x => (⟨x.toArray⟩ : ByteArray)).map (·.data.toList) = l := by
      rw [List.map_map]
      conv => rhs; rw [← List.map_id l]
      exact List.map_congr_left fun x _ => by simp
    have es : (⟨s.toArray⟩ : ByteArray).data.toList = s := by simp
    have hj := Tryz.strings_Join b off cap (l.map fun x => (⟨x.toArray⟩ : ByteArray)) ⟨s.toArray⟩ w (fun j x hx => by
      rw [List.getElem?_map] at hx
      cases hy : l[j]? with
      | none => rw [hy] at hx; cases hx
      | some y =>
        rw [hy] at hx
        cases hx
        exact hcells j y hy) (hF b hFb) (by rw [List.length_map]; omega) (by rw [List.length_map]; exact hcap) (by rw [em, es]; omega)
    rw [em, es] at hj
    refine hj.mono ?_
    rintro e w' ⟨rfl, hb⟩
    exact ⟨_, rfl, ⟨hb.os, hb.tape, hb.output, hb.size, fun k hk _ => hb.block k hk⟩, ok _⟩
theorem join_is : ∀ l : List (List UInt8), Lib.join l [44] = joinL l := by
  intro l
  cases l with
  | nil => rfl
  | cons x r =>
    rw [Lib.join_cons]
    induction r generalizing x with
    | nil => simp [Lib.joinTail, joinL]
    | cons y r ih =>
      rw [joinL, ← ih y]
      simp [Lib.joinTail]
theorem joinL_len : ∀ l : List (List UInt8), (∀ x ∈ l, x.length ≤ 30) → (joinL l).length ≤ 31 * l.length := by
  intro l
  induction l with
  | nil => intro _; simp [joinL]
  | cons x r ih =>
    intro h
    have h1 := h x (by simp)
    have h2 := ih fun y hy => h y (by simp [hy])
    cases r with
    | nil => simp [joinL]; omega
    | cons y r =>
      rw [joinL]
      simp only [List.length_append, List.length_cons] at h2 ⊢
      omega
theorem c_impl_ListText (L : List Int) (h1 : 1 ≤ L.length ∧ L.length ≤ 64) (hb0 : ∀ (k : Nat) n, L[k]? = some n → -1000000000000 ≤ n ∧ n ≤ 1000000000000) : FnC Tryz.prog 88 GP 0 [] [.sl 1 (L.map encI)] (fun d os => d = .str (joinL (L.map Lib.itoa)) ∧ os = []) := by
  have hjl : (joinL (L.map Lib.itoa)).length ≤ 1048576 := by
    have h2 := joinL_len (L.map Lib.itoa) fun x hx => by
      obtain ⟨n, hn, rfl⟩ := List.mem_map.1 hx
      obtain ⟨k, hk⟩ := List.getElem?_of_mem hn
      have := hb0 k n hk
      have := Lib.itoa_length_le n (by omega) (by omega)
      omega
    rw [List.length_map] at h2
    omega
  have hcj := c_strings_Join (L.map Lib.itoa) [44] (by rw [List.length_map]; omega) (by rw [join_is]; exact hjl)
  rw [join_is] at hcj
  refine fn_rule Tryz.func88 rfl (by decide +kernel) rfl (fun w0 F0 lent β0 => ?_)
  repeat' (first | refine sC ?_ | ((with_reducible refine isAwp ?_); first | (refine sS ?_; intro Q' hn he hr) | refine sA ?_) | (refine sH ?_; clear hn he hr Q') | refine sO ?_ | ((conv => whnf); first | refine sK ?_ | (refine sB ?_; repeat' (first | refine sb0 ?_ | (refine sb2 ?_ ?_ <;> intro hb <;> try exact cls))) | refine sP ?_ | (refine sE ?_; intro x hx) | (refine sF ?_; intro i y hi hy) | (refine sI ?_; intro i hi) | (refine sL ?_; intro hlen) | (refine sQ ?_; intro c hc hcm; try simp only [lnM, lnA, lnC, lnN] at hc) | (refine sX ?_; intro i1 i2 hi1 hi2 hj1 hj2; try simp only [cutL, lnM, lnA, lnC, lnN, lnT, lnD, lnR] at hi1 hi2 hj2) | refine sD ?_ | (refine ret_pick [] rfl rfl rfl ⟨?_, rfl⟩; conv => lhs; whnf) | (refine ret_pick [0] rfl rfl rfl ⟨rfl, ?_⟩) | (refine sH ?_; clear hn he hr Q')))
  refine loop_env (fun k : Nat => [(0,.sl 1 (L.map encI)),(3,.h 0),(15,.sl 1 (L.map encI)),(16,.int .i64 L.length),(17,.int .i64 k)]) (fun k => [.row 9 1 (fill encS zStr (L.map Lib.itoa) k)]) (fun k => k ≤ L.length) (fun k => L.length - k) 0 (by omega) (by refine weak_to rfl rfl ?_ ?_; rw [fill_zero, List.length_map]; rfl; exact ⟨rfl, rfl, rfl, rfl, rfl, trivial⟩) (fun k hk Q' hn he hr => ?_)
  by_cases hkl : k < L.length
  · obtain ⟨n, hnk⟩ : ∃ n, L[k]? = some n := ⟨_, List.getElem?_eq_getElem hkl⟩
    have hbn := hb0 k n hnk
    have hv : inB n (-1000000000000) 1000000000000 = true := by simp [inB]; omega
    have hx9 : (L.map Lib.itoa)[k]? = some (Lib.itoa n) := by rw [List.getElem?_map, hnk]; rfl
    repeat' (first | refine sC ?_ | ((with_reducible refine isAwp ?_); first | (refine sS ?_; intro Q' hn he hr) | refine sA ?_) | (refine sH ?_; clear hn he hr Q') | refine sO ?_ | ((conv => whnf); first | refine sK ?_ | (refine sB ?_; repeat' (first | refine sb0 ?_ | (refine sb2 ?_ ?_ <;> intro hb <;> try exact cls))) | (refine ElemS.the hnk ?_) | (refine InS.fill (by rw [List.length_map]; omega) ?_) | (refine ElemS.fill (by rw [List.length_map]; omega) ?_) | ((with_reducible refine isCall ?_); first | (refine call_pure (FnC.anyG (c_within _ _ _)) rfl rfl ?_) | (refine call_pure (c_impl_Decimal n (by omega)) rfl rfl ?_)) | ((with_reducible refine isCallQ ?_); first | (refine callQ_pure (FnC.anyG (c_within _ _ _)) rfl rfl ?_) | (refine callQ_pure (c_impl_Decimal n (by omega)) rfl rfl ?_)) | refine sP ?_ | (refine sE ?_; intro x hx) | (refine sF ?_; intro i y hi hy) | (refine sI ?_; intro i hi) | (refine sL ?_; intro hlen) | (refine sQ ?_; intro c hc hcm; try simp only [lnM, lnA, lnC, lnN] at hc) | (refine sX ?_; intro i1 i2 hi1 hi2 hj1 hj2; try simp only [cutL, lnM, lnA, lnC, lnN, lnT, lnD, lnR] at hi1 hi2 hj2) | refine sD ?_ | (refine ret_pick [] rfl rfl rfl ⟨?_, rfl⟩; conv => lhs; whnf) | (refine ret_pick [0] rfl rfl rfl ⟨rfl, ?_⟩) | (refine sH ?_; clear hn he hr Q')))
    all_goals first
      | (refine ⟨k + 1, by omega, by omega, ?_⟩
         refine weak_to rfl rfl ?_ ⟨rfl, rfl, rfl, rfl, rfl, trivial⟩
         rw [← fill_set _ _ _ hx9]
         rfl)
      | trace_state
  · obtain rfl : k = L.length := by omega
    have hfa : fill encS zStr (L.map Lib.itoa) L.length = (L.map Lib.itoa).map encS := by
      have := fill_all encS zStr (L.map Lib.itoa)
      rwa [List.length_map] at this
    rw [hfa]
    repeat' (first | refine sC ?_ | ((with_reducible refine isAwp ?_); first | (refine sS ?_; intro Q' hn he hr) | refine sA ?_) | (refine sH ?_; clear hn he hr Q') | refine sO ?_ | ((conv => whnf); first | refine sK ?_ | (refine sB ?_; repeat' (first | refine sb0 ?_ | (refine sb2 ?_ ?_ <;> intro hb <;> try exact cls))) | ((with_reducible refine isCall ?_); first | (refine call_look (hcj.anyG) rfl ?_)) | ((with_reducible refine isCallQ ?_); first | (refine callQ_look (hcj.anyG) rfl ?_)) | refine sP ?_ | (refine sE ?_; intro x hx) | (refine sF ?_; intro i y hi hy) | (refine sI ?_; intro i hi) | (refine sL ?_; intro hlen) | (refine sQ ?_; intro c hc hcm; try simp only [lnM, lnA, lnC, lnN] at hc) | (refine sX ?_; intro i1 i2 hi1 hi2 hj1 hj2; try simp only [cutL, lnM, lnA, lnC, lnN, lnT, lnD, lnR] at hi1 hi2 hj2) | refine sD ?_ | (refine ret_pick [] rfl rfl rfl ⟨?_, rfl⟩; conv => lhs; whnf) | (refine ret_pick [0] rfl rfl rfl ⟨rfl, ?_⟩) | (refine sH ?_; clear hn he hr Q')))
    all_goals rfl
theorem c_impl_SessionText (x : TSession) (hv : sessB x = true) : FnC Tryz.prog 33 GP 0 [] [.agg (encSession x)] (fun d os => d = .str (sessT x) ∧ os = []) := by
  have hb0 := hv
  simp only [sessB, inB, Bool.and_eq_true, decide_eq_true_eq] at hb0
  have hlt := c_impl_ListText [x.fDay, x.fTurn, x.fLift, x.fError] ⟨by simp, by simp⟩ (by
    intro k n hk
    match k, hk with
    | 0, hk => cases hk; omega
    | 1, hk => cases hk; omega
    | 2, hk => cases hk; omega
    | 3, hk => cases hk; omega)
  refine fn_rule Tryz.func33 rfl (by decide +kernel) rfl (fun w0 F0 lent β0 => ?_)
  repeat' (first | refine sC ?_ | ((with_reducible refine isAwp ?_); first | (refine sS ?_; intro Q' hn he hr) | refine sA ?_) | (refine sH ?_; clear hn he hr Q') | refine sO ?_ | ((conv => whnf); first | refine sK ?_ | (refine sB ?_; repeat' (first | refine sb0 ?_ | (refine sb2 ?_ ?_ <;> intro hb <;> try exact cls))) | ((with_reducible refine isCall ?_); first | (refine call_pure (FnC.anyG (c_impl_validSession x)) rfl rfl ?_) | (refine call_look (hlt) rfl ?_)) | ((with_reducible refine isCallQ ?_); first | (refine callQ_pure (FnC.anyG (c_impl_validSession x)) rfl rfl ?_) | (refine callQ_look (hlt) rfl ?_)) | refine sP ?_ | (refine sE ?_; intro x hx) | (refine sF ?_; intro i y hi hy) | (refine sI ?_; intro i hi) | (refine sL ?_; intro hlen) | (refine sQ ?_; intro c hc hcm; try simp only [lnM, lnA, lnC, lnN] at hc) | (refine sX ?_; intro i1 i2 hi1 hi2 hj1 hj2; try simp only [cutL, lnM, lnA, lnC, lnN, lnT, lnD, lnR] at hi1 hi2 hj2) | refine sD ?_ | (refine ret_pick [] rfl rfl rfl ⟨?_, rfl⟩; conv => lhs; whnf) | (refine ret_pick [0] rfl rfl rfl ⟨rfl, ?_⟩) | (refine sH ?_; clear hn he hr Q')))
  all_goals first | rfl | trace_state
end Go.Eng
