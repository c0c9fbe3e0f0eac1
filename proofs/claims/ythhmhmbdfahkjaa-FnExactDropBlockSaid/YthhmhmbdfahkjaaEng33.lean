/-
  The engine, thirty-third part. Lists whose elements are valid and stand in order; searches in them.
  No conditions.
-/
import Derived.Test.YthhmhmbdfahkjaaEng32
namespace Go.Eng
open Go Go.RowKit

def chain {α : Type} (lt : α → α → Bool) : List α → Bool
  | x :: y :: r => lt x y && chain lt (y :: r)
  | _ => true
def listOk {α : Type} (p : α → Bool) (lt : α → α → Bool) (a : List α) : Bool := a.all p && chain lt a
def okTo {α : Type} (p : α → Bool) (lt : α → α → Bool) (a : List α) (k : Nat) : Prop := ∀ j x, j < k → a[j]? = some x → p x = true ∧ ∀ i y, i + 1 = j → a[i]? = some y → lt y x = true
theorem chain_iff {α : Type} {lt : α → α → Bool} : ∀ {l : List α}, chain lt l = true ↔ ∀ j x y, l[j]? = some x → l[j + 1]? = some y → lt x y = true
  | [] => by simp [chain]
  | [a] => by
    simp only [chain, true_iff]
    intro j x y _ h
    simp at h
  | a :: b :: r => by
    simp only [chain, Bool.and_eq_true]
    rw [chain_iff (l := b :: r)]
    constructor
    · rintro ⟨h1, h2⟩ j x y hx hy
      cases j with
      | zero =>
        simp at hx hy
        subst hx hy
        exact h1
      | succ j => exact h2 j x y (by simpa using hx) (by simpa using hy)
    · intro h
      exact ⟨h 0 a b rfl rfl, fun j x y hx hy => h (j + 1) x y (by simpa using hx) (by simpa using hy)⟩
theorem okTo_zero {α : Type} {p : α → Bool} {lt : α → α → Bool} {a : List α} : okTo p lt a 0 := fun _ _ h => absurd h (Nat.not_lt_zero _)
theorem okTo_succ {α : Type} {p : α → Bool} {lt : α → α → Bool} {a : List α} {k : Nat} {x : α} (h : okTo p lt a k) (hx : a[k]? = some x) (hp : p x = true) (hl : ∀ i y, i + 1 = k → a[i]? = some y → lt y x = true) : okTo p lt a (k + 1) := by
  intro j y hj hy
  by_cases e : j = k
  · subst e
    rw [hx] at hy
    cases hy
    exact ⟨hp, hl⟩
  · exact h j y (by omega) hy
theorem listOk_of {α : Type} {p : α → Bool} {lt : α → α → Bool} {a : List α} {k : Nat} (h : okTo p lt a k) (hk : a.length ≤ k) : listOk p lt a = true := by
  simp only [listOk, Bool.and_eq_true, List.all_eq_true, chain_iff]
  refine ⟨fun x hx => ?_, fun j x y hx hy => ?_⟩
  · obtain ⟨j, hj⟩ := List.mem_iff_getElem?.1 hx
    exact (h j x (by have := (List.getElem?_eq_some_iff.1 hj).1; omega) hj).1
  · exact (h (j + 1) y (by have := (List.getElem?_eq_some_iff.1 hy).1; omega) hy).2 j x rfl hx
theorem listOk_bad {α : Type} {p : α → Bool} {lt : α → α → Bool} {a : List α} {k : Nat} {x : α} (hx : a[k]? = some x) (hp : p x = false) : listOk p lt a = false := by
  rw [listOk, all_not_at hx hp]
  rfl
theorem listOk_unrising {α : Type} {p : α → Bool} {lt : α → α → Bool} {a : List α} {k i : Nat} {x y : α} (hx : a[k]? = some x) (hi : i + 1 = k) (hy : a[i]? = some y) (hl : lt y x = false) : listOk p lt a = false := by
  cases h : listOk p lt a with
  | false => rfl
  | true =>
    simp only [listOk, Bool.and_eq_true, chain_iff] at h
    have := h.2 i y x hy (by rw [hi]; exact hx)
    rw [hl] at this
    cases this
theorem listOk_at {α : Type} {p : α → Bool} {lt : α → α → Bool} {a : List α} (h : listOk p lt a = true) {k : Nat} {x : α} (hx : a[k]? = some x) : p x = true := by
  simp only [listOk, Bool.and_eq_true, List.all_eq_true] at h
  exact h.1 x (List.mem_of_getElem? hx)
theorem chain_sorted {α : Type} {lt : α → α → Bool} (ht : ∀ {x y z}, lt x y = true → lt y z = true → lt x z = true) {a : List α} (h : chain lt a = true) : ∀ {j i : Nat} {x y : α}, i < j → a[i]? = some x → a[j]? = some y → lt x y = true := by
  rw [chain_iff] at h
  intro j
  induction j with
  | zero => intro i x y hi; omega
  | succ j ih =>
    intro i x y hi hx hy
    by_cases e : i = j
    · subst e
      exact h i x y hx hy
    · have hlt : j < a.length := by have := (List.getElem?_eq_some_iff.1 hy).1; omega
      have hm : a[j]? = some a[j] := List.getElem?_eq_getElem hlt
      exact ht (ih (by omega) hx hm) (h j _ y hm hy)
theorem listOk_sorted {α : Type} {p : α → Bool} {lt : α → α → Bool} (ht : ∀ {x y z}, lt x y = true → lt y z = true → lt x z = true) {a : List α} (h : listOk p lt a = true) {j i : Nat} {x y : α} (hi : i < j) (hx : a[i]? = some x) (hy : a[j]? = some y) : lt x y = true := by
  simp only [listOk, Bool.and_eq_true] at h
  exact chain_sorted (lt := lt) ht h.2 hi hx hy

/-! ### The first of some kind -/
/-- How many elements stand ahead of the first for which q. -/
def firstAt {α : Type} (q : α → Bool) : List α → Nat
  | [] => 0
  | x :: r => if q x = true then 0 else firstAt q r + 1
theorem firstAt_le {α : Type} (q : α → Bool) : ∀ (a : List α), firstAt q a ≤ a.length
  | [] => Nat.le_refl _
  | x :: r => by
    unfold firstAt
    split
    · exact Nat.zero_le _
    · have := firstAt_le q r; simp; omega
theorem firstAt_eq {α : Type} {q : α → Bool} : ∀ {a : List α} {k : Nat}, k ≤ a.length → (∀ j x, j < k → a[j]? = some x → q x = false) → (∀ x, a[k]? = some x → q x = true) → firstAt q a = k
  | [], k, hk, _, _ => by simp at hk; subst hk; rfl
  | x :: r, 0, _, _, h => by unfold firstAt; rw [if_pos (h x rfl)]
  | x :: r, k + 1, hk, h1, h2 => by
    unfold firstAt
    rw [if_neg (by rw [h1 0 x (Nat.zero_lt_succ _) rfl]; simp), firstAt_eq (k := k) (by simpa using hk) (fun j y hj hy => h1 (j + 1) y (by omega) hy) (fun y hy => h2 y hy)]
theorem firstAt_spec {α : Type} (q : α → Bool) : ∀ (a : List α), (∀ j x, j < firstAt q a → a[j]? = some x → q x = false) ∧ (∀ x, a[firstAt q a]? = some x → q x = true)
  | [] => ⟨fun j x h => absurd h (Nat.not_lt_zero _), fun x h => by simp at h⟩
  | y :: r => by
    obtain ⟨h1, h2⟩ := firstAt_spec q r
    unfold firstAt
    by_cases hq : q y = true
    · rw [if_pos hq]
      exact ⟨fun j x h => absurd h (Nat.not_lt_zero _), fun x hx => by simp at hx; subst hx; exact hq⟩
    · rw [if_neg hq]
      refine ⟨fun j x hj hx => ?_, fun x hx => h2 x (by simpa using hx)⟩
      cases j with
      | zero => simp at hx; subst hx; simpa using hq
      | succ j => exact h1 j x (by omega) (by simpa using hx)
def noneTo {α : Type} (q : α → Bool) (a : List α) (k : Nat) : Prop := ∀ j x, j < k → a[j]? = some x → q x = false
theorem noneTo_zero {α : Type} {q : α → Bool} {a : List α} : noneTo q a 0 := fun _ _ h => absurd h (Nat.not_lt_zero _)
theorem noneTo_succ {α : Type} {q : α → Bool} {a : List α} {k : Nat} {x : α} (h : noneTo q a k) (hx : a[k]? = some x) (hp : q x = false) : noneTo q a (k + 1) := by
  intro j y hj hy
  by_cases e : j = k
  · subst e
    rw [hx] at hy
    cases hy
    exact hp
  · exact h j y (by omega) hy
theorem firstAt_here {α : Type} {q : α → Bool} {a : List α} {k : Nat} {x : α} (h : noneTo q a k) (hx : a[k]? = some x) (hq : q x = true) : firstAt q a = k :=
  firstAt_eq (by have := (List.getElem?_eq_some_iff.1 hx).1; omega) h (fun y hy => by rw [hx] at hy; cases hy; exact hq)
theorem firstAt_none {α : Type} {q : α → Bool} {a : List α} {k : Nat} (h : noneTo q a k) (hk : a.length ≤ k) : firstAt q a = a.length :=
  firstAt_eq (Nat.le_refl _) (fun j x hj hx => h j x (by omega) hx) (fun x hx => by simp at hx)

/-! ### Any index -/
theorem ElemS.at {α : Type} {enc : α → List D} {l : List α} {i : Int} {K : List D → Prop} (h : 0 ≤ i ∧ i < l.length) (hk : ∀ (j : Nat) x, (j : Int) = i → l[j]? = some x → K (enc x)) : ElemS (l.map enc) i K := by
  obtain ⟨k, rfl⟩ := Int.eq_ofNat_of_zero_le h.1
  exact ElemS.nat (by omega) fun x hx => hk k x rfl hx
theorem InS.at {i : Int} {n : Nat} {K : Nat → Prop} (h : 0 ≤ i ∧ i < n) (hk : ∀ j : Nat, (j : Int) = i → K j) : InS i n K := by
  obtain ⟨k, rfl⟩ := Int.eq_ofNat_of_zero_le h.1
  exact InS.nat (by omega) (hk k rfl)
theorem ByteS.at {l : List UInt8} {i : Int} {K : UInt8 → Prop} (h : 0 ≤ i ∧ i < l.length) (hk : ∀ (j : Nat) c, (j : Int) = i → l[j]? = some c → K c) : ByteS l i K := by
  obtain ⟨k, rfl⟩ := Int.eq_ofNat_of_zero_le h.1
  exact ByteS.nat (by omega) fun x hx => hk k x rfl hx

/-! ### Calls in drawn regions, by the contract alone -/
theorem viewC_noH {st : St} {d : D} (h : noH0 d = true) : viewC st d = d := by cases d <;> first | rfl | cases h
theorem view1_noH {st : St} {d : D} (h : noH0 d = true) : view1 st d = d := by cases d <;> first | rfl | cases h
theorem viewA_noH {st : St} {d : D} (h : noH d = true) : viewA st d = d := by
  cases d with
  | agg cs =>
    show D.agg (cs.map (view1 st)) = .agg cs
    have hc : cs.all noH0 = true := h
    rw [show cs.map (view1 st) = cs from by
      conv => rhs; rw [← List.map_id cs]
      exact List.map_congr_left fun c hm => view1_noH (List.all_eq_true.1 hc c hm)]
  | clo f cs =>
    show D.clo f (cs.map (view1 st)) = .clo f cs
    have hc : cs.all noH0 = true := h
    rw [show cs.map (view1 st) = cs from by
      conv => rhs; rw [← List.map_id cs]
      exact List.map_congr_left fun c hm => view1_noH (List.all_eq_true.1 hc c hm)]
  | _ => first | rfl | cases h
theorem view_noHT {st : St} {d : D} (h : noHT d = true) : view st d = d := by
  cases d with
  | tup ds =>
    have hc : ds.all noH = true := h
    show D.tup (ds.map (viewA st)) = .tup ds
    rw [show ds.map (viewA st) = ds from by
      conv => rhs; rw [← List.map_id ds]
      exact List.map_congr_left fun c hm => viewA_noH (List.all_eq_true.1 hc c hm)]
  | junk => rfl
  | int k n => exact viewA_noH (st := st) (d := .int k n) h
  | bool b => exact viewA_noH (st := st) (d := .bool b) h
  | str l => exact viewA_noH (st := st) (d := .str l) h
  | v x => exact viewA_noH (st := st) (d := .v x) h
  | agg cs => exact viewA_noH (st := st) (d := .agg cs) h
  | sl s es => exact viewA_noH (st := st) (d := .sl s es) h
  | rp cs => exact viewA_noH (st := st) (d := .rp cs) h
  | h o => exact viewA_noH (st := st) (d := .h o) h
  | hp o k => exact viewA_noH (st := st) (d := .hp o k) h
  | hr o s i k => exact viewA_noH (st := st) (d := .hr o s i k) h
  | hs o s a b => exact viewA_noH (st := st) (d := .hs o s a b) h
  | clo f cs => exact viewA_noH (st := st) (d := .clo f cs) h
theorem any_lt {α : Type} {a : List α} {q : α → Bool} {k : Nat} (h : (a[k]?).any q = true) : k < a.length := by
  rcases Nat.lt_or_ge k a.length with h1 | h1
  · exact h1
  · rw [List.getElem?_eq_none h1] at h; cases h
theorem callQ_pure {X : Ctx} {f : FuncId} {ds : List D} {st : St} {K : D → Prop} {d : D} (hc : FnC X.P f st.g 0 [] ds (fun d' os => d' = d ∧ os = [])) (hn : ds.all noH = true) (hd : noHT d = true) (hk : K d) : CallQ X f ds st K :=
  callQ_plain d hc hn (by rintro d' os ⟨rfl, rfl⟩; exact view_noHT hd) hk
theorem callQ_look {X : Ctx} {f : FuncId} {ds : List D} {st : St} {K : D → Prop} {d : D} (hc : FnC X.P f st.g 0 [] (ds.map (view st)) (fun d' os => d' = d ∧ os = [])) (hb : bare d = true) (hk : K d) : CallQ X f ds st K :=
  callQ_view d hc (by rintro d' os ⟨rfl, rfl⟩; rfl) hb hk

/-! ### Loops over several variables; numbers -/
theorem loop_env2 {X : Ctx} {b : Code} {Q : DExit → St → Prop} {env0 : List (Nat × D)} {nt : Nat} {objs0 : List Obj} {g : Nat → Option (List D)} {pin : Nat} {γ δ : Type}
    (E : γ → δ → List (Nat × D)) (O : γ → δ → List Obj) (inv : γ → δ → Prop) (μ : γ → δ → Nat) (g0 : γ) (d0 : δ) (h0 : inv g0 d0) (hw : Weak ⟨env0, nt, objs0, g, pin⟩ ⟨E g0 d0, nt, O g0 d0, g, pin⟩)
    (round : ∀ k l, inv k l → ∀ Q' : DExit → St → Prop, (∀ st', (∃ k' l', inv k' l' ∧ μ k' l' < μ k l ∧ Weak st' ⟨E k' l', nt, O k' l', g, pin⟩) → Q' .normal st') → (∀ i st', Q (.exit i) st' → Q' (.exit i) st') →
      (∀ st', Q .ret st' → Q' .ret st') → awp X b Q' ⟨E k l, nt, O k l, g, pin⟩) : SemC X (.loop b) Q ⟨env0, nt, objs0, g, pin⟩ :=
  loop_env (γ := γ × δ) (fun x => E x.1 x.2) (fun x => O x.1 x.2) (fun x => inv x.1 x.2) (fun x => μ x.1 x.2) (g0, d0) h0 hw
    (fun x hx Q' hn he hr => round x.1 x.2 hx Q' (fun st' ⟨k', l', h1, h2, h3⟩ => hn st' ⟨(k', l'), h1, h2, h3⟩) he hr)
theorem loop_env3 {X : Ctx} {b : Code} {Q : DExit → St → Prop} {env0 : List (Nat × D)} {nt : Nat} {objs0 : List Obj} {g : Nat → Option (List D)} {pin : Nat} {γ δ ε : Type}
    (E : γ → δ → ε → List (Nat × D)) (O : γ → δ → ε → List Obj) (inv : γ → δ → ε → Prop) (μ : γ → δ → ε → Nat) (g0 : γ) (d0 : δ) (e0 : ε) (h0 : inv g0 d0 e0) (hw : Weak ⟨env0, nt, objs0, g, pin⟩ ⟨E g0 d0 e0, nt, O g0 d0 e0, g, pin⟩)
    (round : ∀ k l m, inv k l m → ∀ Q' : DExit → St → Prop, (∀ st', (∃ k' l' m', inv k' l' m' ∧ μ k' l' m' < μ k l m ∧ Weak st' ⟨E k' l' m', nt, O k' l' m', g, pin⟩) → Q' .normal st') → (∀ i st', Q (.exit i) st' → Q' (.exit i) st') →
      (∀ st', Q .ret st' → Q' .ret st') → awp X b Q' ⟨E k l m, nt, O k l m, g, pin⟩) : SemC X (.loop b) Q ⟨env0, nt, objs0, g, pin⟩ :=
  loop_env (γ := γ × δ × ε) (fun x => E x.1 x.2.1 x.2.2) (fun x => O x.1 x.2.1 x.2.2) (fun x => inv x.1 x.2.1 x.2.2) (fun x => μ x.1 x.2.1 x.2.2) (g0, d0, e0) h0 hw
    (fun x hx Q' hn he hr => round x.1 x.2.1 x.2.2 hx Q' (fun st' ⟨k', l', m', h1, h2, h3⟩ => hn st' ⟨(k', l', m'), h1, h2, h3⟩) he hr)
theorem ArithS.inU64 {n : Int} {K : Int → Prop} (h : 0 ≤ n ∧ n ≤ 18446744073709551615) (hk : K n) : ArithS .u64 n K := by
  refine ArithS.mk ?_
  rw [show IntKind.u64.wrap n = n from by simp only [IntKind.wrap, IntKind.signed, IntKind.bits]; simp; omega]
  exact hk
theorem half_eq (i j : Nat) : ((i : Int) + (j : Int)).fdiv (2 ^ min (Int.toNat 1) IntKind.u64.bits) = (((i + j) / 2 : Nat) : Int) := by
  rw [show min (Int.toNat 1) IntKind.u64.bits = 1 from rfl, Int.fdiv_eq_ediv_of_nonneg _ (by decide)]
  omega
end Go.Eng
