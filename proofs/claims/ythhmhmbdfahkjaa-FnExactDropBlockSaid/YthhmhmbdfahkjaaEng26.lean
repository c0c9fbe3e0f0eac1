/-
  The engine, twenty-sixth part. Two lists compared element by element.
  No conditions.
-/
import Derived.Test.YthhmhmbdfahkjaaEng25
namespace Go.Eng
open Go Go.RowKit

def eqL {α : Type} (e : α → α → Bool) (a b : List α) : Bool := decide (a.length = b.length) && (a.zip b).all fun p => e p.1 p.2
theorem eqL_len {α : Type} {e : α → α → Bool} {a b : List α} (h : a.length ≠ b.length) : eqL e a b = false := by simp [eqL, h]
theorem eqL_at {α : Type} {e : α → α → Bool} {a b : List α} {k : Nat} {x y : α} (hx : a[k]? = some x) (hy : b[k]? = some y) (h : e x y = false) : eqL e a b = false := by
  have hm : (x, y) ∈ a.zip b := List.mem_of_getElem? (i := k) (by rw [List.getElem?_zip_eq_some]; exact ⟨hx, hy⟩)
  unfold eqL
  have h2 : ((a.zip b).all fun p => e p.1 p.2) = false := by
    rw [List.all_eq_false]
    exact ⟨(x, y), hm, by simp [h]⟩
  rw [h2, Bool.and_false]
theorem eqL_all {α : Type} {e : α → α → Bool} {a b : List α} (hl : a.length = b.length) (h : ∀ j x y, j < a.length → a[j]? = some x → b[j]? = some y → e x y = true) : eqL e a b = true := by
  unfold eqL
  rw [decide_eq_true hl, Bool.true_and, List.all_eq_true]
  intro p hp
  obtain ⟨j, hj⟩ := List.getElem?_of_mem hp
  rw [List.getElem?_zip_eq_some] at hj
  have h3 : j < a.length := by
    have h3 : j < a.length ∨ a.length ≤ j := by omega
    rcases h3 with h3 | h3
    · exact h3
    · rw [List.getElem?_eq_none h3] at hj; cases hj.1
  exact h j p.1 p.2 h3 hj.1 hj.2
/-- Alike so far. -/
def eqTo {α : Type} (e : α → α → Bool) (a b : List α) (k : Nat) : Prop := ∀ j x y, j < k → a[j]? = some x → b[j]? = some y → e x y = true
theorem eqTo_zero {α : Type} {e : α → α → Bool} {a b : List α} : eqTo e a b 0 := fun j _ _ h => absurd h (by omega)
theorem eqTo_succ {α : Type} {e : α → α → Bool} {a b : List α} {k : Nat} {x y : α} (h : eqTo e a b k) (hx : a[k]? = some x) (hy : b[k]? = some y) (he : e x y = true) : eqTo e a b (k + 1) := by
  intro j x' y' hj hx' hy'
  have h2 : j < k ∨ j = k := by omega
  rcases h2 with h2 | rfl
  · exact h j x' y' h2 hx' hy'
  · rw [hx] at hx'; rw [hy] at hy'; cases hx'; cases hy'; exact he
theorem eqL_refl {α : Type} {e : α → α → Bool} (he : ∀ x, e x x = true) (a : List α) : eqL e a a = true :=
  eqL_all rfl fun j x y _ hx hy => by rw [hx] at hy; cases hy; exact he x

/-! ### The size of a list -/
def szTo {α : Type} (f : α → Nat) (a : List α) (k : Nat) : Nat := a.length + ((a.take k).map f).sum
def szL {α : Type} (f : α → Nat) (a : List α) : Nat := szTo f a a.length
theorem szTo_zero {α : Type} (f : α → Nat) (a : List α) : szTo f a 0 = a.length := by simp [szTo]
theorem szTo_succ {α : Type} {f : α → Nat} {a : List α} {k : Nat} {x : α} (h : a[k]? = some x) : szTo f a (k + 1) = szTo f a k + f x := by
  unfold szTo
  rw [List.take_add_one, h]
  simp [Nat.add_assoc]
theorem szTo_mono {α : Type} (f : α → Nat) {a : List α} {k : Nat} (h : k ≤ a.length) : szTo f a k ≤ szL f a := by
  unfold szL szTo
  have h1 : a = a.take k ++ a.drop k := (List.take_append_drop k a).symm
  have h2 : (a.map f).sum = ((a.take k).map f).sum + ((a.drop k).map f).sum := by
    conv => lhs; rw [h1]
    rw [List.map_append, List.sum_append]
  rw [List.take_length, h2]
  omega
theorem szL_len {α : Type} (f : α → Nat) (a : List α) : a.length ≤ szL f a := by unfold szL szTo; omega
theorem szL_all {α : Type} (f : α → Nat) (a : List α) : szL f a = szTo f a a.length := rfl
def noSz {α : Type} (_ : α) : Nat := 0
theorem szL_noSz {α : Type} (a : List α) : szL noSz a = a.length := by
  have h : ∀ l : List α, (l.map noSz).sum = 0 := by
    intro l
    induction l with
    | nil => rfl
    | cons x r ih => simp [noSz, ih]
  unfold szL szTo
  rw [h, Nat.add_zero]

/-! ### Marks -/
def encI (n : Int) : List D := [.int .i64 n]
def encS (l : List UInt8) : List D := [.str l]
def encB (c : UInt8) : List D := [.int .u8 c.toNat]
/-- The first k elements are marked, from number q on, s numbers an element. -/
def mkTo {α : Type} (f : α → Int → α) (s : Nat) (q : Int) (a : List α) (k : Nat) : List α := (a.take k).mapIdx (fun j x => f x (q + s * j)) ++ a.drop k
def mkL {α : Type} (f : α → Int → α) (s : Nat) (q : Int) (a : List α) : List α := mkTo f s q a a.length
theorem mkTo_zero {α : Type} (f : α → Int → α) (s : Nat) (q : Int) (a : List α) : mkTo f s q a 0 = a := by simp [mkTo]
theorem mkTo_length {α : Type} (f : α → Int → α) (s : Nat) (q : Int) (a : List α) (k : Nat) : (mkTo f s q a k).length = a.length := by
  simp [mkTo]
  omega
theorem mkL_length {α : Type} (f : α → Int → α) (s : Nat) (q : Int) (a : List α) : (mkL f s q a).length = a.length := mkTo_length ..
theorem mkTo_at {α : Type} {f : α → Int → α} {s : Nat} {q : Int} {a : List α} {k : Nat} {x : α} (h : a[k]? = some x) : (mkTo f s q a k)[k]? = some x := by
  have hk : k < a.length := (List.getElem?_eq_some_iff.1 h).1
  unfold mkTo
  rw [List.getElem?_append_right (by simp; omega)]
  simp [Nat.min_eq_left (Nat.le_of_lt hk), h]
theorem mkTo_succ {α : Type} {f : α → Int → α} {s : Nat} {q : Int} {a : List α} {k : Nat} {x : α} (h : a[k]? = some x) : (mkTo f s q a k).set k (f x (q + s * k)) = mkTo f s q a (k + 1) := by
  have hk : k < a.length := (List.getElem?_eq_some_iff.1 h).1
  apply List.ext_getElem?
  intro i
  have hl1 : ((a.take k).mapIdx (fun j x => f x (q + s * j))).length = k := by simp; omega
  have hl2 : ((a.take (k + 1)).mapIdx (fun j x => f x (q + s * j))).length = k + 1 := by simp; omega
  rw [List.getElem?_set]
  by_cases hik : k = i
  · subst hik
    rw [if_pos rfl, if_pos (by rw [mkTo_length]; exact hk)]
    unfold mkTo
    rw [List.getElem?_append_left (by omega)]
    simp [List.getElem?_mapIdx, h]
  · rw [if_neg hik]
    unfold mkTo
    by_cases hi : i < k
    · rw [List.getElem?_append_left (by omega), List.getElem?_append_left (by omega)]
      simp [List.getElem?_mapIdx, List.getElem?_take, hi, show i < k + 1 from by omega]
    · rw [List.getElem?_append_right (by omega), List.getElem?_append_right (by omega), hl1, hl2]
      simp only [List.getElem?_drop]
      congr 1
      omega
theorem mkL_get {α : Type} {f : α → Int → α} {s : Nat} {q : Int} {a : List α} {k : Nat} {x : α} (h : (mkL f s q a)[k]? = some x) : ∃ y, a[k]? = some y ∧ x = f y (q + s * k) := by
  unfold mkL mkTo at h
  rw [List.take_length, List.drop_length, List.append_nil, List.getElem?_mapIdx] at h
  cases hy : a[k]? with
  | none => rw [hy] at h; cases h
  | some y => rw [hy] at h; exact ⟨y, rfl, (Option.some.inj h).symm⟩
def eqI (a b : Int) : Bool := a == b
def eqStr (a b : List UInt8) : Bool := a == b
theorem eqI_refl (x : Int) : eqI x x = true := by simp [eqI]
theorem eqStr_refl (x : List UInt8) : eqStr x x = true := by simp [eqStr]
def eqBo (a b : Bool) : Bool := a == b
theorem LenS.mkTo {α : Type} {enc : α → List D} {f : α → Int → α} {s : Nat} {q : Int} {a : List α} {k : Nat} {K : Int → Prop} (h : (a.length : Int) ≤ 9223372036854775807 → K a.length) : LenS ((mkTo f s q a k).map enc).length K := by
  rw [List.length_map, mkTo_length]
  exact LenS.int h
theorem LenS.mkL {α : Type} {enc : α → List D} {f : α → Int → α} {s : Nat} {q : Int} {a : List α} {K : Int → Prop} (h : (a.length : Int) ≤ 9223372036854775807 → K a.length) : LenS ((mkL f s q a).map enc).length K := LenS.mkTo h
theorem InS.mkTo {α : Type} {enc : α → List D} {f : α → Int → α} {s : Nat} {q : Int} {a : List α} {k i : Nat} {K : Nat → Prop} (h : i < a.length) (hk : K i) : InS (i : Int) ((mkTo f s q a k).map enc).length K := by
  rw [List.length_map, mkTo_length]
  exact InS.nat h hk
theorem InS.set {α : Type} {l : List α} {j : Nat} {x : α} {i : Int} {K : Nat → Prop} (h : InS i l.length K) : InS i (l.set j x).length K := by
  rw [List.length_set]
  exact h
theorem ElemS.mkTo {α : Type} {enc : α → List D} {f : α → Int → α} {s : Nat} {q : Int} {a : List α} {k : Nat} {K : List D → Prop} (h : k < a.length) (hk : ∀ x, a[k]? = some x → K (enc x)) : ElemS ((mkTo f s q a k).map enc) (k : Int) K := by
  refine ElemS.nat (by rw [mkTo_length]; exact h) fun x hx => hk x ?_
  have h2 : a[k]? = some a[k] := List.getElem?_eq_getElem h
  rw [mkTo_at h2] at hx
  rw [h2, hx]
theorem ElemS.set {l : List (List D)} {k : Nat} {c : List D} {K : List D → Prop} (h : k < l.length) (hk : K c) : ElemS (l.set k c) (k : Int) K := by
  refine ElemS.mk ⟨by omega, by rw [List.length_set]; omega, fun e he => ?_⟩
  have h2 : (l.set k c)[((k : Int)).toNat]? = some c := by simp [List.getElem?_set, h]
  rw [h2] at he
  cases he
  exact hk
theorem ElemS.mkL {α : Type} {enc : α → List D} {f : α → Int → α} {s : Nat} {q : Int} {a : List α} {k : Nat} {K : List D → Prop} (h : k < a.length) (hk : ∀ y, a[k]? = some y → K (enc (f y (q + s * k)))) : ElemS ((mkL f s q a).map enc) (k : Int) K := by
  refine ElemS.nat (by rw [mkL_length]; exact h) fun x hx => ?_
  obtain ⟨y, hy, rfl⟩ := mkL_get hx
  exact hk y hy

/-! ### Marks of texts -/
def digs : Nat → Nat → List UInt8 → List UInt8
  | 0, _, l => l
  | f + 1, n, l => if n = 0 then l else digs f (n / 10) (UInt8.ofNat (48 + n % 10) :: l)
/-- The text of the mark of number k. -/
def mtext (k : Int) : List UInt8 := if k ≤ 0 then [109, 48] else 109 :: digs 20 k.toNat []
theorem ArithS.to {k : IntKind} {n : Int} {K : Int → Prop} (m : Int) (h : n = m) (hk : k.wrap m = m) (hK : K m) : ArithS k n K := by
  subst h
  refine ArithS.mk ?_
  rwa [hk]
theorem wrap64 {m : Int} (h : -9223372036854775808 ≤ m ∧ m ≤ 9223372036854775807) : IntKind.i64.wrap m = m := by
  rw [IntKind.wrap_i64]
  omega
theorem wrap8 {m : Int} (h : 0 ≤ m ∧ m < 256) : IntKind.u8.wrap m = m := by
  rw [IntKind.wrap_u8]
  omega
theorem MakeS.lit (n : Nat) {bytes : Nat} {l c : Int} {K : Nat → Prop} (hl : l = (n : Int)) (hc : c = (n : Int)) (hb : Nat.ble bytes 65536 = true) (h : Nat.ble n 4294967296 = true) (hk : K n) : MakeS l c bytes K := by
  subst hl hc
  exact MakeS.nat hb (by have : n ≤ 4294967296 := by simpa using h
                         omega) hk
theorem InS.lit (k : Nat) {i : Int} {n : Nat} {K : Nat → Prop} (hi : i = (k : Int)) (h : Nat.blt k n = true) (hk : K k) : InS i n K := by
  subst hi
  exact InS.nat (by simpa [Nat.blt_eq] using h) hk
theorem ElemS.lit (k : Nat) {i : Int} {l : List (List D)} {c : List D} {K : List D → Prop} (hi : i = (k : Int)) (h : l[k]? = some c) (hk : K c) : ElemS l i K := by
  subst hi
  exact ElemS.mk ⟨by omega, by have := (List.getElem?_eq_some_iff.1 h).1; omega, fun e he => by rw [show ((k : Int)).toNat = k from by omega, h] at he; cases he; exact hk⟩
end Go.Eng
