/-
  The engine, fourth part. Operations that leave memory alone, as data.
  No conditions.
-/
import Derived.Test.YthhmhmbdfahkjaaEng3
import Derived.WalkLawsBesides
namespace Go.Eng
open Go Go.RowKit

def ofV0 : Value → D
  | .int k n => .int k n
  | .bool b => .bool b
  | .string s => bif Nat.ble s.data.toList.length 9223372036854775807 then .str s.data.toList else .v (.string s)
  | x => .v x
def ofV : Value → D
  | .agg cs => bif cs.toList.all (·.oneCell') then .agg (cs.toList.map ofV0) else .v (.agg cs)
  | x => ofV0 x

theorem RO.ofV0 (F : Nat → Prop) (w : World) (x : Value) : RO F w x (ofV0 x) := by
  cases x <;> simp only [Eng.ofV0] <;> first | exact .v _ | exact .int _ _ | exact .bool _ | skip
  rename_i s
  cases hb : Nat.ble s.data.toList.length 9223372036854775807 with
  | false => exact .v _
  | true =>
    have := RO.str (F := F) (w := w) s.data.toList (by simpa [maxLen] using hb)
    simpa using this
theorem RO.ofV (F : Nat → Prop) (w : World) (x : Value) : RO F w x (ofV x) := by
  cases x <;> simp only [Eng.ofV] <;> try exact RO.ofV0 _ _ _
  rename_i cs
  cases hb : cs.toList.all (·.oneCell') with
  | false => exact .v _
  | true =>
    have := RO.agg (F := F) (w := w) cs.toList (cs.toList.map Eng.ofV0) (by simp) (fun u hu => List.all_eq_true.1 hb u hu) (fun i hi => by
      have hi' : i < cs.size := by simpa using hi
      simp [hi']
      exact RO.ofV0 _ _ _)
    simpa using this

def St.ev (st : St) : Operand → D
  | .tmp t => look st.env t
  | .const x => ofV x
  | .global g => match st.g g with
    | some cs => .rp cs
    | none => .v (.pointer (some ⟨g, 0, none⟩))
  | .func f => .clo (.func f) []

theorem Rel.ev {X : Ctx} {st : St} {β : Nat → Option Value} {a : Act} {w : World} (h : Rel X st β a w) (x : Operand) : Rep (FX X st β w) β w (a.eval x) (st.ev x) := by
  cases x with
  | tmp t => exact h.tmps t
  | const v => exact .ro _ _ (RO.ofV _ _ _)
  | global g =>
    simp only [St.ev, Act.eval]
    cases hg : st.g g with
    | none => exact .ro _ _ (.v _)
    | some cs => exact .ro _ _ (h.glob g cs hg).1
  | func f =>
    have := Rep.clo (F := FX X st β w) (β := β) (w := w) (.func f) [] [] rfl (by simp)
    simpa [St.ev, Act.eval] using this

/-- The value of one cell. -/
def D.one : D → Bool
  | .int _ _ | .bool _ | .str _ | .sl _ _ | .rp _ | .h _ | .hp _ _ | .hr _ _ _ _ | .hs _ _ _ _ | .clo _ _ => true
  | .v x => x.oneCell'
  | _ => false
def D.cells : D → List D
  | .agg ds => ds
  | d => [d]

theorem Own.one {F : Nat → Prop} {β : Nat → Option Value} {w : World} {o : Obj} {x : Value} (hl : o.live) (h : Own F β w o x) : x.oneCell' = true := by
  cases o with
  | dead => exact hl.elim
  | row e s es =>
    obtain ⟨_, _, xs, h, _⟩ := h
    rcases h.2 with ⟨rfl, _⟩ | ⟨g, cap, cur, rfl, _⟩ <;> rfl
  | box cs => obtain ⟨b, c, T, rfl, _⟩ := h; rfl
  | frame vs e => obtain ⟨rfl, _⟩ := h; rfl
  | blk e s cs c => obtain ⟨g, cur, rfl, _⟩ := h; rfl

theorem Rel.one {X : Ctx} {st : St} {β : Nat → Option Value} {a : Act} {w : World} (h : Rel X st β a w) {v : Value} {d : D} (hd : d.one = true) (hv : Rep (FX X st β w) β w v d) : v.oneCell' = true := by
  cases d with
  | int => rw [hv.int_inv]; rfl
  | bool => rw [hv.bool_inv]; rfl
  | str => rw [hv.str_inv]; rfl
  | v x => rw [hv.v_inv]; exact hd
  | sl s es => have := hv.sl_inv; cases this <;> rfl
  | rp cs => have := hv.rp_inv; cases this <;> rfl
  | h o =>
    have hx := hv.h_inv
    obtain ⟨h1, h2⟩ := h.dom o v hx
    obtain ⟨y, hy, hw⟩ := h.own o h1 h2
    rw [hx] at hy
    cases hy
    exact Own.one h2 hw
  | hp o k => obtain ⟨b, x, _, _, rfl⟩ := hv.hp_inv; rfl
  | hr o s i k => obtain ⟨b, x, _, _, rfl⟩ := hv.hr_inv; rfl
  | hs o s a b => obtain ⟨x, _, p, l, c, q, _, _, _, _, rfl, _⟩ := hv.hs_inv; rfl
  | clo f ds => obtain ⟨cs, rfl, _⟩ := hv.clo_inv; rfl
  | junk => cases hd
  | agg => cases hd
  | tup => cases hd

def okCells : D → Bool
  | .agg _ => true
  | d => d.one

/-- The cells of a value, each of one cell. -/
theorem Rel.cells {X : Ctx} {st : St} {β : Nat → Option Value} {a : Act} {w : World} (h : Rel X st β a w) {v : Value} {d : D} (hd : okCells d = true) (hv : Rep (FX X st β w) β w v d) :
    v.cells.size = d.cells.length ∧ (∀ u ∈ v.cells.toList, u.oneCell' = true) ∧ ∀ j, j < d.cells.length → Rep (FX X st β w) β w (v.cells.toList.getD j undef) (d.cells.getD j .junk) := by
  by_cases hag : ∃ ds, d = .agg ds
  · obtain ⟨ds, rfl⟩ := hag
    obtain ⟨cs, rfl, hl, h1, hr⟩ := hv.agg_inv
    simp only [Value.cells, D.cells]
    exact ⟨by simpa using hl, by simpa using h1, by simpa using hr⟩
  · have hone : d.one = true := by
      cases d <;> simp_all [okCells]
    have hv1 := h.one hone hv
    have hc : v.cells = #[v] := by cases v <;> simp_all [Value.cells, Value.oneCell']
    have hdc : d.cells = [d] := by
      cases d <;> simp_all [D.cells]
    rw [hc, hdc]
    refine ⟨rfl, by simpa using hv1, fun j hj => ?_⟩
    have : j = 0 := by simpa using hj
    subst this
    simpa using hv

/-! ### Stops: goals that the evaluation leaves for the prover -/

/-- A result of arithmetic, wrapped. -/
@[irreducible] def ArithS (k : IntKind) (n : Int) (K : Int → Prop) : Prop := K (k.wrap n)
/-- An element of a list of elements. -/
@[irreducible] def ElemS (es : List (List D)) (i : Int) (K : List D → Prop) : Prop := 0 ≤ i ∧ i < es.length ∧ ∀ e, es[i.toNat]? = some e → K e
/-- A byte of a string. -/
@[irreducible] def ByteS (l : List UInt8) (i : Int) (K : UInt8 → Prop) : Prop := 0 ≤ i ∧ i < l.length ∧ ∀ c, l[i.toNat]? = some c → K c
/-- A cell of a list of cells. -/
@[irreducible] def PartS (l : List D) (i n : Nat) (K : List D → Prop) : Prop := i + n ≤ l.length ∧ K ((l.drop i).take n)
/-- An index within bounds. -/
@[irreducible] def InS (i : Int) (n : Nat) (K : Nat → Prop) : Prop := 0 ≤ i ∧ i < n ∧ K i.toNat
/-- Bounds of a slice expression. -/
@[irreducible] def CutS (lo hi : Int) (n : Nat) (K : Nat → Nat → Prop) : Prop := 0 ≤ lo ∧ lo ≤ hi ∧ hi ≤ n ∧ K lo.toNat hi.toNat
/-- A length that is known to be an int. -/
@[irreducible] def LenS (n : Nat) (K : Int → Prop) : Prop := n ≤ maxLen → K n
/-- A condition that the evaluation asks. -/
@[irreducible] def AskS (p : Prop) (K : Prop) : Prop := p ∧ K

theorem ArithS.mk {k : IntKind} {n : Int} {K : Int → Prop} (h : K (k.wrap n)) : ArithS k n K := by unfold ArithS; exact h
theorem ArithS.out {k : IntKind} {n : Int} {K : Int → Prop} (h : ArithS k n K) : K (k.wrap n) := by unfold ArithS at h; exact h
theorem ElemS.mk {es : List (List D)} {i : Int} {K : List D → Prop} (h : 0 ≤ i ∧ i < es.length ∧ ∀ e, es[i.toNat]? = some e → K e) : ElemS es i K := by unfold ElemS; exact h
theorem ElemS.out {es : List (List D)} {i : Int} {K : List D → Prop} (h : ElemS es i K) : ∃ k : Nat, i = k ∧ k < es.length ∧ K (es.getD k []) := by
  unfold ElemS at h
  obtain ⟨h0, h1, h2⟩ := h
  obtain ⟨k, rfl⟩ := Int.eq_ofNat_of_zero_le h0
  have hk : k < es.length := by omega
  refine ⟨k, rfl, hk, ?_⟩
  have := h2 es[k] (by simp [hk])
  simpa [List.getD_eq_getElem?_getD, hk] using this
theorem ByteS.mk {l : List UInt8} {i : Int} {K : UInt8 → Prop} (h : 0 ≤ i ∧ i < l.length ∧ ∀ c, l[i.toNat]? = some c → K c) : ByteS l i K := by unfold ByteS; exact h
theorem ByteS.out {l : List UInt8} {i : Int} {K : UInt8 → Prop} (h : ByteS l i K) : ∃ (k : Nat) (hk : k < l.length), i = k ∧ K l[k] := by
  unfold ByteS at h
  obtain ⟨h0, h1, h2⟩ := h
  obtain ⟨k, rfl⟩ := Int.eq_ofNat_of_zero_le h0
  have hk : k < l.length := by omega
  exact ⟨k, hk, rfl, h2 l[k] (by simp [hk])⟩
theorem PartS.mk {l : List D} {i n : Nat} {K : List D → Prop} (h : i + n ≤ l.length ∧ K ((l.drop i).take n)) : PartS l i n K := by unfold PartS; exact h
theorem PartS.out {l : List D} {i n : Nat} {K : List D → Prop} (h : PartS l i n K) : i + n ≤ l.length ∧ K ((l.drop i).take n) := by unfold PartS at h; exact h
theorem InS.mk {i : Int} {n : Nat} {K : Nat → Prop} (h : 0 ≤ i ∧ i < n ∧ K i.toNat) : InS i n K := by unfold InS; exact h
theorem InS.out {i : Int} {n : Nat} {K : Nat → Prop} (h : InS i n K) : ∃ k : Nat, i = k ∧ k < n ∧ K k := by
  unfold InS at h
  obtain ⟨h0, h1, h2⟩ := h
  obtain ⟨k, rfl⟩ := Int.eq_ofNat_of_zero_le h0
  exact ⟨k, rfl, by omega, h2⟩
theorem CutS.mk {lo hi : Int} {n : Nat} {K : Nat → Nat → Prop} (h : 0 ≤ lo ∧ lo ≤ hi ∧ hi ≤ n ∧ K lo.toNat hi.toNat) : CutS lo hi n K := by unfold CutS; exact h
theorem CutS.out {lo hi : Int} {n : Nat} {K : Nat → Nat → Prop} (h : CutS lo hi n K) : ∃ a b : Nat, lo = a ∧ hi = b ∧ a ≤ b ∧ b ≤ n ∧ K a b := by
  unfold CutS at h
  obtain ⟨h0, h1, h2, h3⟩ := h
  obtain ⟨a, rfl⟩ := Int.eq_ofNat_of_zero_le h0
  obtain ⟨b, rfl⟩ := Int.eq_ofNat_of_zero_le (Int.le_trans h0 h1)
  exact ⟨a, b, rfl, rfl, by omega, by omega, h3⟩
theorem LenS.mk {n : Nat} {K : Int → Prop} (h : n ≤ maxLen → K n) : LenS n K := by unfold LenS; exact h
theorem LenS.out {n : Nat} {K : Int → Prop} (h : LenS n K) : n ≤ maxLen → K n := by unfold LenS at h; exact h
theorem AskS.mk {p K : Prop} (h : p ∧ K) : AskS p K := by unfold AskS; exact h
theorem AskS.out {p K : Prop} (h : AskS p K) : p ∧ K := by unfold AskS at h; exact h

end Go.Eng
