/-
  The engine, fifth part. Operations that leave memory alone, as data: what they yield, and that the model yields it.
  No conditions.
-/
import Derived.Test.YthhmhmbdfahkjaaEng4
import Derived.Laws.StructEq
namespace Go.Eng
open Go Go.RowKit

/-- Operation o yields d at state st: it leaves memory alone. -/
def Yields (X : Ctx) (o : Oper) (st : St) (d : D) : Prop :=
  ∀ β a w, Rel X st β a w → ∃ v, (execOp a.eval o).run X.P w = .ok (.value v) w ∧ Rep (FX X st β w) β w v d

def bitsD (op : BinOp) (k : IntKind) (x y : Int) : Int :=
  let a := BitVec.ofInt k.bits x
  let b := BitVec.ofInt k.bits y
  match op with
  | .and => k.wrap (a &&& b).toNat
  | .or => k.wrap (a ||| b).toNat
  | .xor => k.wrap (a ^^^ b).toNat
  | _ => k.wrap (a &&& ~~~b).toNat

def intD (op : BinOp) (k k' : IntKind) (a b : Int) (K : D → Prop) : Prop :=
  match op with
  | .shl => AskS (0 ≤ b) (ArithS k (a * 2 ^ (min b.toNat k.bits)) fun n => K (.int k n))
  | .shr => AskS (0 ≤ b) (K (.int k (a.fdiv (2 ^ (min b.toNat k.bits)))))
  | op => if k = k' then
    (match op with
    | .add => ArithS k (a + b) fun n => K (.int k n)
    | .sub => ArithS k (a - b) fun n => K (.int k n)
    | .mul => ArithS k (a * b) fun n => K (.int k n)
    | .quo => AskS (b ≠ 0) (ArithS k (a.tdiv b) fun n => K (.int k n))
    | .rem => AskS (b ≠ 0) (K (.int k (a.tmod b)))
    | .and => K (.int k (bitsD .and k a b))
    | .or => K (.int k (bitsD .or k a b))
    | .xor => K (.int k (bitsD .xor k a b))
    | .andNot => K (.int k (bitsD .andNot k a b))
    | .eql => K (.bool (decide (a = b)))
    | .neq => K (.bool (!decide (a = b)))
    | .lss => K (.bool (decide (a < b)))
    | .leq => K (.bool (decide (a ≤ b)))
    | .gtr => K (.bool (decide (b < a)))
    | .geq => K (.bool (decide (b ≤ a)))
    | _ => False)
    else False

def strD (op : BinOp) (a b : List UInt8) (K : D → Prop) : Prop :=
  match op with
  | .add => AskS (a.length + b.length ≤ maxLen) (K (.str (a ++ b)))
  | .eql => K (.bool (a == b))
  | .neq => K (.bool (!(a == b)))
  | .lss => K (.bool (Op.bytesLess a b))
  | .leq => K (.bool (Op.bytesLess a b || a == b))
  | .gtr => K (.bool (!(Op.bytesLess a b || a == b)))
  | .geq => K (.bool (!Op.bytesLess a b))
  | _ => False

/-- Two structs are alike, field by field, as b says. -/
def EqD (P : Program) (t : TypeId) (xs ys : List D) (b : Bool) : Prop :=
  P.eqGuardType P.depth t = false ∧ ∀ (w : World) (F : Nat → Prop) (β : Nat → Option Value) vx vy, Rep F β w vx (.agg xs) → Rep F β w vy (.agg ys) → (Op.equalIn 10000 t vx vy).run P w = .ok b w
@[irreducible] def EqS (P : Program) (t : TypeId) (xs ys : List D) (K : Bool → Prop) : Prop := ∃ b, EqD P t xs ys b ∧ K b
theorem EqS.mk {P : Program} {t : TypeId} {xs ys : List D} {K : Bool → Prop} {b : Bool} (h : EqD P t xs ys b) (hk : K b) : EqS P t xs ys K := by unfold EqS; exact ⟨b, h, hk⟩
theorem EqS.out {P : Program} {t : TypeId} {xs ys : List D} {K : Bool → Prop} (h : EqS P t xs ys K) : ∃ b, EqD P t xs ys b ∧ K b := by unfold EqS at h; exact h

def eqCell (P : Program) (t : TypeId) (x y : D) : Option Bool :=
  match P.underlying t, x, y with
  | some (.int _), .int a n, .int b m => bif decide (a = b) then some (n == m) else none
  | some .string, .str a, .str b => some (a == b)
  | some .bool, .bool a, .bool b => some (a == b)
  | _, _, _ => none
def eqFlds (P : Program) (xs ys : List D) : List Field → Option Bool
  | [] => some true
  | f :: fs => bif f.name == "_" || !(Nat.blt f.offset xs.length && Nat.blt f.offset ys.length) then none else
    match eqCell P f.type (xs.getD f.offset .junk) (ys.getD f.offset .junk), eqFlds P xs ys fs with
    | some a, some b => some (a && b)
    | _, _ => none

theorem eqCell_sound {P : Program} {t : TypeId} {x y : D} {b : Bool} (h : eqCell P t x y = some b) (d : Nat) (w : World) {F : Nat → Prop} {β : Nat → Option Value} {vx vy : Value} (hx : Rep F β w vx x) (hy : Rep F β w vy y) :
    (isAgg t).run P w = .ok false w ∧ (Op.equalIn (d + 1) t vx vy).run P w = .ok b w := by
  unfold eqCell at h
  split at h
  · rename_i k a n b' m hu
    cases hd : decide (a = b') with
    | false => rw [hd] at h; cases h
    | true =>
      rw [hd] at h
      have hab : a = b' := by simpa using hd
      subst hab
      rw [hx.int_inv, hy.int_inv]
      cases h
      exact ⟨by simp [isAgg, run_underlying hu], run_equalIn_int w d t a _ n m hu⟩
  · rename_i a b' hu
    rw [hx.str_inv, hy.str_inv]
    cases h
    exact ⟨by simp [isAgg, run_underlying hu], by rw [run_equalIn_string w d t _ _ hu]; simp [ByteArray.toList_eq]⟩
  · rename_i a b' hu
    rw [hx.bool_inv, hy.bool_inv]
    cases h
    exact ⟨by simp [isAgg, run_underlying hu], run_equalIn_bool' w d t a b' hu⟩
  · cases h

theorem part_cell {P : Program} {t : TypeId} {w : World} (h : (isAgg t).run P w = .ok false w) {cs : List Value} {off : Nat} (ho : off < cs.length) : (part t cs.toArray off).run P w = .ok (cs.getD off undef) w := by
  simp [part, h, List.getD_eq_getElem?_getD, ho]

theorem eqFlds_sound {P : Program} {w : World} {F : Nat → Prop} {β : Nat → Option Value} {xs ys : List D} {cx cy : List Value} (hlx : cx.length = xs.length) (hly : cy.length = ys.length)
    (hx : ∀ i, i < xs.length → Rep F β w (cx.getD i undef) (xs.getD i .junk)) (hy : ∀ i, i < ys.length → Rep F β w (cy.getD i undef) (ys.getD i .junk)) (d : Nat) :
    ∀ (fs : List Field) (b : Bool), eqFlds P xs ys fs = some b → (Op.eqFields (d + 1) cx.toArray cy.toArray fs).run P w = .ok b w
  | [], b, h => by cases h; simp [Op.eqFields]
  | f :: fs, b, h => by
    unfold eqFlds at h
    cases hc : (f.name == "_" || !(Nat.blt f.offset xs.length && Nat.blt f.offset ys.length)) with
    | true => rw [hc] at h; cases h
    | false =>
      rw [hc] at h
      simp only [cond_false] at h
      split at h
      · rename_i a b' h1 h2
        cases h
        simp only [Bool.or_eq_false_iff, beq_eq_false_iff_ne, Bool.not_eq_false', Bool.and_eq_true, Nat.blt_eq] at hc
        obtain ⟨hn, hox, hoy⟩ := hc
        obtain ⟨g1, g2⟩ := eqCell_sound h1 d w (hx _ hox) (hy _ hoy)
        have ih := eqFlds_sound hlx hly hx hy d fs b' h2
        simp only [Op.eqFields, ne_eq, hn, not_false_eq_true, if_true, Sem.run_bind, part_cell g1 (by omega : f.offset < cx.length), part_cell g1 (by omega : f.offset < cy.length), Result.andThen_ok, g2]
        cases a
        · simp
        · simp [ih]
      · cases h

/-- A struct of numbers, strings and truth values. -/
theorem EqD.flat {P : Program} {t : TypeId} {xs ys : List D} {b : Bool} (fs : Array Field) (hu : P.underlying t = some (.struct fs)) (hs : P.stoodInHeld t = false) (hg : P.eqGuardType P.depth t = false)
    (hb : eqFlds P xs ys fs.toList = some b) : EqD P t xs ys b := by
  refine ⟨hg, fun w F β vx vy hx hy => ?_⟩
  obtain ⟨cx, rfl, hlx, _, hrx⟩ := hx.agg_inv
  obtain ⟨cy, rfl, hly, _, hry⟩ := hy.agg_inv
  have hf : P.fieldsOf t = fs := by simp [Program.fieldsOf, hu]
  rw [show (10000 : Nat) = 9998 + 1 + 1 from rfl, run_equalIn_agg w (9998 + 1) t _ _ (by rw [hf]; exact hu) hs, hf]
  exact eqFlds_sound hlx hly hrx hry 9998 _ _ hb

def binD (P : Program) (t : TypeId) (op : BinOp) (x y : D) (K : D → Prop) : Prop :=
  match x, y with
  | .int k a, .int k' b => intD op k k' a b K
  | .str a, .str b => strD op a b K
  | .bool a, .bool b => match op, P.underlying t with
    | .eql, some .bool => K (.bool (a == b))
    | .neq, some .bool => K (.bool (!(a == b)))
    | _, _ => False
  | .agg xs, .agg ys => match op with
    | .eql => EqS P t xs ys fun b => K (.bool b)
    | .neq => EqS P t xs ys fun b => K (.bool (!b))
    | _ => False
  | _, _ => False

section
variable {X : Ctx} {o : Oper} {st : St}

theorem yields_of {d : D} {K : D → Prop} (hk : K d) (h : Yields X o st d) : ∃ d, K d ∧ Yields X o st d := ⟨d, hk, h⟩

theorem ba_toList (s : ByteArray) : s.toList = s.data.toList := ByteArray.toList_eq s

theorem intD_sound {op : BinOp} {t : TypeId} {x y : Operand} {yt : TypeId} {k k' : IntKind} {a b : Int} {K : D → Prop} (h : intD op k k' a b K) :
    ∃ d, K d ∧ ∀ (P : Program) (w : World) (F : Nat → Prop) (β : Nat → Option Value), ∃ v,
      (do eqGuard op t x y (.int k a) (.int k' b); binOp op t (.int k a) (.int k' b)).run P w = .ok v w ∧ Rep F β w v d := by
  have R : ∀ (n : Int) (F : Nat → Prop) (β : Nat → Option Value) (w : World), Rep F β w (.int k n) (.int k n) := fun n F β w => .ro _ _ (.int _ _)
  have B : ∀ (n : Bool) (F : Nat → Prop) (β : Nat → Option Value) (w : World), Rep F β w (.bool n) (.bool n) := fun n F β w => .ro _ _ (.bool _)
  by_cases hk : k = k'
  · subst hk
    cases op <;> simp only [intD, if_pos] at h <;> try (exact h.elim)
    case add => exact ⟨_, h.out, fun P w F β => ⟨_, by simp [eqGuard, binOp, Op.intArith], R _ _ _ _⟩⟩
    case sub => exact ⟨_, h.out, fun P w F β => ⟨_, by simp [eqGuard, binOp, Op.intArith], R _ _ _ _⟩⟩
    case mul => exact ⟨_, h.out, fun P w F β => ⟨_, by simp [eqGuard, binOp, Op.intArith], R _ _ _ _⟩⟩
    case quo => exact ⟨_, h.out.2.out, fun P w F β => ⟨_, by simp [eqGuard, binOp, Op.intDiv, h.out.1], R _ _ _ _⟩⟩
    case rem => exact ⟨_, h.out.2, fun P w F β => ⟨_, by simp [eqGuard, binOp, Op.intDiv, h.out.1], R _ _ _ _⟩⟩
    case and => exact ⟨_, h, fun P w F β => ⟨_, by simp [eqGuard, binOp, Op.intBits, bitsD], R _ _ _ _⟩⟩
    case or => exact ⟨_, h, fun P w F β => ⟨_, by simp [eqGuard, binOp, Op.intBits, bitsD], R _ _ _ _⟩⟩
    case xor => exact ⟨_, h, fun P w F β => ⟨_, by simp [eqGuard, binOp, Op.intBits, bitsD], R _ _ _ _⟩⟩
    case andNot => exact ⟨_, h, fun P w F β => ⟨_, by simp [eqGuard, binOp, Op.intBits, bitsD], R _ _ _ _⟩⟩
    case eql => exact ⟨_, h, fun P w F β => ⟨_, by simp [eqGuard, binOp, Op.intCmp]; rfl, B _ _ _ _⟩⟩
    case neq => exact ⟨_, h, fun P w F β => ⟨_, by simp [eqGuard, binOp, Op.intCmp]; rfl, B _ _ _ _⟩⟩
    case lss => exact ⟨_, h, fun P w F β => ⟨_, by simp [eqGuard, binOp, Op.intCmp], B _ _ _ _⟩⟩
    case leq => exact ⟨_, h, fun P w F β => ⟨_, by simp [eqGuard, binOp, Op.intCmp], B _ _ _ _⟩⟩
    case gtr => exact ⟨_, h, fun P w F β => ⟨_, by simp [eqGuard, binOp, Op.intCmp], B _ _ _ _⟩⟩
    case geq => exact ⟨_, h, fun P w F β => ⟨_, by simp [eqGuard, binOp, Op.intCmp], B _ _ _ _⟩⟩
    case shl => exact ⟨_, h.out.2.out, fun P w F β => ⟨_, by simp [eqGuard, binOp, Op.shift, Int.not_lt.2 h.out.1], R _ _ _ _⟩⟩
    case shr => exact ⟨_, h.out.2, fun P w F β => ⟨_, by simp [eqGuard, binOp, Op.shift, Int.not_lt.2 h.out.1], R _ _ _ _⟩⟩
  · cases op <;> simp only [intD, if_neg hk] at h <;> try (exact h.elim)
    case shl => exact ⟨_, h.out.2.out, fun P w F β => ⟨_, by simp [eqGuard, binOp, Op.shift, Int.not_lt.2 h.out.1], R _ _ _ _⟩⟩
    case shr => exact ⟨_, h.out.2, fun P w F β => ⟨_, by simp [eqGuard, binOp, Op.shift, Int.not_lt.2 h.out.1], R _ _ _ _⟩⟩

theorem strD_sound {op : BinOp} {t : TypeId} {x y : Operand} {a b : List UInt8} {K : D → Prop} (h : strD op a b K) :
    ∃ d, K d ∧ ∀ (P : Program) (w : World) (F : Nat → Prop) (β : Nat → Option Value), ∃ v,
      (do eqGuard op t x y (.string ⟨a.toArray⟩) (.string ⟨b.toArray⟩); binOp op t (.string ⟨a.toArray⟩) (.string ⟨b.toArray⟩)).run P w = .ok v w ∧ Rep F β w v d := by
  have B : ∀ (n : Bool) (F : Nat → Prop) (β : Nat → Option Value) (w : World), Rep F β w (.bool n) (.bool n) := fun n F β w => .ro _ _ (.bool _)
  cases op <;> simp only [strD] at h <;> try (exact h.elim)
  case add =>
    refine ⟨_, h.out.2, fun P w F β => ⟨.string ⟨(a ++ b).toArray⟩, ?_, .ro _ _ (.str _ (by rw [List.length_append]; exact h.out.1))⟩⟩
    have h1 := h.out.1
    simp only [maxLen] at h1
    have h2 : ¬ ((9223372036854775807 : Int) < (((⟨a.toArray⟩ : ByteArray).size + (⟨b.toArray⟩ : ByteArray).size : Nat) : Int)) := by
      simp [ByteArray.size]; omega
    have h3 : (⟨a.toArray⟩ : ByteArray) ++ ⟨b.toArray⟩ = ⟨(a ++ b).toArray⟩ := ByteArray.ext (by simp)
    have h4 : eqGuard .add t x y (.string ⟨a.toArray⟩) (.string ⟨b.toArray⟩) = pure () := rfl
    have h5 : IntKind.i64.max = 9223372036854775807 := rfl
    rw [h4]
    simp only [binOp, Op.stringOp, h5, if_neg h2, Sem.run_bind, Sem.run_pure, Result.andThen_ok, h3]
  case eql => exact ⟨_, h, fun P w F β => ⟨_, by simp [eqGuard, binOp, Op.stringOp, ba_toList], B _ _ _ _⟩⟩
  case neq => exact ⟨_, h, fun P w F β => ⟨_, by simp [eqGuard, binOp, Op.stringOp, ba_toList], B _ _ _ _⟩⟩
  case lss => exact ⟨_, h, fun P w F β => ⟨_, by simp [eqGuard, binOp, Op.stringOp, ba_toList], B _ _ _ _⟩⟩
  case leq => exact ⟨_, h, fun P w F β => ⟨_, by simp [eqGuard, binOp, Op.stringOp, ba_toList], B _ _ _ _⟩⟩
  case gtr => exact ⟨_, h, fun P w F β => ⟨_, by simp [eqGuard, binOp, Op.stringOp, ba_toList], B _ _ _ _⟩⟩
  case geq => exact ⟨_, h, fun P w F β => ⟨_, by simp [eqGuard, binOp, Op.stringOp, ba_toList], B _ _ _ _⟩⟩

theorem binD_sound {P : Program} {op : BinOp} {t : TypeId} {x y : Operand} {dx dy : D} {K : D → Prop} (h : binD P t op dx dy K) :
    ∃ d, K d ∧ ∀ (w : World) (F : Nat → Prop) (β : Nat → Option Value) vx vy, Rep F β w vx dx → Rep F β w vy dy → ∃ v,
      (do eqGuard op t x y vx vy; binOp op t vx vy).run P w = .ok v w ∧ Rep F β w v d := by
  unfold binD at h
  split at h
  · obtain ⟨d, hk, hd⟩ := intD_sound (t := t) (x := x) (y := y) (yt := t) h
    exact ⟨d, hk, fun w F β vx vy hx hy => by rw [hx.int_inv, hy.int_inv]; exact hd P w F β⟩
  · obtain ⟨d, hk, hd⟩ := strD_sound (t := t) (x := x) (y := y) h
    exact ⟨d, hk, fun w F β vx vy hx hy => by rw [hx.str_inv, hy.str_inv]; exact hd P w F β⟩
  · rename_i a b
    split at h
    · rename_i hu
      refine ⟨_, h, fun w F β vx vy hx hy => ⟨_, ?_, .ro _ _ (.bool _)⟩⟩
      rw [hx.bool_inv, hy.bool_inv]
      have h1 : eqGuard .eql t x y (.bool a) (.bool b) = pure () := by simp [eqGuard]
      rw [h1]
      simp [run_eql_bool _ t a b hu]
    · rename_i hu
      refine ⟨_, h, fun w F β vx vy hx hy => ⟨_, ?_, .ro _ _ (.bool _)⟩⟩
      rw [hx.bool_inv, hy.bool_inv]
      have h1 : eqGuard .neq t x y (.bool a) (.bool b) = pure () := by simp [eqGuard]
      rw [h1]
      simp [run_neq_bool _ t a b hu]
    · exact h.elim
  · rename_i xs ys
    split at h
    · obtain ⟨b, ⟨hg, he⟩, hk⟩ := h.out
      refine ⟨_, hk, fun w F β vx vy hx hy => ⟨_, ?_, .ro _ _ (.bool _)⟩⟩
      have he := he w F β vx vy hx hy
      obtain ⟨cx, rfl, _⟩ := hx.agg_inv
      obtain ⟨cy, rfl, _⟩ := hy.agg_inv
      rw [Sem.run_bind, run_eqGuard_agg w _ t x y _ _ hg]
      simp only [Result.andThen_ok]
      rw [run_eql_struct, he]
      rfl
    · obtain ⟨b, ⟨hg, he⟩, hk⟩ := h.out
      refine ⟨_, hk, fun w F β vx vy hx hy => ⟨_, ?_, .ro _ _ (.bool _)⟩⟩
      have he := he w F β vx vy hx hy
      obtain ⟨cx, rfl, _⟩ := hx.agg_inv
      obtain ⟨cy, rfl, _⟩ := hy.agg_inv
      rw [Sem.run_bind, run_eqGuard_agg w _ t x y _ _ hg]
      simp only [Result.andThen_ok]
      rw [run_neq_struct, he]
      rfl
    · exact h.elim
  · exact h.elim
end
end Go.Eng
