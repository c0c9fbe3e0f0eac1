/-
  The engine, twenty-third part. Small rules for the stops of the evaluation.
  No conditions.
-/
import Derived.Test.YthhmhmbdfahkjaaEng22
namespace Go.Eng
open Go Go.RowKit

theorem ArithS.in64 {n : Int} {K : Int → Prop} (h : -9223372036854775808 ≤ n ∧ n ≤ 9223372036854775807) (hk : K n) : ArithS .i64 n K := by
  refine ArithS.mk ?_
  rwa [show IntKind.i64.wrap n = n by rw [IntKind.wrap_i64]; omega]
/-- Two ways on: A where c holds, B where it does not. -/
def Br (c : Bool) (A B : Prop) : Prop := (c = true → A) ∧ (c = false → B)
theorem br_t {c : Bool} {A B : Prop} (h : Br c A B) : (c = true → A) ∧ (c = !true → B) := h
theorem br_f {c : Bool} {A B : Prop} (h : Br c B A) : (c = false → A) ∧ (c = !false → B) := ⟨h.2, h.1⟩
theorem br_c {c : Bool} {A B : Prop} (h : Br c A B) : (c = true → A) ∧ (c = false → B) := h
theorem Br.tt {A B : Prop} (h : A) : Br true A B := ⟨fun _ => h, fun h => by cases h⟩
theorem Br.ff {A B : Prop} (h : B) : Br false A B := ⟨fun h => (by cases h), fun _ => h⟩
theorem Br.not {c : Bool} {A B : Prop} (h : Br c B A) : Br (!c) A B := ⟨fun hh => h.2 (by cases c <;> first | rfl | cases hh), fun hh => h.1 (by cases c <;> first | rfl | cases hh)⟩
theorem Br.nt {A B : Prop} (h : B) : Br (!true) A B := Br.ff h
theorem Br.nf {A B : Prop} (h : A) : Br (!false) A B := Br.tt h
theorem Br.ncondt {x y : Bool} {A B : Prop} (h : Br (!x) A B) : Br (!(bif true then x else y)) A B := h
theorem Br.ncondf {x y : Bool} {A B : Prop} (h : Br (!y) A B) : Br (!(bif false then x else y)) A B := h
theorem Br.condt {x y : Bool} {A B : Prop} (h : Br x A B) : Br (bif true then x else y) A B := h
theorem Br.condf {x y : Bool} {A B : Prop} (h : Br y A B) : Br (bif false then x else y) A B := h
theorem Br.lt {a b : Int} {A B : Prop} (h1 : a < b → A) (h2 : b ≤ a → B) : Br (decide (a < b)) A B := ⟨fun h => h1 (of_decide_eq_true h), fun h => h2 (Int.not_lt.1 (of_decide_eq_false h))⟩
theorem Br.le {a b : Int} {A B : Prop} (h1 : a ≤ b → A) (h2 : b < a → B) : Br (decide (a ≤ b)) A B := ⟨fun h => h1 (of_decide_eq_true h), fun h => h2 (Int.not_le.1 (of_decide_eq_false h))⟩
theorem Br.eqn {a b : Nat} {A B : Prop} (h1 : a = b → A) (h2 : ¬ a = b → B) : Br (decide ((a : Int) = (b : Int))) A B :=
  ⟨fun h => h1 (Int.ofNat.inj (of_decide_eq_true h)), fun h => h2 fun e => of_decide_eq_false h (congrArg _ e)⟩
theorem Br.dec {p : Prop} [Decidable p] {A B : Prop} (h1 : p → A) (h2 : ¬ p → B) : Br (decide p) A B := ⟨fun h => h1 (of_decide_eq_true h), fun h => h2 (of_decide_eq_false h)⟩
theorem Br.beq {α : Type} [BEq α] [LawfulBEq α] {a b : α} {A B : Prop} (h1 : a = b → A) (h2 : ¬ a = b → B) : Br (a == b) A B := ⟨fun h => h1 (eq_of_beq h), fun h => h2 fun e => by subst e; rw [beq_self_eq_true] at h; cases h⟩
theorem Br.sym {c : Bool} {A B : Prop} (h1 : c = true → A) (h2 : c = false → B) : Br c A B := ⟨h1, h2⟩

theorem Br.nlt {a b : Int} {A B : Prop} (h1 : b ≤ a → A) (h2 : a < b → B) : Br (!decide (a < b)) A B := Br.not (Br.lt h2 h1)
theorem Br.nle {a b : Int} {A B : Prop} (h1 : b < a → A) (h2 : a ≤ b → B) : Br (!decide (a ≤ b)) A B := Br.not (Br.le h2 h1)
theorem Br.neqn {a b : Nat} {A B : Prop} (h1 : ¬ a = b → A) (h2 : a = b → B) : Br (!decide ((a : Int) = (b : Int))) A B := Br.not (Br.eqn h2 h1)
theorem Br.ndec {p : Prop} [Decidable p] {A B : Prop} (h1 : ¬ p → A) (h2 : p → B) : Br (!decide p) A B := Br.not (Br.dec h2 h1)
theorem Br.nbeq {α : Type} [BEq α] [LawfulBEq α] {a b : α} {A B : Prop} (h1 : ¬ a = b → A) (h2 : a = b → B) : Br (!(a == b)) A B := Br.not (Br.beq h2 h1)
theorem Br.nsym {c : Bool} {A B : Prop} (h1 : c = false → A) (h2 : c = true → B) : Br (!c) A B := Br.not (Br.sym h2 h1)

theorem LenS.int {n : Nat} {K : Int → Prop} (h : (n : Int) ≤ 9223372036854775807 → K n) : LenS n K := LenS.mk fun h1 => h (by simp only [maxLen] at h1; omega)

/-- What stands behind a piece of code, behind a name. -/
theorem awp_seq_k {X : Ctx} {x y : Code} {Q : DExit → St → Prop} {st : St}
    (h : ∀ Q' : DExit → St → Prop, (∀ st, awp X y Q st → Q' .normal st) → (∀ i st, Q (.exit i) st → Q' (.exit i) st) → (∀ st, Q .ret st → Q' .ret st) → awp X x Q' st) : awp X (.seq x y) Q st := by
  unfold awp
  exact h _ (fun _ h => h) (fun _ _ h => h) (fun _ h => h)
theorem awp_block_k {X : Ctx} {id : Nat} {b : Code} {Q : DExit → St → Prop} {st : St}
    (h : ∀ Q' : DExit → St → Prop, (∀ st, Q .normal st → Q' .normal st) → (∀ i st, (bif Nat.beq i id then Q .normal st else Q (.exit i) st) → Q' (.exit i) st) → (∀ st, Q .ret st → Q' .ret st) → awp X b Q' st) : awp X (.block id b) Q st := by
  unfold awp
  exact h _ (fun _ h => h) (fun _ _ h => h) (fun _ h => h)
theorem awp_cond_k {X : Ctx} {c : Operand} {x y : Code} {Q : DExit → St → Prop} {st : St} (h : condD st c (awp X x Q st) (awp X y Q st)) : awp X (.cond c x y) Q st := h
theorem awp_region_k {X : Ctx} {id : Nat} {ops : Array Oper} {Q : DExit → St → Prop} {st : St} (h : opsD X ops ops.toList st (Q .normal)) : awp X (.region id ops false) Q st := h
theorem awp_ret_k {X : Ctx} {Q : DExit → St → Prop} {st : St} (h : Q .ret st) : awp X .ret Q st := h
theorem awp_skip_k {X : Ctx} {Q : DExit → St → Prop} {st : St} (h : Q .normal st) : awp X .skip Q st := h
theorem awp_label_k {X : Ctx} {l : Nat} {Q : DExit → St → Prop} {st : St} (h : Q .normal st) : awp X (.label l) Q st := h
theorem awp_exit_k {X : Ctx} {id : Nat} {Q : DExit → St → Prop} {st : St} (h : Q (.exit id) st) : awp X (.exit id) Q st := h
theorem awp_scope_k {X : Ctx} {b : Code} {Q : DExit → St → Prop} {st : St} (h : awp X b Q st) : awp X (.scope b) Q st := h
theorem awp_loop_k {X : Ctx} {b : Code} {Q : DExit → St → Prop} {st : St} (h : SemC X (.loop b) Q st) : awp X (.loop b) Q st := h
theorem awp_draw_k {X : Ctx} {id : Nat} {ops : Array Oper} {Q : DExit → St → Prop} {st : St} (h : DrawS X ops (Q .normal) st) : awp X (.region id ops true) Q st := h

theorem ElemS.map {α : Type} {enc : α → List D} {l : List α} {i : Int} {K : List D → Prop} (h0 : 0 ≤ i ∧ i < l.length) (h : ∀ x, l[i.toNat]? = some x → K (enc x)) : ElemS (l.map enc) i K := by
  refine ElemS.mk ⟨h0.1, by simpa using h0.2, fun e he => ?_⟩
  rw [List.getElem?_map] at he
  cases hx : l[i.toNat]? with
  | none => rw [hx] at he; cases he
  | some x => rw [hx] at he; cases he; exact h x hx
/-- The element that a counter picks. -/
theorem ElemS.nat {α : Type} {enc : α → List D} {l : List α} {k : Nat} {K : List D → Prop} (h0 : k < l.length) (h : ∀ x, l[k]? = some x → K (enc x)) : ElemS (l.map enc) (k : Int) K :=
  ElemS.map ⟨by omega, by omega⟩ (by simpa using h)
/-- The element that was picked before. -/
theorem ElemS.the {α : Type} {enc : α → List D} {l : List α} {k : Nat} {x : α} {K : List D → Prop} (hx : l[k]? = some x) (h : K (enc x)) : ElemS (l.map enc) (k : Int) K :=
  ElemS.nat (List.getElem?_eq_some_iff.1 hx).1 fun y hy => by rw [hx] at hy; cases hy; exact h
theorem ByteS.nat {l : List UInt8} {k : Nat} {K : UInt8 → Prop} (h0 : k < l.length) (h : ∀ c, l[k]? = some c → K c) : ByteS l (k : Int) K :=
  ByteS.mk ⟨by omega, by omega, by simpa using h⟩
theorem ByteS.the {l : List UInt8} {k : Nat} {c : UInt8} {K : UInt8 → Prop} (hx : l[k]? = some c) (h : K c) : ByteS l (k : Int) K :=
  ByteS.nat (List.getElem?_eq_some_iff.1 hx).1 fun y hy => by rw [hx] at hy; cases hy; exact h
theorem CutS.nn {a b n : Nat} {K : Nat → Nat → Prop} (h1 : a ≤ b) (h2 : b ≤ n) (h : K a b) : CutS (a : Int) (b : Int) n K := CutS.mk ⟨by omega, by omega, by omega, by simpa using h⟩
theorem CutS.zn {b n : Nat} {K : Nat → Nat → Prop} (h2 : b ≤ n) (h : K 0 b) : CutS 0 (b : Int) n K := CutS.mk ⟨by omega, by omega, by omega, by simpa using h⟩
theorem CutS.at {lo hi : Int} {n : Nat} {K : Nat → Nat → Prop} (h : 0 ≤ lo ∧ lo ≤ hi ∧ hi ≤ n) (hk : ∀ a b : Nat, (a : Int) = lo → (b : Int) = hi → a ≤ b → b ≤ n → K a b) : CutS lo hi n K :=
  CutS.mk ⟨h.1, h.2.1, h.2.2, hk _ _ (by omega) (by omega) (by omega) (by omega)⟩
theorem InS.nat {n k : Nat} {K : Nat → Prop} (h0 : k < n) (h : K k) : InS (k : Int) n K := InS.mk ⟨by omega, by omega, by simpa using h⟩

/-- The state at a loop's head, or behind a piece of code: the listed temporaries, the first m objects. -/
theorem weak_to {env env' : List (Nat × D)} {nt : Nat} {objs objs' : List Obj} {g : Nat → Option (List D)} {pin : Nat} (hm : Nat.ble objs'.length objs.length = true) (hp : Nat.ble pin objs'.length = true)
    (ho : objs' = (objs.take objs'.length).map (killO (Nat.ble objs'.length))) (he : EnvOK objs'.length env env') : Weak ⟨env, nt, objs, g, pin⟩ ⟨env', nt, objs', g, pin⟩ :=
  Weak.drop ⟨env, nt, objs, g, pin⟩ objs'.length env' objs' (by simpa using hm) (by simpa using hp) ho he
end Go.Eng
