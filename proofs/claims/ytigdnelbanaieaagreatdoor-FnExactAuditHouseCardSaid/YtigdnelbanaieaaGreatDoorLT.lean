/-
  The engine, fiftieth part. A statement whose order is open: operations that only read, memory that is made at some time among them, and one that stores at the end.
  No conditions.
-/
import Derived.Test.YtigdnelbanaieaaGreatDoorED
set_option linter.unusedVariables false
set_option linter.unusedSimpArgs false
namespace Go.Eng
open Go Go.RowKit

/-- Data that leave no choice of the value. -/
def fun0 : D → Bool
  | .int _ _ => true
  | .str _ => true
  | .bool _ => true
  | _ => false
def funD : D → Bool
  | .agg cs => cs.all fun0
  | d => fun0 d
def dead {α : Type} (s : Sem α) : Prop := ∀ (P : Program) (v : α) (w w1 : World), s.run P w ≠ .ok v w1
/-- Operations that hand on the same in every world. -/
def uniKind : Op → Bool
  | .move _ => true
  | .assign _ => true
  | .indexAddr _ _ _ => true
  | _ => false
section
variable {X : Ctx} {ops : Array Oper}
theorem Mid.step {n : Nat} {s0 : St} {ds : Nat → D} {listed : Array Bool} {β : Nat → Option Value} {a : Act} {w : World} (hm : Mid X ops n s0 ds listed β a w) {j : Nat} {o : Oper} {v : Value} (hj : j < n) (hoj : ops[j]? = some o)
    (hdep : ∀ (i : Nat) (oi : Oper) (t : Nat), i < n → ops[i]? = some oi → oi.dst = some t → j = i ∨ o.dst ≠ some t) (hrep : Rep (FX X s0 β w) β w v (ds j)) : Mid X ops n s0 ds (listed.setIfInBounds j true) β (a.put o.dst v) w := by
  have hsame : ∀ t, (o.dst = some t → ¬ t < s0.nt) → (a.put o.dst v).tmps.getD t undef = a.tmps.getD t undef := by
    intro t ht
    cases hd : o.dst with
    | none => rfl
    | some u =>
      by_cases hut : u = t
      · subst hut
        have hnt := ht hd
        have : ¬ u < a.tmps.size := by rw [hm.size]; exact hnt
        simp [Act.put, this]
      · simp [Act.put, Array.getElem?_setIfInBounds_ne hut]
  refine ⟨hm.heap, by cases o.dst <;> exact hm.defers, ?_, fun i oi t hi hoi hd hnt hl => ?_, fun t ht => ?_⟩
  · cases hd : o.dst <;> simp [Act.put, hm.size]
  · by_cases hij : i = j
    · subst hij
      have : oi = o := Option.some.inj (hoi.symm.trans hoj)
      subst this
      have hts : t < a.tmps.size := by rw [hm.size]; exact hnt
      have : (a.put oi.dst v).tmps.getD t undef = v := by simp [Act.put, hd, hts]
      rw [this]
      exact hrep
    · rw [hsame t (fun hod => by
        rcases hdep i oi t hi hoi hd with h | h
        · exact absurd h.symm hij
        · exact absurd hod h)]
      rw [getD_set_ne false (Ne.symm hij)] at hl
      exact hm.done i oi t hi hoi hd hnt hl
  · rw [hsame t (fun hod hnt => ht hnt j o hj hoj hod)]
    exact hm.base t ht
/-- Is what the reading operations hand back of a kind that leaves no choice? -/
def funAll (ops : Array Oper) (n : Nat) (st : St) : Bool :=
  (List.range n).all fun i => match ops[i]? with
    | some o => uniKind o.op || (match o.dst with
      | some t => Nat.blt t st.nt && funD (look st.env t)
      | none => false)
    | none => false
@[irreducible] def LateS (ops : Array Oper) (n : Nat) (st : St) (R : Prop) : Prop := funAll ops n st = true ∧ R
theorem LateS.mk {n : Nat} {st : St} {R : Prop} (h : funAll ops n st = true) (hr : R) : LateS ops n st R := by unfold LateS; exact ⟨h, hr⟩
theorem LateS.out {n : Nat} {st : St} {R : Prop} (h : LateS ops n st R) : funAll ops n st = true ∧ R := by unfold LateS at h; exact h
end
end Go.Eng
