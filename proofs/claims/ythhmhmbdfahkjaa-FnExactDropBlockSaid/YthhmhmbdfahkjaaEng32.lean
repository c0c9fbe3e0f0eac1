/-
  The engine, thirty-second part. Texts in their order.
  No conditions.
-/
import Derived.Test.YthhmhmbdfahkjaaEng31
namespace Go.Eng
open Go Go.RowKit

abbrev lessB (a b : List UInt8) : Bool := Op.bytesLess a b
theorem less_irrefl (a : List UInt8) : Op.bytesLess a a = false := by
  induction a with
  | nil => rfl
  | cons c r ih => simp [Op.bytesLess, ih]
theorem less_tri : ∀ {a b : List UInt8}, Op.bytesLess a b = false → a ≠ b → Op.bytesLess b a = true
  | [], [], _, h => absurd rfl h
  | [], _ :: _, h, _ => by simp [Op.bytesLess] at h
  | _ :: _, [], _, _ => by simp [Op.bytesLess]
  | a :: x, b :: y, h, hn => by
    simp only [Op.bytesLess, Bool.or_eq_false_iff, decide_eq_false_iff_not, Bool.and_eq_false_iff, beq_eq_false_iff_ne] at h
    simp only [Op.bytesLess, Bool.or_eq_true, decide_eq_true_eq, Bool.and_eq_true, beq_iff_eq]
    by_cases e : a = b
    · subst e
      refine .inr ⟨rfl, less_tri (h.2.resolve_left (fun h => h rfl)) (fun e => hn (by rw [e]))⟩
    · rcases UInt8.lt_or_lt_of_ne e with h1 | h1
      · exact absurd h1 h.1
      · exact .inl h1
theorem less_trans : ∀ {a b c : List UInt8}, Op.bytesLess a b = true → Op.bytesLess b c = true → Op.bytesLess a c = true
  | _, [], _, h, _ => by cases h' : (‹List UInt8› : List UInt8) <;> simp_all [Op.bytesLess]
  | [], _ :: _, [], _, h => by simp [Op.bytesLess] at h
  | [], _ :: _, _ :: _, _, _ => by simp [Op.bytesLess]
  | _ :: _, _ :: _, [], _, h => by simp [Op.bytesLess] at h
  | a :: x, b :: y, c :: z, h, k => by
    simp only [Op.bytesLess, Bool.or_eq_true, decide_eq_true_eq, Bool.and_eq_true, beq_iff_eq] at h k ⊢
    rcases h with h | ⟨rfl, h⟩ <;> rcases k with k | ⟨rfl, k⟩
    · exact .inl (UInt8.lt_trans h k)
    · exact .inl h
    · exact .inl k
    · exact .inr ⟨rfl, less_trans h k⟩
theorem less_asymm {a b : List UInt8} (h : Op.bytesLess a b = true) : Op.bytesLess b a = false := by
  cases hb : Op.bytesLess b a with
  | false => rfl
  | true => have := less_trans h hb; rw [less_irrefl] at this; cases this
theorem less_ne {a b : List UInt8} (h : Op.bytesLess a b = true) : a ≠ b := fun e => by subst e; rw [less_irrefl] at h; cases h
theorem cmp_less : ∀ (a b : List UInt8), Lib.compareBytes a b = if Op.bytesLess a b = true then -1 else if a = b then 0 else 1
  | [], [] => rfl
  | [], _ :: _ => by simp [Lib.compareBytes, Op.bytesLess]
  | _ :: _, [] => by simp [Lib.compareBytes, Op.bytesLess]
  | a :: x, b :: y => by
    simp only [Lib.compareBytes, Op.bytesLess]
    by_cases h1 : a < b
    · simp [h1]
    · by_cases h2 : b < a
      · have : a ≠ b := fun e => by subst e; exact h1 h2
        simp [h1, h2, this]
      · have e : a = b := by
          rcases Decidable.em (a = b) with e | e
          · exact e
          · rcases UInt8.lt_or_lt_of_ne e with h | h
            · exact absurd h h1
            · exact absurd h h2
        subst e
        simp [cmp_less x y]

/-- Two texts compared, as the library tells it. -/
theorem ext_compareString {X : Ctx} {f : FuncId} {fn : Func} {a b : List UInt8} {st : St} {K : D → Prop} (hf : X.P.funcs[f]? = some fn) (hname : (fn.name == "runtime.NumGoroutine") = false)
    (hb : fn.body.isNone = true) (hn : Extern.findNext fn = none) (he : Extern.find fn = some Extern.BytealgCompare.compare) (hk : K (.int .i64 (Lib.compareBytes a b))) : ExtS X f [.str a, .str b] st K := by
  refine ext_rule hf hname hb hn he _ hk fun w F β vs hl hrep => ?_
  have h0 := (hrep 0 (by simp)).str_inv
  have h1 := (hrep 1 (by simp)).str_inv
  refine ⟨.int .i64 (Lib.compareBytes a b), ?_, .ro _ _ (.int _ _)⟩
  rw [list2 hl, h0, h1, Lib.run_compareString]
end Go.Eng
