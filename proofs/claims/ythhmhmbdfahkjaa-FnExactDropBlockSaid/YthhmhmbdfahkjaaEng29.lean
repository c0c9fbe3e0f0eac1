/-
  The engine, twenty-ninth part. Functions of the library without a text of their own; bytes; lists whose elements all have a property.
  No conditions.
-/
import Derived.Test.YthhmhmbdfahkjaaEng28
import Derived.Laws.Externs
import Derived.Lib.Bytealg
import Derived.Lib.IndexLaws
namespace Go.Eng
open Go Go.RowKit

theorem ext_rule {X : Ctx} {f : FuncId} {fn : Func} {e : Array Value → Sem Value} {ds : List D} {st : St} {K : D → Prop} (hf : X.P.funcs[f]? = some fn) (hname : (fn.name == "runtime.NumGoroutine") = false)
    (hb : fn.body.isNone = true) (hn : Extern.findNext fn = none) (he : Extern.find fn = some e) (d : D) (hk : K d)
    (h : ∀ (w : World) (F : Nat → Prop) (β : Nat → Option Value) (vs : List Value), vs.length = ds.length → (∀ i, i < ds.length → Rep F β w (vs.getD i undef) (ds.getD i .junk)) →
      ∃ v, (e vs.toArray).run X.P w = .ok v w ∧ Rep F β w v d) : ExtS X f ds st K := by
  refine ⟨d, hk, fun β a w vs hr hl hrep => ?_⟩
  obtain ⟨v, hv, hd⟩ := h w _ _ vs hl hrep
  exact ⟨v, by rw [run_callFunc_extern hf hname hb hn he, hv]; rfl, hd⟩

theorem list2 {vs : List Value} (h : vs.length = 2) : vs = [vs.getD 0 undef, vs.getD 1 undef] := by
  match vs, h with
  | [a, b], _ => rfl

theorem ByteS.lit (k : Nat) {i : Int} {l : List UInt8} {c : UInt8} {K : UInt8 → Prop} (hi : i = (k : Int)) (hx : l[k]? = some c) (h : K c) : ByteS l i K := by
  subst hi
  exact ByteS.the hx h

/-- The place of a byte, as the library tells it. -/
theorem ext_indexByte {X : Ctx} {f : FuncId} {fn : Func} {l : List UInt8} {c : UInt8} {st : St} {K : D → Prop} (hf : X.P.funcs[f]? = some fn) (hname : (fn.name == "runtime.NumGoroutine") = false)
    (hb : fn.body.isNone = true) (hn : Extern.findNext fn = none) (he : Extern.find fn = some Extern.BytealgIndexByte.indexByte) (hk : K (.int .i64 (Lib.indexByte l c))) : ExtS X f [.str l, .int .u8 c.toNat] st K := by
  refine ext_rule hf hname hb hn he _ hk fun w F β vs hl hrep => ?_
  have h0 := (hrep 0 (by simp)).str_inv
  have h1 := (hrep 1 (by simp)).int_inv
  refine ⟨.int .i64 (Lib.indexByte l c), ?_, .ro _ _ (.int _ _)⟩
  rw [list2 hl, h0, h1, Lib.run_indexByteString]
  have hc : ((c.toNat : Int)).toNat.toUInt8 = c := by simp
  rw [hc]

/-! ### All elements -/
def allTo {α : Type} (p : α → Bool) (l : List α) (k : Nat) : Prop := ∀ j x, j < k → l[j]? = some x → p x = true
theorem allTo_zero {α : Type} {p : α → Bool} {l : List α} : allTo p l 0 := fun j _ h => absurd h (by omega)
theorem allTo_succ {α : Type} {p : α → Bool} {l : List α} {k : Nat} {x : α} (h : allTo p l k) (hx : l[k]? = some x) (hp : p x = true) : allTo p l (k + 1) := by
  intro j y hj hy
  have h2 : j < k ∨ j = k := by omega
  rcases h2 with h2 | rfl
  · exact h j y h2 hy
  · rw [hx] at hy; cases hy; exact hp
theorem all_of_allTo {α : Type} {p : α → Bool} {l : List α} {k : Nat} (h : allTo p l k) (hk : l.length ≤ k) : l.all p = true := by
  rw [List.all_eq_true]
  intro x hx
  obtain ⟨j, hj⟩ := List.getElem?_of_mem hx
  have h2 := (List.getElem?_eq_some_iff.1 hj).1
  exact h j x (by omega) hj
theorem all_not_at {α : Type} {p : α → Bool} {l : List α} {k : Nat} {x : α} (hx : l[k]? = some x) (hp : p x = false) : l.all p = false := by
  rw [List.all_eq_false]
  exact ⟨x, List.mem_of_getElem? hx, by simp [hp]⟩
end Go.Eng
