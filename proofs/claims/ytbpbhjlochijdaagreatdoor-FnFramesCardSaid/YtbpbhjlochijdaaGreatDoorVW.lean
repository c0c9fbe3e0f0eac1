/-
  The engine: a callee is shown an element of a row.
  No conditions.
-/
import Derived.Test.YtbpbhjlochijdaaGreatDoorED
set_option linter.unusedVariables false
set_option linter.unusedSimpArgs false
namespace Go.Eng
open Go Go.RowKit
theorem view_hr {st : St} {o s i k : Nat} {e : TypeId} {es : List (List D)} {cs : List D} (ho : st.obj o = .row e s es) (hx : es[i]? = some cs) : view st (.hr o s i k) = .rp (cs.drop k) := by
  have hi := (List.getElem?_eq_some_iff.1 hx)
  have h1 : Nat.blt i es.length = true := by rw [Nat.blt_eq]; exact hi.1
  have h2 : es.getD i [] = cs := by rw [List.getD_eq_getElem?_getD, hx]; rfl
  show view1 st (.hr o s i k) = _
  unfold view1
  simp only [ho]
  rw [h1, Nat.beq_refl, h2]
  rfl
theorem view2 {st : St} {a b a' b' : D} (ha : view st a = a') (hb : view st b = b') : [a, b].map (view st) = [a', b'] := by
  rw [List.map_cons, List.map_cons, List.map_nil, ha, hb]
theorem view1' {st : St} {a a' : D} (ha : view st a = a') : [a].map (view st) = [a'] := by
  rw [List.map_cons, List.map_nil, ha]
theorem call_look_eq {X : Ctx} {f : FuncId} {ds ds' : List D} {st : St} {K : D → St → Prop} {d : D} (hv : ds.map (view st) = ds') (hc : FnC X.P f st.g 0 [] ds' (fun d' os => d' = d ∧ os = [])) (hd : bare d = true) (hk : K d st) : CallS X f ds st K :=
  call_look (by rw [hv]; exact hc) hd hk
theorem map_at {α : Type} {enc : α → List D} {l : List α} {i : Nat} {x : α} (h : l[i]? = some x) : (l.map enc)[i]? = some (enc x) := by rw [List.getElem?_map, h]; rfl
theorem last_at {α : Type} {l : List α} (h : l ≠ []) : ∃ (j : Nat) (x : α), j + 1 = l.length ∧ l[j]? = some x := by
  have hl : 0 < l.length := List.length_pos_iff.2 h
  exact ⟨l.length - 1, _, by omega, List.getElem?_eq_getElem (by omega)⟩
end Go.Eng
