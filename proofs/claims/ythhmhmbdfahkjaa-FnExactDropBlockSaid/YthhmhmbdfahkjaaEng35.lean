/-
  The engine, thirty-fifth part. From what the kit's shelf says of a library function to a contract.
  No conditions.
-/
import Derived.Test.YthhmhmbdfahkjaaEng34
import Derived.Sort.Grow
import Derived.Deep.Draws
namespace Go.Eng
open Go Go.RowKit

theorem Rep.ro_of_none {F : Nat → Prop} {w : World} {v : Value} {d : D} (h : Rep F (fun _ => none) w v d) : RO F w v d := by
  induction h with
  | ro x d h => exact h
  | h o x h => cases h
  | hp o off b x h hb => cases h
  | hr o s i off b x h hb => cases h
  | hs o s a b x v h hv => cases h
  | agg cs ds hl h1 _ ih => exact .agg cs ds hl h1 ih
  | tup cs ds hl _ ih => exact .tup cs ds hl ih
  | clo f cs ds hl _ ih => exact .clo f cs ds hl ih

/-- A contract from what a call does. -/
theorem FnC.of_calls {P : Program} {f : FuncId} {G : Nat → Option (List D)} {ds : List D} {d : D} (hok : FnOK P f)
    (h : ∀ (w : World) (F : Nat → Prop) (vs : List Value), (∀ b, F b → b < w.heap.size) → vs.length = ds.length → (∀ i, i < ds.length → RO F w (vs.getD i undef) (ds.getD i .junk)) → (∀ g cs, G g = some cs → GlobOK F w g cs) →
      Calls P f vs.toArray w fun e w' => ∃ v, e = .returned v ∧ w.grownBy w' none ∧ RO (fun b => F b ∨ (w.heap.size ≤ b ∧ b < w'.heap.size)) w' v d) : FnC P f G 0 [] ds (fun d' os => d' = d ∧ os = []) := by
  refine ⟨hok, fun X β w vs hP hw0 hβ0 hW hl hrep => ?_⟩
  have hβ : β = fun _ => none := by
    funext o
    cases ho : β o with
    | none => rfl
    | some x => exact absurd (hW.dom o x ho).1 (by simp [stOf, St.n])
  subst hβ
  refine (h w (FX X (stOf [] G 0) (fun _ => none) w) vs (fun b hb => hb.1) hl (fun i hi => (hrep i hi).ro_of_none) (fun g cs hg => hW.glob g cs hg)).mono ?_
  rintro e w' ⟨v, rfl, hg, hv⟩
  have hF : ∀ b, FX X (stOf [] G 0) (fun _ => none) w b → FX X (stOf [] G 0) (fun _ => none) w' b ∧ w'.heap[b]? = w.heap[b]? := fun b hb =>
    ⟨⟨Nat.lt_of_lt_of_le hb.1 hg.size, hb.2.1, hb.2.2⟩, hg.block b hb.1 (by simp)⟩
  refine ⟨v, d, [], fun _ => none, rfl, ⟨fun o x hx => (by cases hx), fun o ho => absurd ho (by simp [stOf, St.n]), fun o o' x x' b hx => (by cases hx), fun o x b hx => (by cases hx), ?_, fun g cs hgl => (hW.glob g cs hgl).mono hF, fun o ho => absurd ho (by simp [stOf]), Nat.zero_le _⟩,
    .ro _ _ (hv.mono fun b hb => ⟨?_, rfl⟩), fun o ho => (by cases ho), rfl, rfl⟩
  · subst hw0
    exact ⟨hg.os, hg.tape, hg.output, hg.size, fun k hk _ => hg.block k hk (by simp)⟩
  · rcases hb with hb | ⟨h1, h2⟩
    · exact (hF b hb).1
    · exact ⟨h2, .inr (.inl (by rw [hw0]; exact h1)), fun o ho => absurd ho (by simp [stOf, St.n])⟩

theorem grown_grow (w : World) (k : Nat) (os : Array Go.Obj) : w.grownBy (Go.Sort.grow (w.drewN k) os) none := by
  refine ⟨rfl, rfl, rfl, ?_, fun b hb _ => ?_⟩
  · simp [Go.Sort.grow, World.drewN]
  · simp only [Go.Sort.grow, World.drewN]
    rw [Array.getElem?_append_left hb]

/-- A table of numbers, in the shelf's words. -/
theorem tabIs_of {P : Program} {F : Nat → Prop} {w : World} {name : String} {g : Nat} {k : IntKind} {zs : List Int} (hg : P.globalNamed name = some g) (h : GlobOK F w g (zs.map fun z => .int k z)) : Lib.TabIs P w name k zs := by
  obtain ⟨hro, _, c, T, fr, hc, hl⟩ := h
  unfold Lib.TabIs
  simp only [World.var?, hg, Option.bind_some, hc]
  congr 1
  rw [List.length_map] at hl
  apply Array.ext
  · simp [hl]
  · intro i h1 h2
    obtain ⟨b, off, cc, hv, hF, hcell, hr⟩ := hro.rp_cases
    simp only [Value.pointer.injEq, Option.some.injEq, Addr.mk.injEq] at hv
    obtain ⟨rfl, rfl, _⟩ := hv
    have hi : i < (zs.map fun z => D.int k z).length := by simp; omega
    have e1 := (hcell i hi).1
    have e2 := hr i hi
    have hi' : i < zs.length := by omega
    have e3 : (zs.map fun z => D.int k z).getD i .junk = .int k zs[i] := by simp [List.getD_eq_getElem?_getD, hi']
    rw [e3] at e2
    have e4 : cc i = .int k zs[i] := by
      generalize cc i = x at e2
      cases e2
      rfl
    rw [e4] at e1
    have e5 : w.cell? ⟨g, 0 + i, none⟩ = c[i]? := by
      simp [World.cell?, hc]
    rw [e5, Array.getElem?_eq_getElem h1] at e1
    rw [Option.some.inj e1]
    simp
end Go.Eng
