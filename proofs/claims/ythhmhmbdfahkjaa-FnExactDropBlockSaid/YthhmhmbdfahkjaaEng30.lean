/-
  The engine, thirtieth part. Tables of texts that lie in package variables.
  No conditions.
-/
import Derived.Test.YthhmhmbdfahkjaaEng29
import Derived.Lib.LaidTab
namespace Go.Eng
open Go Go.RowKit

theorem strs_of_array {H : Type} {enc : TypeId × Value → H} {P : Program} {w : World} {base : Nat} {sp : Nat → Bool} {held : Bool} {fuel : Nat} {t e : TypeId} {n : Nat} {cs : List Value} {ls : List (List UInt8)} {p : List MemPlace}
    (ht : P.underlying t = some (.array n e)) (he : P.underlying e = some .string) (hce : P.cellsOf e = 1) (hct : P.cellsOf t = n)
    (h : DataW.trod enc P w base sp held fuel t cs = some (.agg (ls.map fun l => .lit (.string l)), p)) : cs.length = ls.length ∧ ∀ j, j < ls.length → ∃ l : List UInt8, ls[j]? = some l ∧ l.length ≤ maxLen ∧ cs[j]? = some (.string ⟨l.toArray⟩) := by
  obtain ⟨xs, m, _, hx, hcl, hxl, hel⟩ := DataW.trod_array ht h
  have h1 : xs.map (·.1) = ls.map fun l => (DataW.lit (.string l) : DataW H) := by
    have := congrArg Prod.fst hx
    simpa using this.symm
  have hln : ls.length = n := by
    have := congrArg List.length h1
    simp at this
    omega
  refine ⟨by omega, fun j hj => ?_⟩
  have hjn : j < n := by omega
  have hxj : xs[j]? = some (xs[j]'(by omega)) := List.getElem?_eq_getElem _
  have hb := hel j hjn
  rw [hce, Nat.mul_one, hxj] at hb
  obtain ⟨s, hcs, hxe, hs⟩ := DataW.trod_string he hb
  have h2 : (xs.map (·.1))[j]? = (ls.map fun l => (DataW.lit (.string l) : DataW H))[j]? := by rw [h1]
  rw [List.getElem?_map, List.getElem?_map, hxj, hxe, List.getElem?_eq_getElem hj] at h2
  simp only [Option.map_some, Option.some.injEq, DataW.lit.injEq, Lit.string.injEq] at h2
  refine ⟨ls[j], List.getElem?_eq_getElem hj, ?_, ?_⟩
  · rw [← h2]
    have : s.data.toList.length = s.size := Array.length_toList
    omega
  · have h3 : ((cs.drop j).take 1)[0]? = some (.string s) := by rw [hcs]; rfl
    rw [List.getElem?_take, if_pos (by omega), List.getElem?_drop, Nat.add_zero] at h3
    rw [h3, ← h2]

theorem ints_of_array {H : Type} {enc : TypeId × Value → H} {P : Program} {w : World} {base : Nat} {sp : Nat → Bool} {held : Bool} {fuel : Nat} {t e : TypeId} {n : Nat} {k : IntKind} {cs : List Value} {ls : List Int} {p : List MemPlace}
    (ht : P.underlying t = some (.array n e)) (he : P.underlying e = some (.int k)) (hce : P.cellsOf e = 1) (hct : P.cellsOf t = n)
    (h : DataW.trod enc P w base sp held fuel t cs = some (.agg (ls.map fun z => .lit (.int k z)), p)) : cs = ls.map fun z => Value.int k z := by
  obtain ⟨xs, m, _, hx, hcl, hxl, hel⟩ := DataW.trod_array ht h
  have h1 : xs.map (·.1) = ls.map fun z => (DataW.lit (.int k z) : DataW H) := by
    have := congrArg Prod.fst hx
    simpa using this.symm
  have hln : ls.length = n := by
    have := congrArg List.length h1
    simp at this
    omega
  apply List.ext_getElem (by simp; omega)
  intro j hj hj2
  have hjl : j < ls.length := by simpa using hj2
  have hxj : xs[j]? = some (xs[j]'(by omega)) := List.getElem?_eq_getElem _
  have hb := hel j (by omega)
  rw [hce, Nat.mul_one, hxj] at hb
  obtain ⟨z, hcs, hxe, hs⟩ := DataW.trod_int he hb
  have h2 : (xs.map (·.1))[j]? = (ls.map fun z => (DataW.lit (.int k z) : DataW H))[j]? := by rw [h1]
  rw [List.getElem?_map, List.getElem?_map, hxj, hxe, List.getElem?_eq_getElem hjl] at h2
  simp only [Option.map_some, Option.some.injEq, DataW.lit.injEq, Lit.int.injEq, true_and] at h2
  have h3 : ((cs.drop j).take 1)[0]? = some (.int k z) := by rw [hcs]; rfl
  rw [List.getElem?_take, if_pos (by omega), List.getElem?_drop, Nat.add_zero, List.getElem?_eq_getElem hj] at h3
  rw [Option.some.inj h3, List.getElem_map, h2]

theorem heap_of_var {P : Program} {w : World} {name : String} {g : Nat} {cs : Array Value} (hg : P.globalNamed name = some g) (hv : w.var? P name = some cs) : ∃ T fr, w.heap[g]? = some (.cells cs T fr) := by
  simp only [World.var?, hg, Option.bind_some] at hv
  split at hv
  · rename_i c t fr hb
    simp only [Option.some.injEq] at hv
    subst hv
    exact ⟨_, _, hb⟩
  · cases hv
/-- A table, as the walks read it. -/
theorem glob_of {P : Program} {w : World} {name : String} {g : Nat} {cs : Array Value} {ds : List D} (hg : P.globalNamed name = some g) (hv : w.var? P name = some cs) (hl : cs.toList.length = ds.length)
    (h : ∀ j, j < ds.length → ∃ v, cs.toList[j]? = some v ∧ v.oneCell' = true ∧ RO (fun b => b < w.heap.size) w v (ds.getD j .junk)) : GlobOK (fun b => b < w.heap.size) w g ds := by
  have hcell : ∀ j, w.cell? ⟨g, j, none⟩ = cs[j]? := fun j => World.var?_cell hg hv j
  obtain ⟨T, fr, hb⟩ := heap_of_var hg hv
  have hlt : g < w.heap.size := (Array.getElem?_eq_some_iff.1 hb).1
  refine ⟨.rp _ g 0 (fun j => cs.toList.getD j undef) hlt (fun j hj => ?_) (fun j hj => ?_), hlt, cs, T, fr, hb, by simpa using hl⟩
  · obtain ⟨v, h1, h2, h3⟩ := h j hj
    rw [Nat.zero_add, hcell, List.getD_eq_getElem?_getD, h1]
    rw [Array.getElem?_toList] at h1
    exact ⟨h1, h2⟩
  · obtain ⟨v, h1, h2, h3⟩ := h j hj
    rw [List.getD_eq_getElem?_getD, h1]
    exact h3
theorem glob_strs {P : Program} {w : World} {name : String} {g : Nat} {cs : Array Value} {ls : List (List UInt8)} (hg : P.globalNamed name = some g) (hv : w.var? P name = some cs) (hl : cs.toList.length = ls.length)
    (h : ∀ j, j < ls.length → ∃ l : List UInt8, ls[j]? = some l ∧ l.length ≤ maxLen ∧ cs.toList[j]? = some (.string ⟨l.toArray⟩)) : GlobOK (fun b => b < w.heap.size) w g (ls.map .str) := by
  refine glob_of hg hv (by simpa using hl) (fun j hj => ?_)
  rw [List.length_map] at hj
  obtain ⟨l, h1, h2, h3⟩ := h j hj
  refine ⟨_, h3, rfl, ?_⟩
  have e1 : (ls.map D.str).getD j .junk = .str l := by rw [List.getD_eq_getElem?_getD, List.getElem?_map, h1]; rfl
  rw [e1]
  exact .str l h2
theorem glob_ints {P : Program} {w : World} {name : String} {g : Nat} {cs : Array Value} {k : IntKind} {ls : List Int} (hg : P.globalNamed name = some g) (hv : w.var? P name = some cs) (h : cs.toList = ls.map fun z => Value.int k z) :
    GlobOK (fun b => b < w.heap.size) w g (ls.map fun z => .int k z) := by
  refine glob_of hg hv (by rw [h]; simp) (fun j hj => ?_)
  rw [List.length_map] at hj
  refine ⟨.int k ls[j], by rw [h]; simp [hj], rfl, ?_⟩
  have e1 : (ls.map fun z => D.int k z).getD j .junk = .int k ls[j] := by simp [List.getD_eq_getElem?_getD, hj]
  rw [e1]
  exact .int _ _

/-- A contract that speaks of some package variables holds beside any more that are spoken of. -/
theorem FnC.moreG {P : Program} {f : FuncId} {G1 G : Nat → Option (List D)} {pin : Nat} {os : List Obj} {ds : List D} {post : D → List Obj → Prop} (hsub : ∀ g cs, G1 g = some cs → G g = some cs) (h : FnC P f G1 pin os ds post) : FnC P f G pin os ds post := by
  refine ⟨h.1, fun X β w vs hP hw0 hβ0 hW hl hrep => ?_⟩
  subst hw0
  let X' : Ctx := { X with F0 := fun b => X.F0 b ∨ X.lent b, lent := fun b => X.lent b ∧ ∃ o x, o < os.length ∧ (os.getD o .dead).live ∧ β o = some x ∧ blk x = some b }
  have hFX : ∀ b, FX X (stOf os G pin) β X.w0 b → FX X' (stOf os G1 pin) β X.w0 b ∧ X.w0.heap[b]? = X.w0.heap[b]? := fun b hb => by
    refine ⟨⟨hb.1, ?_, hb.2.2⟩, rfl⟩
    rcases hb.2.1 with h1 | h1 | h1
    · exact .inl (.inl h1)
    · exact .inr (.inl h1)
    · exact .inl (.inr h1)
  have hback : ∀ os' β' w' b, FX X' (stOf os' G1 pin) β' w' b → FX X (stOf os' G pin) β' w' b ∧ w'.heap[b]? = w'.heap[b]? := fun os' β' w' b hb => by
    refine ⟨⟨hb.1, ?_, hb.2.2⟩, rfl⟩
    rcases hb.2.1 with (h1 | h1) | h1 | h1
    · exact .inl h1
    · exact .inr (.inr h1)
    · exact .inr (.inl h1)
    · exact .inr (.inr h1.1)
  have hW' : WRel X' (stOf os G1 pin) β X.w0 := by
    refine ⟨hW.dom, fun o ho hlv => let ⟨x, hx, hw⟩ := hW.own o ho hlv; ⟨x, hx, hw.mono hFX (fun _ _ h => h) (fun _ _ => rfl)⟩, hW.sep, fun o x b hx hb => ?_, KeptL.refl _ _ _, fun g cs hg => (hW.glob g cs (hsub g cs hg)).mono hFX, hW.stay, hW.pinned⟩
    rcases hW.low o x b hx hb with h1 | h1
    · exact .inl h1
    · exact .inr ⟨h1, o, x, (hW.dom o x hx).1, (hW.dom o x hx).2, hx, hb⟩
  refine (h.2 X' β X.w0 vs hP rfl hβ0 hW' hl (fun i hi => (hrep i hi).mono hFX (fun _ _ h => h))).mono ?_
  rintro e w' ⟨v, d, os', β', rfl, hw', hrd, hp, hpost⟩
  have hk : KeptL X.w0.heap.size X'.lent X.w0 w' := hw'.kept
  have hold : ∀ b, FX X (stOf os G pin) β X.w0 b → FX X (stOf os' G pin) β' w' b ∧ w'.heap[b]? = X.w0.heap[b]? := by
    intro b hb
    have hnl : ¬ X'.lent b := by
      rintro ⟨_, o, x, ho, hlv, hx, hbx⟩
      exact hb.2.2 o ho hlv x hx hbx
    refine ⟨⟨Nat.lt_of_lt_of_le hb.1 hk.size, hb.2.1, fun o ho hlv x hx hbx => ?_⟩, hk.block b hb.1 hnl⟩
    rcases hw'.low o x b hx hbx with h1 | h1
    · have := hb.1
      have h1 : X.w0.heap.size ≤ b := h1
      omega
    · exact hnl h1
  refine ⟨v, d, os', β', rfl, ⟨hw'.dom, fun o ho hlv => let ⟨x, hx, hw⟩ := hw'.own o ho hlv; ⟨x, hx, hw.mono (hback os' β' w') (fun _ _ h => h) (fun _ _ => rfl)⟩, hw'.sep, fun o x b hx hb => (hw'.low o x b hx hb).imp id (fun h => h.1), ⟨hk.os, hk.tape, hk.output, hk.size, fun k hk1 hk2 => hk.block k hk1 (fun h => hk2 h.1)⟩, fun g cs hg => (hW.glob g cs hg).mono hold, hw'.stay, hw'.pinned⟩, hrd.mono (hback os' β' w') (fun _ _ h => h), hp, hpost⟩

/-- A contract that speaks of no package variable holds beside any that are spoken of. -/
theorem FnC.anyG {P : Program} {f : FuncId} {G : Nat → Option (List D)} {pin : Nat} {os : List Obj} {ds : List D} {post : D → List Obj → Prop} (h : FnC P f G0 pin os ds post) : FnC P f G pin os ds post :=
  h.moreG fun _ _ h => by cases h

/-- One package variable. -/
def G1 (g : Nat) (cs : List D) : Nat → Option (List D) := fun i => if i = g then some cs else none

/-- What a function with a contract does with arguments that were handed in, where package variables hold what is said of them. -/
theorem FnC.doneG {P : Program} {f : FuncId} {G : Nat → Option (List D)} {ds : List D} {d : D} (h : FnC P f G 0 [] ds (fun d' os => d' = d ∧ os = [])) {w : World} {vs : List Value} (hl : vs.length = ds.length)
    (hG : ∀ g cs, G g = some cs → GlobOK (fun b => b < w.heap.size) w g cs)
    (hr : ∀ i, i < ds.length → RO (fun b => b < w.heap.size) w (vs.getD i undef) (ds.getD i .junk)) :
    Calls P f vs.toArray w fun e w' => ∃ v, e = .returned v ∧ Below w.heap.size w w' ∧ Rep (fun b => b < w'.heap.size) (fun _ => none) w' v d := by
  let X : Ctx := ⟨P, w, fun b => b < w.heap.size, fun _ => False, fun _ => none⟩
  have hF0 : ∀ b, b < w.heap.size → FX X (stOf [] G 0) (fun _ => none) w b ∧ w.heap[b]? = w.heap[b]? := fun b hb => ⟨⟨hb, .inl hb, fun o ho => absurd ho (by simp [stOf, St.n])⟩, rfl⟩
  have hW : WRel X (stOf [] G 0) (fun _ => none) w := by
    refine ⟨fun o x hx => (by cases hx), fun o ho => absurd ho (by simp [stOf, St.n]), fun o o' x x' b hx => (by cases hx), fun o x b hx => (by cases hx), KeptL.refl _ _ _, fun g cs hg => (hG g cs hg).mono hF0, fun o ho => absurd ho (by simp [stOf]), Nat.zero_le _⟩
  refine (h.2 X (fun _ => none) w vs rfl rfl rfl hW hl (fun i hi => .ro _ _ ((hr i hi).mono hF0))).mono ?_
  rintro e w' ⟨v, d', os, β', rfl, hw', hrd, _, rfl, rfl⟩
  have hk : KeptL w.heap.size (fun _ => False) w w' := hw'.kept
  have hβ : ∀ o, β' o = none := by
    intro o
    cases ho : β' o with
    | none => rfl
    | some x => exact absurd (hw'.dom o x ho).1 (by simp [stOf, St.n])
  have hβ' : β' = fun _ => none := funext hβ
  subst hβ'
  exact ⟨v, rfl, hk.below, hrd.mono (fun b hb => ⟨hb.1, rfl⟩) (fun _ _ h => h)⟩
theorem FnC.truthG {P : Program} {f : FuncId} {G : Nat → Option (List D)} {ds : List D} {b : Bool} (h : FnC P f G 0 [] ds (fun d' os => d' = .bool b ∧ os = [])) {w : World} {vs : List Value} (hl : vs.length = ds.length)
    (hG : ∀ g cs, G g = some cs → GlobOK (fun b => b < w.heap.size) w g cs)
    (hr : ∀ i, i < ds.length → RO (fun b => b < w.heap.size) w (vs.getD i undef) (ds.getD i .junk)) :
    Calls P f vs.toArray w fun e w' => e = .returned (.bool b) ∧ Below w.heap.size w w' :=
  (h.doneG hl hG hr).mono fun e w' ⟨v, he, hb, hv⟩ => ⟨by rw [he, hv.bool_inv], hb⟩
end Go.Eng
