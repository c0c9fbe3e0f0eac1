/-
  The engine, twenty-seventh part. Arguments as they are handed in, as data; from a function's contract to what it does.
  No conditions.
-/
import Derived.Test.YthhmhmbdfahkjaaEng26
import Derived.ChangeSlices
import Derived.OpenShut
namespace Go.Eng
open Go Go.RowKit

theorem one1 {v : Value} (h : v.oneCell' = true) : ∀ u ∈ [v], u.oneCell' = true := by
  intro u hu
  cases hu with
  | head => exact h
  | tail _ h => cases h
/-- A value of type t that is handed in is one of those that enc writes. -/
def Opens {α : Type} (P : Program) (t : TypeId) (enc : α → List D) (ok : α → Prop) : Prop :=
  ∀ {H : Type} (e : TypeId × Value → H) (w : World) (fuel : Nat) (cs : List Value) (d : DataW H × List MemPlace), DataW.trod e P w 0 (fun _ => true) true fuel t cs = some d →
    ∃ x : α, ok x ∧ cs.length = (enc x).length ∧ (∀ u ∈ cs, u.oneCell' = true) ∧ ∀ i, i < cs.length → RO (fun b => b < w.heap.size) w (cs.getD i undef) ((enc x).getD i .junk)

section
variable {P : Program} {t : TypeId}

theorem Opens.int {k : IntKind} (ht : P.underlying t = some (.int k)) : Opens P t (fun n : Int => [.int k n]) (fun n => (Lit.int k n).wf = true) := by
  intro H e w fuel cs d h
  obtain ⟨n, rfl, _, hw⟩ := DataW.trod_int ht h
  refine ⟨n, hw, rfl, one1 rfl, fun i hi => ?_⟩
  have : i = 0 := by simpa using hi
  subst this
  exact .int _ _
theorem Opens.bool (ht : P.underlying t = some .bool) : Opens P t (fun b : Bool => [.bool b]) (fun _ => True) := by
  intro H e w fuel cs d h
  obtain ⟨n, rfl, _⟩ := DataW.trod_bool ht h
  refine ⟨n, trivial, rfl, one1 rfl, fun i hi => ?_⟩
  have : i = 0 := by simpa using hi
  subst this
  exact .bool _
theorem Opens.string (ht : P.underlying t = some .string) : Opens P t (fun l : List UInt8 => [.str l]) (fun l => l.length ≤ maxLen) := by
  intro H e w fuel cs d h
  obtain ⟨s, rfl, _, hs⟩ := DataW.trod_string ht h
  have hl : s.data.toList.length = s.size := Array.length_toList
  refine ⟨s.data.toList, by omega, rfl, one1 rfl, fun i hi => ?_⟩
  have : i = 0 := by simpa using hi
  subst this
  have h2 := RO.str (F := fun b => b < w.heap.size) (w := w) s.data.toList (by omega)
  simpa using h2

theorem Opens.slice {α : Type} {u : TypeId} {enc : α → List D} {ok : α → Prop} (s : Nat) (ht : P.underlying t = some (.slice u)) (hs : P.cellsOf u = s) (h0 : 0 < s) (hu : Opens P u enc ok) :
    Opens P t (fun l : List α => [.sl s (l.map enc)]) (fun l => ∀ x ∈ l, ok x) := by
  subst hs
  intro H e w fuel cs d h
  rcases DataW.trod_slice ht h with ⟨rfl, _⟩ | ⟨a, len, cap, elems, rest, n, _, rfl, _, _, hl, hm, hlen, hel, _, _⟩
  · refine ⟨[], by simp, rfl, one1 rfl, fun i hi => ?_⟩
    have : i = 0 := by simpa using hi
    subst this
    exact .slnil _ _ _
  · have each : ∀ i : Fin len, ∃ x : α, ok x ∧ (enc x).length = P.cellsOf u ∧ ∃ c : Nat → Value, (∀ j, j < P.cellsOf u → w.cell? ((a.add (i * P.cellsOf u)).add j) = some (c j) ∧ (c j).oneCell' = true ∧ RO (fun b => b < w.heap.size) w (c j) ((enc x).getD j .junk)) := by
      intro i
      have hi : elems[i.1]? = some (elems[i.1]'(by rw [hlen]; exact i.2)) := List.getElem?_eq_getElem _
      have hb := hel i.1 i.2
      rw [hi, Option.bind_eq_some_iff] at hb
      obtain ⟨cs', hcs, hy⟩ := hb
      obtain ⟨_, hcl, hcell⟩ := World.cells?_some hcs
      obtain ⟨x, hok, hxl, h1, hr⟩ := hu e w n cs' _ hy
      refine ⟨x, hok, by omega, fun j => cs'.getD j undef, fun j hj => ?_⟩
      have hj' : j < cs'.length := by omega
      have hg : cs'[j]? = some (cs'.getD j undef) := by simp [List.getD_eq_getElem?_getD, hj']
      refine ⟨by rw [hcell j hj]; exact hg, h1 _ (getD_mem hj'), hr j hj'⟩
    cases hz : len with
    | zero =>
      subst hz
      refine ⟨[], by simp, rfl, one1 rfl, fun i hi => ?_⟩
      have : i = 0 := by simpa using hi
      subst this
      exact .slnil _ _ _
    | succ m =>
      obtain ⟨x, hx1⟩ := Classical.skolem.1 each
      have hok := fun i => (hx1 i).1
      have hxl := fun i => (hx1 i).2.1
      obtain ⟨c, hc⟩ := Classical.skolem.1 (fun i => (hx1 i).2.2)
      have hx : ∀ i (hi : i < len), (List.ofFn x)[i]? = some (x ⟨i, hi⟩) := by intro i hi; simp [hi]
      have hxe : ∀ i (hi : i < len), ((List.ofFn x).map enc).getD i [] = enc (x ⟨i, hi⟩) := by intro i hi; simp [List.getD_eq_getElem?_getD, hi]
      obtain ⟨b, off, spot⟩ := a
      have h00 := (hc ⟨0, by omega⟩ 0 h0).1
      rw [Nat.zero_mul, show ((⟨b, off, spot⟩ : Addr).add 0).add 0 = ⟨b, off, spot⟩ from rfl] at h00
      obtain rfl : spot = none := World.cell?_spot h00
      have hlt : b < w.heap.size := World.block_lt_of_cell? w _ h00
      refine ⟨List.ofFn x, fun y hy => ?_, rfl, one1 rfl, fun i hi => ?_⟩
      · obtain ⟨i, rfl⟩ := (List.mem_ofFn).1 hy
        exact hok i
      · have : i = 0 := by simpa using hi
        subst this
        have hlen2 : ((List.ofFn x).map enc).length = len := by simp
        refine .sl (P.cellsOf u) ((List.ofFn x).map enc) b off (m + 1) cap (fun i j => if hi : i < len then c ⟨i, hi⟩ j else undef) (by rw [hlen2, hz]) hlt (by omega) hm (fun i hi => ?_) (fun i j hi hj => ?_) (fun i j hi hj => ?_)
        · rw [hlen2] at hi
          rw [hxe i hi]
          exact hxl _
        · rw [hlen2] at hi
          rw [dif_pos hi]
          obtain ⟨g1, g2, _⟩ := hc ⟨i, hi⟩ j hj
          rw [add_lit, add_lit] at g1
          exact ⟨g1, g2⟩
        · rw [hlen2] at hi
          rw [dif_pos hi, hxe i hi]
          exact (hc ⟨i, hi⟩ j hj).2.2

/-- The fields of a struct from cell off on. -/
def OpensF {α : Type} (P : Program) (fs : List Field) (off : Nat) (enc : α → List D) (ok : α → Prop) : Prop :=
  ∀ {H : Type} (e : TypeId × Value → H) (w : World) (n : Nat) (cs : List Value), (∀ f ∈ fs, ∃ d, DataW.trod e P w 0 (fun _ => true) true n f.type ((cs.drop f.offset).take (P.cellsOf f.type)) = some d) →
    ∃ x : α, ok x ∧ (∀ i, i < (enc x).length → off + i < cs.length ∧ (cs.getD (off + i) undef).oneCell' = true ∧ RO (fun b => b < w.heap.size) w (cs.getD (off + i) undef) ((enc x).getD i .junk))

theorem OpensF.nil {off : Nat} : OpensF P [] off (fun _ : Unit => []) (fun _ => True) := fun e w n cs _ => ⟨(), trivial, fun i hi => absurd hi (by simp)⟩
theorem OpensF.cons {α β : Type} {f : Field} {fs : List Field} {off k : Nat} {enc : α → List D} {ok : α → Prop} {enc' : β → List D} {ok' : β → Prop} (hf : f.offset = off) (hk : ∀ x, (enc x).length = k) (h : Opens P f.type enc ok) (hs : OpensF P fs (off + k) enc' ok') :
    OpensF P (f :: fs) off (fun x : α × β => enc x.1 ++ enc' x.2) (fun x => ok x.1 ∧ ok' x.2) := by
  intro H e w n cs hh
  obtain ⟨d, hd⟩ := hh f (List.mem_cons_self ..)
  obtain ⟨x, hok, hxl, h1, hr⟩ := h e w n _ _ hd
  obtain ⟨y, hok', hy⟩ := hs e w n cs (fun g hg => hh g (List.mem_cons_of_mem _ hg))
  refine ⟨(x, y), ⟨hok, hok'⟩, fun i hi => ?_⟩
  have hkx := hk x
  by_cases hik : i < k
  · have hlen : ((cs.drop f.offset).take (P.cellsOf f.type)).length = k := by omega
    have hil : i < ((cs.drop f.offset).take (P.cellsOf f.type)).length := by omega
    have hgo : ((cs.drop f.offset).take (P.cellsOf f.type)).getD i undef = cs.getD (off + i) undef := by
      simp only [List.length_take, List.length_drop] at hil
      simp only [List.getD_eq_getElem?_getD, List.getElem?_take, List.getElem?_drop, hf]
      rw [if_pos (by omega)]
    have h1' := h1 _ (getD_mem (z := undef) hil)
    have hr' := hr i hil
    rw [hgo] at h1' hr'
    refine ⟨?_, h1', ?_⟩
    rotate_left
    · show RO _ w _ ((enc x ++ enc' y).getD i .junk)
      rw [List.getD_eq_getElem?_getD (l := enc x ++ enc' y), List.getElem?_append_left (by omega), ← List.getD_eq_getElem?_getD]
      exact hr'
    · simp only [List.length_take, List.length_drop] at hil
      omega
  · have hi2 : i - k < (enc' y).length := by
      simp only [List.length_append] at hi
      omega
    obtain ⟨g1, g2, g3⟩ := hy (i - k) hi2
    have e1 : off + k + (i - k) = off + i := by omega
    rw [e1] at g1 g2 g3
    refine ⟨g1, g2, ?_⟩
    show RO _ w _ ((enc x ++ enc' y).getD i .junk)
    rw [List.getD_eq_getElem?_getD (l := enc x ++ enc' y), List.getElem?_append_right (by omega), hkx, ← List.getD_eq_getElem?_getD]
    exact g3

theorem Opens.struct {α : Type} {fs : Array Field} {enc : α → List D} {ok : α → Prop} (k : Nat) (ht : P.underlying t = some (.struct fs)) (hk : P.cellsOf t = k) (he : ∀ x, (enc x).length = k) (h : OpensF P fs.toList 0 enc ok) : Opens P t enc ok := by
  subst hk
  intro H e w fuel cs d hd
  obtain ⟨xs, n, _, _, hcl, hxl, hf⟩ := DataW.trod_struct ht hd
  obtain ⟨x, hok, hx⟩ := h e w n cs (fun f hf' => by
    obtain ⟨i, hi⟩ := List.getElem?_of_mem hf'
    rw [Array.getElem?_toList] at hi
    have hi2 : i < xs.length := by
      rw [hxl]
      exact (Array.getElem?_eq_some_iff.1 hi).1
    exact ⟨_, (hf i f hi).trans (List.getElem?_eq_getElem hi2)⟩)
  have hex := he x
  refine ⟨x, hok, by omega, fun u hu => ?_, fun i hi => ?_⟩
  · obtain ⟨i, hi⟩ := List.getElem?_of_mem hu
    have hi2 : i < cs.length := (List.getElem?_eq_some_iff.1 hi).1
    have := (hx i (by omega)).2.1
    rw [Nat.zero_add, List.getD_eq_getElem?_getD, hi] at this
    exact this
  · have := (hx i (by omega)).2.2
    rwa [Nat.zero_add] at this

/-- The same values, written from elsewhere. -/
theorem Opens.turn {α β : Type} {enc : α → List D} {ok : α → Prop} {enc' : β → List D} {ok' : β → Prop} (g : α → β) (he : ∀ x, enc' (g x) = enc x) (hk : ∀ x, ok x → ok' (g x)) (h : Opens P t enc ok) : Opens P t enc' ok' := by
  intro H e w fuel cs d hd
  obtain ⟨x, h1, h2, h3, h4⟩ := h e w fuel cs d hd
  exact ⟨g x, hk x h1, by rw [he]; exact h2, h3, by rw [he]; exact h4⟩

/-- An argument of one cell, and one of many. -/
theorem Opens.one {α : Type} {enc : α → D} {ok : α → Prop} (h : Opens P t (fun x => [enc x]) ok) {H : Type} {e : TypeId × Value → H} {w : World} {v : Value} {d : DataW H} {ps : List MemPlace} (hv : v.cells.toList = [v])
    (hd : DataW.Trod e P w 0 (fun _ => true) true t v d ps) : ∃ x, ok x ∧ RO (fun b => b < w.heap.size) w v (enc x) := by
  obtain ⟨fuel, hd⟩ := hd
  obtain ⟨x, h1, _, _, h4⟩ := h e w fuel _ _ hd
  rw [hv] at h4
  exact ⟨x, h1, h4 0 (by simp)⟩
theorem Opens.many {α : Type} {enc : α → List D} {ok : α → Prop} (h : Opens P t enc ok) {H : Type} {e : TypeId × Value → H} {w : World} {cs : Array Value} {d : DataW H} {ps : List MemPlace}
    (hd : DataW.Trod e P w 0 (fun _ => true) true t (.agg cs) d ps) : ∃ x, ok x ∧ RO (fun b => b < w.heap.size) w (.agg cs) (.agg (enc x)) := by
  obtain ⟨fuel, hd⟩ := hd
  obtain ⟨x, h1, h2, h3, h4⟩ := h e w fuel _ _ hd
  refine ⟨x, h1, ?_⟩
  have := RO.agg (F := fun b => b < w.heap.size) (w := w) cs.toList (enc x) h2 h3 (fun i hi => h4 i (by rw [h2]; exact hi))
  simpa using this
end

/-- No package variable is spoken of. -/
def G0 : Nat → Option (List D) := fun _ => none

/-- What a function with a contract does with arguments that were handed in. -/
theorem FnC.done {P : Program} {f : FuncId} {ds : List D} {d : D} (h : FnC P f G0 0 [] ds (fun d' os => d' = d ∧ os = [])) {w : World} {vs : List Value} (hl : vs.length = ds.length)
    (hr : ∀ i, i < ds.length → RO (fun b => b < w.heap.size) w (vs.getD i undef) (ds.getD i .junk)) :
    Calls P f vs.toArray w fun e w' => ∃ v, e = .returned v ∧ Below w.heap.size w w' ∧ Rep (fun b => b < w'.heap.size) (fun _ => none) w' v d := by
  let X : Ctx := ⟨P, w, fun b => b < w.heap.size, fun _ => False, fun _ => none⟩
  have hF0 : ∀ b, b < w.heap.size → FX X (stOf [] G0 0) (fun _ => none) w b ∧ w.heap[b]? = w.heap[b]? := fun b hb => ⟨⟨hb, .inl hb, fun o ho => absurd ho (by simp [stOf, St.n])⟩, rfl⟩
  have hW : WRel X (stOf [] G0 0) (fun _ => none) w := by
    refine ⟨fun o x hx => (by cases hx), fun o ho => absurd ho (by simp [stOf, St.n]), fun o o' x x' b hx => (by cases hx), fun o x b hx => (by cases hx), KeptL.refl _ _ _, fun g cs hg => (by cases hg), fun o ho => absurd ho (by simp [stOf]), Nat.zero_le _⟩
  refine (h.2 X (fun _ => none) w vs rfl rfl rfl hW hl (fun i hi => .ro _ _ ((hr i hi).mono hF0))).mono ?_
  rintro e w' ⟨v, d', os, β', rfl, hw', hrd, _, rfl, rfl⟩
  have hk : KeptL w.heap.size (fun _ => False) w w' := hw'.kept
  have hβ : ∀ o, β' o = none := by
    intro o
    cases ho : β' o with
    | none => rfl
    | some x => exact absurd (hw'.dom o x ho).1 (by simp [stOf, St.n])
  have hβ' : β' = fun _ => none := funext hβ
  subst hβ'
  exact ⟨v, rfl, hk.below, hrd.mono (fun b hb => ⟨hb.1, rfl⟩) (fun _ _ h => h)⟩

theorem FnC.truth {P : Program} {f : FuncId} {ds : List D} {b : Bool} (h : FnC P f G0 0 [] ds (fun d' os => d' = .bool b ∧ os = [])) {w : World} {vs : List Value} (hl : vs.length = ds.length)
    (hr : ∀ i, i < ds.length → RO (fun b => b < w.heap.size) w (vs.getD i undef) (ds.getD i .junk)) :
    Calls P f vs.toArray w fun e w' => e = .returned (.bool b) ∧ Below w.heap.size w w' :=
  (h.done hl hr).mono fun e w' ⟨v, he, hb, hv⟩ => ⟨by rw [he, hv.bool_inv], hb⟩
end Go.Eng
