/-
  The engine, second part. Objects of the call's own, the state, the relation between a state and a machine state, and how it is kept.
  No conditions. Nothing here speaks of a program.
-/
import Derived.Test.YthhmhmbdfahkjaaEng1
namespace Go.Eng
open Go Go.RowKit

theorem Rep.mono {F F' : Nat → Prop} {β β' : Nat → Option Value} {w w' : World} (hF : ∀ b, F b → F' b ∧ w'.heap[b]? = w.heap[b]?)
    (hβ : ∀ o x, β o = some x → β' o = some x) {v : Value} {d : D} (h : Rep F β w v d) : Rep F' β' w' v d := by
  induction h with
  | ro x d h => exact .ro x d (h.mono hF)
  | h o x h => exact .h o x (hβ _ _ h)
  | hp o off b x h hb => exact .hp o off b x (hβ _ _ h) hb
  | hr o s i off b x h hb => exact .hr o s i off b x (hβ _ _ h) hb
  | hs o s a b x v h hv => exact .hs o s a b x v (hβ _ _ h) hv
  | agg cs ds hl h1 _ ih => exact .agg cs ds hl h1 ih
  | tup cs ds hl _ ih => exact .tup cs ds hl ih
  | clo f cs ds hl _ ih => exact .clo f cs ds hl ih

def look : List (Nat × D) → Nat → D
  | [], _ => .junk
  | (k, d) :: r, i => bif Nat.beq i k then d else look r i

/-- Objects of the call's own: a row that a slice owns; a box behind a pointer; the temporaries of a caller whose callee is being walked in its place. -/
inductive Obj where
  | dead
  | row (e : TypeId) (s : Nat) (es : List (List D))
  | box (cs : List D)
  | frame (vs : List Value) (e : List (Nat × D))
  | blk (e : TypeId) (s : Nat) (cs : List (List D)) (c : Nat)

instance : Inhabited Obj := ⟨.dead⟩

def Obj.live : Obj → Prop
  | .dead => False
  | _ => True

def OwnRow (F : Nat → Prop) (w : World) (e : TypeId) (s : Nat) (es : List (List D)) (x : Value) : Prop :=
  es.length ≤ maxLen ∧ (∀ i, i < es.length → (es.getD i []).length = s) ∧
    ∃ xs, w.ownsRow 0 e s x es.length xs ∧ (∀ u ∈ xs, u.oneCell' = true) ∧ ∀ i j, i < es.length → j < s → RO F w (xs.getD (i * s + j) undef) ((es.getD i []).getD j .junk)

def OwnBox (F : Nat → Prop) (β : Nat → Option Value) (w : World) (cs : List D) (x : Value) : Prop :=
  ∃ b c T, x = .pointer (some ⟨b, 0, none⟩) ∧ w.heap[b]? = some (.cells c T (0, 0)) ∧ c.size = cs.length ∧ (∀ u ∈ c.toList, u.oneCell' = true) ∧
    ∀ j, j < cs.length → Rep F β w (c.toList.getD j undef) (cs.getD j .junk)

def OwnFrame (F : Nat → Prop) (β : Nat → Option Value) (w : World) (vs : List Value) (e : List (Nat × D)) (x : Value) : Prop := x = .bool true ∧ ∀ i, Rep F β w (vs.getD i undef) (look e i)

/-- A row whose capacity c is known, and the first of its elements. -/
def OwnBlk (F : Nat → Prop) (w : World) (e : TypeId) (s : Nat) (cs : List (List D)) (c : Nat) (x : Value) : Prop :=
  ∃ g cur, x = .slice (some ⟨g, 0, none⟩) c c ∧ w.heap[g]? = some (.cells cur e (0, 0)) ∧ cs.length ≤ c ∧ c ≤ maxLen ∧ cur.size = c * s ∧ (∀ i, i < cs.length → (cs.getD i []).length = s) ∧
    ∀ i j, i < cs.length → j < s → (cur.toList.getD (i * s + j) undef).oneCell' = true ∧ RO F w (cur.toList.getD (i * s + j) undef) ((cs.getD i []).getD j .junk)

def Own (F : Nat → Prop) (β : Nat → Option Value) (w : World) : Obj → Value → Prop
  | .dead, _ => True
  | .row e s es, x => OwnRow F w e s es x
  | .box cs, x => OwnBox F β w cs x
  | .frame vs e, x => OwnFrame F β w vs e x
  | .blk e s cs c, x => OwnBlk F w e s cs c x

theorem Own.lt {F : Nat → Prop} {β : Nat → Option Value} {w : World} {o : Obj} {x : Value} (hl : o.live) (h : Own F β w o x) : ∀ b, blk x = some b → b < w.heap.size := by
  intro b hb
  cases o with
  | dead => exact hl.elim
  | row e s es =>
    obtain ⟨_, _, xs, h, _⟩ := h
    rcases h.2 with ⟨rfl, _⟩ | ⟨g, cap, cur, rfl, _, hg, _⟩
    · simp [blk] at hb
    · simp [blk] at hb
      subst hb
      exact (Array.getElem?_eq_some_iff.1 hg).1
  | box cs =>
    obtain ⟨b', c, T, rfl, hg, _⟩ := h
    simp [blk] at hb
    subst hb
    exact (Array.getElem?_eq_some_iff.1 hg).1
  | frame vs e =>
    obtain ⟨rfl, _⟩ := h
    simp [Eng.blk] at hb
  | blk e s cs c =>
    obtain ⟨g, cur, rfl, hg, _⟩ := h
    simp [Eng.blk] at hb
    subst hb
    exact (Array.getElem?_eq_some_iff.1 hg).1

theorem ownsRow_heap {w w' : World} {base : Nat} {e : TypeId} {s : Nat} {x : Value} {n : Nat} {xs : List Value} (hb : ∀ b, blk x = some b → w'.heap[b]? = w.heap[b]?)
    (h : w.ownsRow base e s x n xs) : w'.ownsRow base e s x n xs := by
  refine ⟨h.1, ?_⟩
  rcases h.2 with hn | ⟨g, cap, cur, rfl, hbg, hg, r⟩
  · exact .inl hn
  · exact .inr ⟨g, cap, cur, rfl, hbg, by rw [hb g rfl]; exact hg, r⟩

theorem Own.mono {F F' : Nat → Prop} {β β' : Nat → Option Value} {w w' : World} (hF : ∀ b, F b → F' b ∧ w'.heap[b]? = w.heap[b]?)
    (hβ : ∀ o x, β o = some x → β' o = some x) {o : Obj} {x : Value} (hb : ∀ b, blk x = some b → w'.heap[b]? = w.heap[b]?) (h : Own F β w o x) : Own F' β' w' o x := by
  cases o with
  | dead => trivial
  | row e s es =>
    obtain ⟨h1, h2, xs, h3, h4, h5⟩ := h
    exact ⟨h1, h2, xs, ownsRow_heap hb h3, h4, fun i j hi hj => (h5 i j hi hj).mono hF⟩
  | box cs =>
    obtain ⟨b, c, T, rfl, hg, hs, h1, hr⟩ := h
    exact ⟨b, c, T, rfl, by rw [hb b rfl]; exact hg, hs, h1, fun j hj => (hr j hj).mono hF hβ⟩
  | frame vs e => exact ⟨h.1, fun i => (h.2 i).mono hF hβ⟩
  | blk e s cs c =>
    obtain ⟨g, cur, rfl, hg, h2, h3, h4, h5, h6⟩ := h
    exact ⟨g, cur, rfl, by rw [hb g rfl]; exact hg, h2, h3, h4, h5, fun i j hi hj => ⟨(h6 i j hi hj).1, (h6 i j hi hj).2.mono hF⟩⟩

/-- What stays as it was: below B, but for the lent blocks. -/
structure KeptL (B : Nat) (L : Nat → Prop) (w w' : World) : Prop where
  os : w'.os = w.os
  tape : w'.tape = w.tape
  output : w'.output = w.output
  size : w.heap.size ≤ w'.heap.size
  block : ∀ k, k < B → ¬ L k → w'.heap[k]? = w.heap[k]?

theorem KeptL.refl (B : Nat) (L : Nat → Prop) (w : World) : KeptL B L w w := ⟨rfl, rfl, rfl, Nat.le_refl _, fun _ _ _ => rfl⟩
theorem KeptL.trans {B : Nat} {L : Nat → Prop} {a b c : World} (h : KeptL B L a b) (k : KeptL B L b c) : KeptL B L a c :=
  ⟨k.os.trans h.os, k.tape.trans h.tape, k.output.trans h.output, Nat.le_trans h.size k.size, fun i hi hl => (k.block i hi hl).trans (h.block i hi hl)⟩
theorem KeptL.below {B : Nat} {w w' : World} (h : KeptL B (fun _ => False) w w') : Below B w w' :=
  ⟨h.os, h.tape, h.output, h.size, fun k hk => h.block k hk (fun f => f)⟩
theorem KeptL.of_below {B : Nat} {L : Nat → Prop} {w w' : World} (h : Below B w w') : KeptL B L w w' :=
  ⟨h.os, h.tape, h.output, h.size, fun k hk _ => h.block k hk⟩

structure Ctx where
  P : Program
  w0 : World
  F0 : Nat → Prop
  lent : Nat → Prop
  β0 : Nat → Option Value

/-- What is known of a frame: of each temporary that is listed, its data; of the rest nothing. The objects by number. The listed package-level variables. -/
structure St where
  env : List (Nat × D)
  nt : Nat
  objs : List Obj
  g : Nat → Option (List D)
  pin : Nat


def St.n (st : St) : Nat := st.objs.length
def St.obj (st : St) (o : Nat) : Obj := st.objs.getD o .dead

theorem beq_ne {i t : Nat} (h : i ≠ t) : Nat.beq i t = false := by
  cases hb : Nat.beq i t with
  | false => rfl
  | true => exact absurd (Nat.eq_of_beq_eq_true hb) h
theorem look_same (r : List (Nat × D)) (t : Nat) (d : D) : look ((t, d) :: r) t = d := by simp [look]
theorem look_ne (r : List (Nat × D)) {t i : Nat} (d : D) (h : i ≠ t) : look ((t, d) :: r) i = look r i := by simp [look, beq_ne h]

def St.put (st : St) : Option Nat → D → St
  | none, _ => st
  | some t, d => bif Nat.blt t st.nt then { st with env := (t, d) :: st.env } else st

def St.push (st : St) (ob : Obj) : St := { st with objs := st.objs ++ [ob] }

theorem push_same (st : St) (ob : Obj) : (st.push ob).obj st.n = ob := by
  simp [St.push, St.obj, St.n, List.getD_eq_getElem?_getD]
theorem push_ne (st : St) (ob : Obj) {o : Nat} (h : o ≠ st.n) : (st.push ob).obj o = st.obj o := by
  have h' : o ≠ st.objs.length := h
  simp only [St.push, St.obj, List.getD_eq_getElem?_getD]
  rcases Nat.lt_or_ge o st.objs.length with hl | hl
  · rw [List.getElem?_append_left hl]
  · rw [List.getElem?_eq_none (by simp; omega), List.getElem?_eq_none hl]
theorem push_n (st : St) (ob : Obj) : (st.push ob).n = st.n + 1 := by simp [St.push, St.n]

def FX (X : Ctx) (st : St) (β : Nat → Option Value) (w : World) (b : Nat) : Prop :=
  b < w.heap.size ∧ (X.F0 b ∨ X.w0.heap.size ≤ b ∨ X.lent b) ∧ ∀ o, o < st.n → (st.obj o).live → ∀ x, β o = some x → blk x ≠ some b

structure Rel (X : Ctx) (st : St) (β : Nat → Option Value) (a : Act) (w : World) : Prop where
  defers : a.defers = []
  size : a.tmps.size = st.nt
  tmps : ∀ i, Rep (FX X st β w) β w (a.tmps.getD i undef) (look st.env i)
  dom : ∀ o x, β o = some x → o < st.n ∧ (st.obj o).live
  own : ∀ o, o < st.n → (st.obj o).live → ∃ x, β o = some x ∧ Own (FX X st β w) β w (st.obj o) x
  sep : ∀ o o' x x' b, β o = some x → β o' = some x' → blk x = some b → blk x' = some b → o = o'
  low : ∀ o x b, β o = some x → blk x = some b → X.w0.heap.size ≤ b ∨ X.lent b
  kept : KeptL X.w0.heap.size X.lent X.w0 w
  glob : ∀ g cs, st.g g = some cs → GlobOK (FX X st β w) w g cs
  stay : ∀ o, o < st.pin → β o = X.β0 o
  pinned : st.pin ≤ st.n

theorem FX.of_eq {X : Ctx} {st st' : St} {β : Nat → Option Value} {w : World} (ho : st'.objs = st.objs) : FX X st' β w = FX X st β w := by
  funext b
  simp [FX, St.n, St.obj, ho]

theorem Rel.lt' {X : Ctx} {st : St} {β : Nat → Option Value} {a : Act} {w : World} (h : Rel X st β a w) {o : Nat} {x : Value} (hx : β o = some x) {b : Nat} (hb : blk x = some b) : b < w.heap.size := by
  obtain ⟨h1, h2⟩ := h.dom o x hx
  obtain ⟨y, hy, hw⟩ := h.own o h1 h2
  rw [hx] at hy
  cases hy
  exact Own.lt h2 hw b hb

/-- A temporary is written. -/
theorem Rel.put {X : Ctx} {st : St} {β : Nat → Option Value} {a : Act} {w : World} (h : Rel X st β a w) (dst : Option Nat) {v : Value} {d : D} (hv : Rep (FX X st β w) β w v d) :
    Rel X (st.put dst d) β (a.put dst v) w := by
  cases dst with
  | none => exact h
  | some t =>
    unfold St.put Act.put
    by_cases ht : t < st.nt
    · have hb : Nat.blt t st.nt = true := by simp [Nat.blt_eq, ht]
      simp only [hb, cond_true]
      refine ⟨h.defers, by simp [h.size], fun i => ?_, h.dom, h.own, h.sep, h.low, h.kept, h.glob, h.stay, h.pinned⟩
      show Rep (FX X st β w) β w ((a.tmps.setIfInBounds t v).getD i undef) (look ((t, d) :: st.env) i)
      by_cases hi : i = t
      · subst hi
        have hs : i < a.tmps.size := by rw [h.size]; exact ht
        simpa [look_same, hs] using hv
      · rw [look_ne _ _ hi]
        have := h.tmps i
        simpa [Array.getElem?_setIfInBounds_ne (Ne.symm hi)] using this
    · have hb : Nat.blt t st.nt = false := by
        cases hb : Nat.blt t st.nt with
        | false => rfl
        | true => exact absurd (by simpa using hb) ht
      have hs : a.tmps.setIfInBounds t v = a.tmps := by
        rw [Array.setIfInBounds_eq_of_size_le (by rw [h.size]; omega)]
      simp only [hb, cond_false, hs]
      exact h

/-- The memory is as it was (a draw, say). -/
theorem Rel.same {X : Ctx} {st : St} {β : Nat → Option Value} {a : Act} {w w' : World} (h : Rel X st β a w) (hh : w'.heap = w.heap) (ho : w'.os = w.os) (ht : w'.tape = w.tape) (hu : w'.output = w.output) : Rel X st β a w' := by
  have hF : ∀ b, FX X st β w b → FX X st β w' b ∧ w'.heap[b]? = w.heap[b]? := fun b hb => ⟨by unfold FX at *; rw [hh]; exact hb, by rw [hh]⟩
  exact ⟨h.defers, h.size, fun i => (h.tmps i).mono hF (fun _ _ h => h), h.dom, fun o hn hl => let ⟨x, hx, hw⟩ := h.own o hn hl; ⟨x, hx, hw.mono hF (fun _ _ h => h) (fun b _ => by rw [hh])⟩,
    h.sep, h.low, h.kept.trans ⟨ho, ht, hu, by rw [hh]; exact Nat.le_refl _, fun k _ _ => by rw [hh]⟩, fun g cs hg => (h.glob g cs hg).mono hF, h.stay, h.pinned⟩

theorem Rel.drew {X : Ctx} {st : St} {β : Nat → Option Value} {a : Act} {w : World} (h : Rel X st β a w) : Rel X st β a { w with drawn := w.drawn + 1 } := h.same rfl rfl rfl rfl

def OneDef (β : Nat → Option Value) (n : Nat) (x : Value) : Nat → Option Value := fun i => if i = n then some x else β i

theorem OneDef.ext {β : Nat → Option Value} {n : Nat} {x : Value} (hn : β n = none) : ∀ o y, β o = some y → OneDef β n x o = some y := by
  intro o y h
  unfold OneDef
  by_cases e : o = n
  · subst e; rw [hn] at h; cases h
  · rw [if_neg e]; exact h

/-- A new object in a block that was not there (or in none). -/
theorem Rel.newObj {X : Ctx} {st : St} {β : Nat → Option Value} {a : Act} {w w' : World} (h : Rel X st β a w) (hg : w.grownBy w' none) (ob : Obj) (hob : ob.live) (x : Value)
    (hx : ∀ b, blk x = some b → w.heap.size ≤ b)
    (ho : ∀ F' β', (∀ b, FX X st β w b → F' b ∧ w'.heap[b]? = w.heap[b]?) → (∀ o y, β o = some y → β' o = some y) → Own F' β' w' ob x) :
    Rel X (st.push ob) (OneDef β st.n x) a w' := by
  have hn : β st.n = none := by
    cases e : β st.n with
    | none => rfl
    | some y => exact absurd (h.dom _ _ e).1 (by omega)
  have hsame : ∀ b, b < w.heap.size → w'.heap[b]? = w.heap[b]? := fun b hb => hg.block b hb (by simp)
  have hF : ∀ b, FX X st β w b → FX X (st.push ob) (OneDef β st.n x) w' b ∧ w'.heap[b]? = w.heap[b]? := by
    intro b hb
    refine ⟨⟨Nat.lt_of_lt_of_le hb.1 hg.size, hb.2.1, fun o hon hl y hy => ?_⟩, hsame b hb.1⟩
    unfold OneDef at hy
    by_cases e : o = st.n
    · rw [if_pos e] at hy
      cases hy
      intro hbx
      have := hx b hbx
      have := hb.1
      omega
    · rw [if_neg e] at hy
      exact hb.2.2 o (h.dom o y hy).1 (h.dom o y hy).2 y hy
  have hext := OneDef.ext (x := x) hn
  refine ⟨h.defers, h.size, fun i => (h.tmps i).mono hF hext, ?_, ?_, ?_, ?_, h.kept.trans ⟨hg.os, hg.tape, hg.output, hg.size, fun k hk _ => hsame k (Nat.lt_of_lt_of_le hk h.kept.size)⟩, fun g cs hgl => (h.glob g cs hgl).mono hF, fun o ho => ?_, by rw [push_n]; exact Nat.le_succ_of_le h.pinned⟩
  · intro o y hy
    unfold OneDef at hy
    by_cases e : o = st.n
    · subst e
      exact ⟨by rw [push_n]; omega, by rw [push_same]; exact hob⟩
    · rw [if_neg e] at hy
      have := h.dom o y hy
      exact ⟨by rw [push_n]; omega, by rw [push_ne _ _ e]; exact this.2⟩
  · intro o hon hl
    by_cases e : o = st.n
    · subst e
      refine ⟨x, by simp [OneDef], ?_⟩
      rw [push_same]
      exact ho _ _ hF hext
    · have hl' : (st.obj o).live := by
        rwa [push_ne _ _ e] at hl
      obtain ⟨y, hy, hw⟩ := h.own o (by rw [push_n] at hon; omega) hl'
      refine ⟨y, hext _ _ hy, ?_⟩
      rw [push_ne _ _ e]
      exact hw.mono hF hext (fun b hb => hsame b (Own.lt hl' hw b hb))
  · intro o o' y y' b hy hy' hb hb'
    have key : ∀ o y, o ≠ st.n → OneDef β st.n x o = some y → ∀ b, blk y = some b → b < w.heap.size := by
      intro o y e hy b hb
      unfold OneDef at hy
      rw [if_neg e] at hy
      obtain ⟨hon, hl⟩ := h.dom o y hy
      obtain ⟨y2, hy2, hw⟩ := h.own o hon hl
      rw [hy] at hy2
      cases hy2
      exact Own.lt hl hw b hb
    by_cases e : o = st.n <;> by_cases e' : o' = st.n
    · rw [e, e']
    · exfalso
      subst e
      simp [OneDef] at hy
      subst hy
      have := key o' y' e' hy' b hb'
      have := hx b hb
      omega
    · exfalso
      subst e'
      simp [OneDef] at hy'
      subst hy'
      have := key o y e hy b hb
      have := hx b hb'
      omega
    · unfold OneDef at hy hy'
      rw [if_neg e] at hy
      rw [if_neg e'] at hy'
      exact h.sep o o' y y' b hy hy' hb hb'
  · intro o y b hy hb
    unfold OneDef at hy
    by_cases e : o = st.n
    · rw [if_pos e] at hy
      cases hy
      exact .inl (Nat.le_trans h.kept.size (hx b hb))
    · rw [if_neg e] at hy
      exact h.low o y b hy hb
  · have hp : st.pin ≤ st.n := h.pinned
    have ho' : o < st.pin := ho
    unfold OneDef
    rw [if_neg (by omega)]
    exact h.stay o ho'
end Go.Eng
