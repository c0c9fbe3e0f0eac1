/-
  The engine, twelfth part. Contracts of functions as data, and how a caller uses one: its own objects are shown to the callee to read, or lent to it to write.
  No conditions.
-/
import Derived.Test.YthhmhmbdfahkjaaEng11
namespace Go.Eng
open Go Go.RowKit

/-- The part of the relation that speaks of memory. -/
structure WRel (X : Ctx) (st : St) (β : Nat → Option Value) (w : World) : Prop where
  dom : ∀ o x, β o = some x → o < st.n ∧ (st.obj o).live
  own : ∀ o, o < st.n → (st.obj o).live → ∃ x, β o = some x ∧ Own (FX X st β w) β w (st.obj o) x
  sep : ∀ o o' x x' b, β o = some x → β o' = some x' → blk x = some b → blk x' = some b → o = o'
  low : ∀ o x b, β o = some x → blk x = some b → X.w0.heap.size ≤ b ∨ X.lent b
  kept : KeptL X.w0.heap.size X.lent X.w0 w
  glob : ∀ g cs, st.g g = some cs → GlobOK (FX X st β w) w g cs
  stay : ∀ o, o < st.pin → β o = X.β0 o
  pinned : st.pin ≤ st.n

theorem Rel.toW {X : Ctx} {st : St} {β : Nat → Option Value} {a : Act} {w : World} (h : Rel X st β a w) : WRel X st β w :=
  ⟨h.dom, h.own, h.sep, h.low, h.kept, h.glob, h.stay, h.pinned⟩

theorem FX.same {X : Ctx} {st st' : St} (ho : st'.objs = st.objs) (β : Nat → Option Value) (w : World) : FX X st' β w = FX X st β w := FX.of_eq ho

theorem WRel.same {X : Ctx} {st st' : St} {β : Nat → Option Value} {w : World} (h : WRel X st β w) (ho : st'.objs = st.objs) (hg : st'.g = st.g) (hp : st'.pin = st.pin) : WRel X st' β w := by
  have hn : st'.n = st.n := by simp [St.n, ho]
  have hob : st'.obj = st.obj := by funext o; simp [St.obj, ho]
  have hF := FX.same (X := X) ho β w
  exact ⟨by rw [hn, hob]; exact h.dom, by rw [hn, hob, hF]; exact h.own, h.sep, h.low, h.kept, by rw [hg, hF]; exact h.glob, by rw [hp]; exact h.stay, by rw [hp, hn]; exact h.pinned⟩

theorem WRel.toRel {X : Ctx} {st : St} {β : Nat → Option Value} {a : Act} {w : World} (h : WRel X st β w) (hd : a.defers = []) (hs : a.tmps.size = st.nt)
    (ht : ∀ i, Rep (FX X st β w) β w (a.tmps.getD i undef) (look st.env i)) : Rel X st β a w :=
  ⟨hd, hs, ht, h.dom, h.own, h.sep, h.low, h.kept, h.glob, h.stay, h.pinned⟩

def FnOK (P : Program) (f : FuncId) : Prop := ∀ (args : Array Value) (w : World), (callFunc f args).run P w = .ok (.enter f args) w

def Obj.plain : Obj → Prop
  | .box _ => False
  | .frame _ _ => False
  | .blk _ _ _ _ => False
  | _ => True

/-- A state of memory alone. -/
def stOf (os : List Obj) (G : Nat → Option (List D)) (pin : Nat) : St := ⟨[], 0, os, G, pin⟩

/-- The contract of a function: called on ds, with the objects os lent to it, it returns d and leaves the objects os' (the lent ones first), as post says. Lent objects below pin stay where they are. -/
def FnC (P : Program) (f : FuncId) (G : Nat → Option (List D)) (pin : Nat) (os : List Obj) (ds : List D) (post : D → List Obj → Prop) : Prop :=
  FnOK P f ∧ ∀ (X : Ctx) (β : Nat → Option Value) (w : World) (vs : List Value), X.P = P → X.w0 = w → X.β0 = β → WRel X (stOf os G pin) β w → vs.length = ds.length →
    (∀ i, i < ds.length → Rep (FX X (stOf os G pin) β w) β w (vs.getD i undef) (ds.getD i .junk)) →
    Calls P f vs.toArray w fun e w' => ∃ v d os' β', e = .returned v ∧ WRel X (stOf os' G pin) β' w' ∧ Rep (FX X (stOf os' G pin) β' w') β' w' v d ∧ (∀ o ∈ os', o.plain) ∧ post d os'

/-! ### Data that lead nowhere -/
def flat0 : D → Bool
  | .junk | .int _ _ | .bool _ | .str _ | .v _ => true
  | .sl _ [] => true
  | _ => false
def flat1 : D → Bool
  | .agg cs => cs.all flat0
  | .h _ => true
  | d => flat0 d
def flat : D → Bool
  | .tup ds => ds.all flat1
  | d => flat1 d
def FlatO : Obj → Prop
  | .row _ _ es => ∀ e ∈ es, ∀ c ∈ e, flat0 c = true
  | .dead => True
  | .box _ => False
  | .frame _ _ => False
  | .blk _ _ _ _ => False

theorem getD_mem {α : Type} {l : List α} {j : Nat} {z : α} (h : j < l.length) : l.getD j z ∈ l := by
  rw [List.getD_eq_getElem?_getD, List.getElem?_eq_getElem h]
  exact List.getElem_mem _

theorem RO.flat0 {F F' : Nat → Prop} {w w' : World} {v : Value} {d : D} (h : RO F w v d) (hd : flat0 d = true) : RO F' w' v d := by
  cases h <;> first | (cases hd; done) | skip
  rotate_right 1
  · rename_i s es b off len cap c hlen hF hcap hm hs hc hr
    cases es with
    | nil =>
      subst hlen
      exact .slnil _ _ _
    | cons e r => cases hd
  rotate_right 1
  · exact .slnil _ _ _
  · exact .junk _
  · exact .int _ _
  · exact .bool _
  · exact .str _ ‹_›
  · exact .v _

theorem Own.plain_mono {F F' : Nat → Prop} {β β' : Nat → Option Value} {w w' : World} (hF : ∀ b, F b → F' b ∧ w'.heap[b]? = w.heap[b]?)
    {o : Obj} (hp : o.plain) {x : Value} (hb : ∀ b, blk x = some b → w'.heap[b]? = w.heap[b]?) (h : Own F β w o x) : Own F' β' w' o x := by
  cases o with
  | dead => trivial
  | row e s es =>
    obtain ⟨h1, h2, xs, h3, h4, h5⟩ := h
    exact ⟨h1, h2, xs, ownsRow_heap hb h3, h4, fun i j hi hj => (h5 i j hi hj).mono hF⟩
  | box cs => exact hp.elim
  | frame vs e => exact hp.elim
  | blk e s cs c => exact hp.elim

theorem Own.flat_any {F F' : Nat → Prop} {β β' : Nat → Option Value} {w : World} {o : Obj} (hp : FlatO o) {x : Value} (h : Own F β w o x) : Own F' β' w o x := by
  cases o with
  | dead => trivial
  | row e s es =>
    obtain ⟨h1, h2, xs, h3, h4, h5⟩ := h
    refine ⟨h1, h2, xs, h3, h4, fun i j hi hj => (h5 i j hi hj).flat0 ?_⟩
    have hi' : es.getD i [] ∈ es := by simp [List.getD_eq_getElem?_getD, hi]
    have hl := h2 i hi
    exact hp _ hi' _ (getD_mem (by omega))
  | box cs => exact hp.elim
  | frame vs e => exact hp.elim
  | blk e s cs c => exact hp.elim

/-! ### Handles get other numbers -/
def ren0 (f : Nat → Nat) : D → D
  | .h o => .h (f o)
  | .hp o k => .hp (f o) k
  | .hr o s i k => .hr (f o) s i k
  | .hs o s a b => .hs (f o) s a b
  | .agg _ => .junk
  | .tup _ => .junk
  | .clo _ _ => .junk
  | d => d
def ren1 (f : Nat → Nat) : D → D
  | .agg cs => .agg (cs.map (ren0 f))
  | .clo g cs => .clo g (cs.map (ren0 f))
  | .tup _ => .junk
  | d => ren0 f d
def ren (f : Nat → Nat) : D → D
  | .tup ds => .tup (ds.map (ren1 f))
  | d => ren1 f d

section
variable {F F' : Nat → Prop} {β β' : Nat → Option Value} {w w' : World} {f : Nat → Nat} (hβ : ∀ o x, β o = some x → β' (f o) = some x)
include hβ

theorem Rep.ren0' {v : Value} {d : D} (hro : RO F w v d → RO F' w' v d) (h : Rep F β w v d) : Rep F' β' w' v (ren0 f d) := by
  cases h with
  | ro x d h =>
    cases d <;> simp only [Eng.ren0] <;> first | exact .ro _ _ (.junk _) | exact .ro _ _ (hro h) | cases h
  | h o x h => exact .h _ _ (hβ _ _ h)
  | hp o off b x h hb => exact .hp _ _ _ _ (hβ _ _ h) hb
  | hr o s i off b x h hb => exact .hr _ _ _ _ _ _ (hβ _ _ h) hb
  | hs o s a b x v h hv => exact .hs _ _ _ _ _ _ (hβ _ _ h) hv
  | agg => exact .ro _ _ (.junk _)
  | tup => exact .ro _ _ (.junk _)
  | clo => exact .ro _ _ (.junk _)

theorem Rep.ren1' {v : Value} {d : D} (hro : ∀ v d, RO F w v d → RO F' w' v d) (h : Rep F β w v d) : Rep F' β' w' v (ren1 f d) := by
  cases d with
  | agg ds =>
    obtain ⟨cs, rfl, hl, h1, hr⟩ := h.agg_inv
    refine .agg _ _ (by simp [hl]) h1 (fun i hi => ?_)
    rw [getD_map_junk _ rfl]
    exact (hr i (by simpa using hi)).ren0' hβ (hro _ _)
  | clo g ds =>
    obtain ⟨cs, rfl, hl, hr⟩ := h.clo_inv
    refine .clo _ _ _ (by simp [hl]) (fun i hi => ?_)
    rw [getD_map_junk _ rfl]
    exact (hr i (by simpa using hi)).ren0' hβ (hro _ _)
  | tup ds => exact .ro _ _ (.junk _)
  | _ => exact h.ren0' hβ (hro _ _)

theorem Rep.ren' {v : Value} {d : D} (hro : ∀ v d, RO F w v d → RO F' w' v d) (h : Rep F β w v d) : Rep F' β' w' v (ren f d) := by
  cases d with
  | tup ds =>
    obtain ⟨cs, rfl, hl, hr⟩ := h.tup_inv
    refine .tup _ _ (by simp [hl]) (fun i hi => ?_)
    rw [getD_map_junk _ rfl]
    exact (hr i (by simpa using hi)).ren1' hβ hro
  | _ => exact h.ren1' hβ hro

/-- The same for flat data, whatever the memory. -/
theorem Rep.renF0 {v : Value} {d : D} (hd : Eng.flat0 d = true) (h : Rep F β w v d) : Rep F' β' w' v (ren0 f d) := by
  refine h.ren0' hβ (fun h => h.flat0 hd)
theorem Rep.renF1 {v : Value} {d : D} (hd : Eng.flat1 d = true) (h : Rep F β w v d) : Rep F' β' w' v (ren1 f d) := by
  cases d with
  | agg ds =>
    obtain ⟨cs, rfl, hl, h1, hr⟩ := h.agg_inv
    refine .agg _ _ (by simp [hl]) h1 (fun i hi => ?_)
    rw [getD_map_junk _ rfl]
    have hi' : i < ds.length := by simpa using hi
    refine (hr i hi').renF0 hβ (List.all_eq_true.1 hd _ ?_)
    rw [List.getD_eq_getElem?_getD, List.getElem?_eq_getElem hi']
    exact List.getElem_mem _
  | h o => exact h.ren0' hβ (fun h => by cases h)
  | clo g ds => cases hd
  | tup ds => cases hd
  | sl s es => exact h.renF0 hβ hd
  | rp cs => cases hd
  | hp o k => cases hd
  | hr o s i k => cases hd
  | hs o s a b => cases hd
  | _ => exact h.ren0' hβ (fun h => RO.flat0 h rfl)
theorem Rep.renF {v : Value} {d : D} (hd : Eng.flat d = true) (h : Rep F β w v d) : Rep F' β' w' v (ren f d) := by
  cases d with
  | tup ds =>
    obtain ⟨cs, rfl, hl, hr⟩ := h.tup_inv
    refine .tup _ _ (by simp [hl]) (fun i hi => ?_)
    rw [getD_map_junk _ rfl]
    have hi' : i < ds.length := by simpa using hi
    refine (hr i hi').renF1 hβ (List.all_eq_true.1 hd _ ?_)
    rw [List.getD_eq_getElem?_getD, List.getElem?_eq_getElem hi']
    exact List.getElem_mem _
  | junk => exact h.renF1 hβ (by exact hd)
  | int => exact h.renF1 hβ (by exact hd)
  | bool => exact h.renF1 hβ (by exact hd)
  | str => exact h.renF1 hβ (by exact hd)
  | v => exact h.renF1 hβ (by exact hd)
  | agg => exact h.renF1 hβ (by exact hd)
  | sl => exact h.renF1 hβ (by exact hd)
  | rp => exact h.renF1 hβ (by exact hd)
  | h => exact h.renF1 hβ (by exact hd)
  | hp => exact h.renF1 hβ (by exact hd)
  | hr => exact h.renF1 hβ (by exact hd)
  | hs => exact h.renF1 hβ (by exact hd)
  | clo => exact h.renF1 hβ (by exact hd)
end

/-- A function of the library without a text of its own: what it yields. -/
def ExtS (X : Ctx) (f : FuncId) (ds : List D) (st : St) (K : D → Prop) : Prop :=
  ∃ d, K d ∧ ∀ β a w (vs : List Value), Rel X st β a w → vs.length = ds.length → (∀ i, i < ds.length → Rep (FX X st β w) β w (vs.getD i undef) (ds.getD i .junk)) →
    ∃ v, (callFunc f vs.toArray).run X.P w = .ok (.value v) w ∧ Rep (FX X st β w) β w v d

/-- A call, from a caller's state: the contract that the walk asks for. -/
@[irreducible] def CallS (X : Ctx) (f : FuncId) (ds : List D) (st : St) (K : D → St → Prop) : Prop :=
  (FnOK X.P f ∧ ∀ β a w (vs : List Value), Rel X st β a w → vs.length = ds.length → (∀ i, i < ds.length → Rep (FX X st β w) β w (vs.getD i undef) (ds.getD i .junk)) →
    Calls X.P f vs.toArray w fun e w' => ∃ v d st' β', e = .returned v ∧ Rel X st' β' a w' ∧ Rep (FX X st' β' w') β' w' v d ∧ K d st') ∨ ExtS X f ds st (fun d => K d st)

theorem CallS.mk {X : Ctx} {f : FuncId} {ds : List D} {st : St} {K : D → St → Prop} (h0 : FnOK X.P f)
    (h : ∀ β a w (vs : List Value), Rel X st β a w → vs.length = ds.length → (∀ i, i < ds.length → Rep (FX X st β w) β w (vs.getD i undef) (ds.getD i .junk)) →
    Calls X.P f vs.toArray w fun e w' => ∃ v d st' β', e = .returned v ∧ Rel X st' β' a w' ∧ Rep (FX X st' β' w') β' w' v d ∧ K d st') : CallS X f ds st K := by
  unfold CallS; exact .inl ⟨h0, h⟩
theorem CallS.ext {X : Ctx} {f : FuncId} {ds : List D} {st : St} {K : D → St → Prop} (h : ExtS X f ds st (fun d => K d st)) : CallS X f ds st K := by
  unfold CallS; exact .inr h
theorem CallS.out {X : Ctx} {f : FuncId} {ds : List D} {st : St} {K : D → St → Prop} (h : CallS X f ds st K) : (FnOK X.P f ∧
    ∀ β a w (vs : List Value), Rel X st β a w → vs.length = ds.length → (∀ i, i < ds.length → Rep (FX X st β w) β w (vs.getD i undef) (ds.getD i .junk)) →
    Calls X.P f vs.toArray w fun e w' => ∃ v d st' β', e = .returned v ∧ Rel X st' β' a w' ∧ Rep (FX X st' β' w') β' w' v d ∧ K d st') ∨ ExtS X f ds st (fun d => K d st) := by
  unfold CallS at h; exact h
end Go.Eng
