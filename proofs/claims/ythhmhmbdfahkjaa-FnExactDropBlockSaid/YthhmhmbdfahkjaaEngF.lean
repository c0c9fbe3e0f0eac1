/-
  The engine: a row of the call's own is given up and read from then on.
  No conditions.
-/
import Derived.Test.YthhmhmbdfahkjaaEng17
namespace Go.Eng
open Go Go.RowKit

/-! ### Giving up -/
def frz0 (o s : Nat) (es : List (List D)) : D → D
  | .h p => bif Nat.beq p o then .sl s es else .h p
  | .hp p k => bif Nat.beq p o then .junk else .hp p k
  | .hr p s' i k => bif Nat.beq p o then .junk else .hr p s' i k
  | .hs p s' a b => bif Nat.beq p o then .junk else .hs p s' a b
  | .agg _ => .junk
  | .tup _ => .junk
  | .clo _ _ => .junk
  | d => d
def frz1 (o s : Nat) (es : List (List D)) : D → D
  | .agg cs => .agg (cs.map (frz0 o s es))
  | .clo f cs => .clo f (cs.map (frz0 o s es))
  | .tup _ => .junk
  | d => frz0 o s es d
def frz (o s : Nat) (es : List (List D)) : D → D
  | .tup ds => .tup (ds.map (frz1 o s es))
  | d => frz1 o s es d
def frzE (o s : Nat) (es : List (List D)) : List (Nat × D) → List (Nat × D)
  | [] => []
  | (k, d) :: r => (k, frz o s es d) :: frzE o s es r
def frzO (o s : Nat) (es : List (List D)) : Obj → Obj
  | .box cs => .box (cs.map (frz1 o s es))
  | .frame vs e => .frame vs (frzE o s es e)
  | ob => ob
theorem look_frzE (o s : Nat) (es : List (List D)) (e : List (Nat × D)) (i : Nat) : look (frzE o s es e) i = frz o s es (look e i) := by
  induction e with
  | nil => rfl
  | cons x r ih =>
    obtain ⟨k, d⟩ := x
    simp only [frzE, look]
    cases Nat.beq i k <;> simp [ih]
theorem frzO_live {o s : Nat} {es : List (List D)} {ob : Obj} : (frzO o s es ob).live ↔ ob.live := by cases ob <;> simp [frzO, Obj.live]

section
variable {F F' : Nat → Prop} {β β' : Nat → Option Value} {w : World} {o s : Nat} {es : List (List D)} {x : Value}
  (hx : β o = some x) (hF : ∀ b, F b → F' b) (hβ : ∀ p y, p ≠ o → β p = some y → β' p = some y) (hrow : RO F' w x (.sl s es))
include hx hF hβ hrow
theorem Rep.frz0 {v : Value} {d : D} (h : Rep F β w v d) : Rep F' β' w v (frz0 o s es d) := by
  cases h with
  | ro y d h =>
    cases d <;> simp only [Eng.frz0] <;> first | exact .ro _ _ (.junk _) | exact .ro _ _ (h.mono (fun b hb => ⟨hF b hb, rfl⟩)) | cases h
  | h p y h =>
    simp only [Eng.frz0]
    cases hp : Nat.beq p o with
    | true =>
      have := Nat.eq_of_beq_eq_true hp
      subst this
      rw [hx] at h
      cases h
      exact .ro _ _ hrow
    | false => exact .h _ _ (hβ _ _ (fun e => by subst e; simp at hp) h)
  | hp p off b y h hb =>
    simp only [Eng.frz0]
    cases hp : Nat.beq p o with
    | true => exact .ro _ _ (.junk _)
    | false => exact .hp _ _ _ _ (hβ _ _ (fun e => by subst e; simp at hp) h) hb
  | hr p s i off b y h hb =>
    simp only [Eng.frz0]
    cases hp : Nat.beq p o with
    | true => exact .ro _ _ (.junk _)
    | false => exact .hr _ _ _ _ _ _ (hβ _ _ (fun e => by subst e; simp at hp) h) hb
  | hs p s' a b y v h hv =>
    simp only [Eng.frz0]
    cases hp : Nat.beq p o with
    | true => exact .ro _ _ (.junk _)
    | false => exact .hs _ _ _ _ _ _ (hβ _ _ (fun e => by subst e; simp at hp) h) hv
  | agg => exact .ro _ _ (.junk _)
  | tup => exact .ro _ _ (.junk _)
  | clo => exact .ro _ _ (.junk _)
theorem Rep.frz1 {v : Value} {d : D} (h : Rep F β w v d) : Rep F' β' w v (frz1 o s es d) := by
  cases d with
  | agg ds =>
    obtain ⟨cs, rfl, hl, h1, hr⟩ := h.agg_inv
    refine .agg _ _ (by simp [hl]) h1 (fun i hi => ?_)
    rw [getD_map_junk _ rfl]
    exact (hr i (by simpa using hi)).frz0 hx hF hβ hrow
  | clo f ds =>
    obtain ⟨cs, rfl, hl, hr⟩ := h.clo_inv
    refine .clo _ _ _ (by simp [hl]) (fun i hi => ?_)
    rw [getD_map_junk _ rfl]
    exact (hr i (by simpa using hi)).frz0 hx hF hβ hrow
  | tup ds => exact .ro _ _ (.junk _)
  | _ => exact h.frz0 hx hF hβ hrow
theorem Rep.frz {v : Value} {d : D} (h : Rep F β w v d) : Rep F' β' w v (frz o s es d) := by
  cases d with
  | tup ds =>
    obtain ⟨cs, rfl, hl, hr⟩ := h.tup_inv
    refine .tup _ _ (by simp [hl]) (fun i hi => ?_)
    rw [getD_map_junk _ rfl]
    exact (hr i (by simpa using hi)).frz1 hx hF hβ hrow
  | _ => exact h.frz1 hx hF hβ hrow
theorem Own.frz {ob : Obj} {y : Value} (h : Own F β w ob y) : Own F' β' w (frzO o s es ob) y := by
  cases ob with
  | dead => trivial
  | row e s es =>
    obtain ⟨h1, h2, xs, h3, h4, h5⟩ := h
    exact ⟨h1, h2, xs, h3, h4, fun i j hi hj => (h5 i j hi hj).mono (fun b hb => ⟨hF b hb, rfl⟩)⟩
  | box cs =>
    obtain ⟨b, c, T, rfl, hg, hs, h1, hr⟩ := h
    refine ⟨b, c, T, rfl, hg, by simp [hs], h1, fun j hj => ?_⟩
    rw [getD_map_junk _ rfl]
    exact (hr j (by simpa using hj)).frz1 hx hF hβ hrow
  | frame vs e =>
    obtain ⟨rfl, hr⟩ := h
    refine ⟨rfl, fun i => ?_⟩
    rw [look_frzE]
    exact (hr i).frz hx hF hβ hrow
  | blk e s cs c =>
    obtain ⟨g, cur, rfl, hg, h2, h3, h4, h5, h6⟩ := h
    exact ⟨g, cur, rfl, hg, h2, h3, h4, h5, fun i j hi hj => ⟨(h6 i j hi hj).1, (h6 i j hi hj).2.mono (fun b hb => ⟨hF b hb, rfl⟩)⟩⟩
end

def St.frz (st : St) (o s : Nat) (es : List (List D)) : St := ⟨frzE o s es st.env, st.nt, (st.objs.map (frzO o s es)).set o .dead, st.g, st.pin⟩

theorem Rel.frz {X : Ctx} {st : St} {β : Nat → Option Value} {a : Act} {w : World} (h : Rel X st β a w) {o s : Nat} {e : TypeId} {es : List (List D)} (ho : st.obj o = .row e s es) (hp : st.pin ≤ o) :
    ∃ β', Rel X (st.frz o s es) β' a w := by
  have hlive : (st.obj o).live := by rw [ho]; trivial
  by_cases hon : o < st.n
  case neg =>
    exfalso
    have : st.obj o = .dead := by
      simp only [St.obj, List.getD_eq_getElem?_getD, List.getElem?_eq_none (show st.objs.length ≤ o by have : ¬ o < st.objs.length := hon; omega)]
      rfl
    rw [this] at hlive
    exact hlive
  obtain ⟨x, hx, hown⟩ := h.own o hon hlive
  rw [ho] at hown
  let st' := st.frz o s es
  let β' : Nat → Option Value := fun p => if p = o then none else β p
  have hn : st'.n = st.n := by simp [st', St.frz, St.n]
  have hso : st'.obj o = .dead := by
    have : o < (st.objs.map (frzO o s es)).length := by rw [List.length_map]; exact hon
    simp only [st', St.frz, St.obj, List.getD_eq_getElem?_getD]
    rw [List.getElem?_set_self this]
    rfl
  have hsn : ∀ p, p ≠ o → st'.obj p = frzO o s es (st.obj p) := by
    intro p hpo
    simp only [st', St.frz, St.obj, List.getD_eq_getElem?_getD]
    rw [List.getElem?_set_ne (Ne.symm hpo), List.getElem?_map]
    cases st.objs[p]? <;> simp [frzO]
  have hsub : ∀ p y, β' p = some y → p ≠ o ∧ β p = some y := by
    intro p y hy
    by_cases e : p = o
    · simp only [β', if_pos e] at hy; cases hy
    · simp only [β', if_neg e] at hy; exact ⟨e, hy⟩
  have hβ : ∀ p y, p ≠ o → β p = some y → β' p = some y := by
    intro p y e hy
    simp only [β', if_neg e]
    exact hy
  have hF : ∀ b, FX X st β w b → FX X st' β' w b := by
    intro b hb
    refine ⟨hb.1, hb.2.1, fun p _ _ y hy => ?_⟩
    have h2 := (hsub p y hy).2
    exact hb.2.2 p (h.dom p y h2).1 (h.dom p y h2).2 y h2
  have hxF : ∀ b, blk x = some b → FX X st' β' w b := by
    intro b hb
    refine ⟨h.lt' hx hb, ?_, fun p _ _ y hy hyb => ?_⟩
    · rcases h.low o x b hx hb with h1 | h1
      · exact .inr (.inl h1)
      · exact .inr (.inr h1)
    · obtain ⟨e, h2⟩ := hsub p y hy
      exact e (h.sep p o y x b h2 hx hyb hb)
  have hrow := row_ro (F' := FX X st' β' w) hown hF hxF
  refine ⟨β', h.defers, h.size, fun i => ?_, fun p y hy => ?_, fun p hpn hpl => ?_, fun p p' y y' b hy hy' hb hb' => h.sep p p' y y' b (hsub p y hy).2 (hsub p' y' hy').2 hb hb', fun p y b hy hb => h.low p y b (hsub p y hy).2 hb, h.kept,
    fun g cs hg => (h.glob g cs hg).mono (fun b hb => ⟨hF b hb, rfl⟩), fun p hpp => ?_, by rw [hn]; exact h.pinned⟩
  · show Rep _ β' w _ (look (frzE o s es st.env) i)
    rw [look_frzE]
    exact (h.tmps i).frz hx hF hβ hrow
  · obtain ⟨e, h2⟩ := hsub p y hy
    show p < st'.n ∧ (st'.obj p).live
    rw [hn, hsn p e, frzO_live]
    exact h.dom p y h2
  · by_cases e : p = o
    · subst e
      have : (st'.obj p).live := hpl
      rw [hso] at this
      exact this.elim
    · have hpl' : (st'.obj p).live := hpl
      rw [hsn p e, frzO_live] at hpl'
      obtain ⟨y, hy, hw⟩ := h.own p (hn ▸ hpn) hpl'
      refine ⟨y, hβ p y e hy, ?_⟩
      show Own (FX X st' β' w) β' w (st'.obj p) y
      rw [hsn p e]
      exact hw.frz hx hF hβ hrow
  · have hpp' : p < st.pin := hpp
    have e : p ≠ o := by omega
    simp only [β', if_neg e]
    exact h.stay p hpp'

/-! ### Strictly -/
def frzEK (o s : Nat) (es : List (List D)) : List (Nat × D) → (List (Nat × D) → Prop) → Prop
  | [], K => K []
  | (k, d) :: r, K => force (Eng.frz o s es d) fun d' => frzEK o s es r fun l => K ((k, d') :: l)
theorem frzEK_out {o s : Nat} {es : List (List D)} : ∀ {e : List (Nat × D)} {K : List (Nat × D) → Prop}, frzEK o s es e K → K (frzE o s es e)
  | [], _, h => h
  | (k, d) :: r, K, h => frzEK_out (e := r) (K := fun l => K ((k, Eng.frz o s es d) :: l)) (force_out h)
def frzOK (o s : Nat) (es : List (List D)) : List Obj → (List Obj → Prop) → Prop
  | [], K => K []
  | ob :: r, K => forceO (frzO o s es ob) fun ob' => frzOK o s es r fun l => K (ob' :: l)
theorem frzOK_out {o s : Nat} {es : List (List D)} : ∀ {e : List Obj} {K : List Obj → Prop}, frzOK o s es e K → K (e.map (frzO o s es))
  | [], _, h => h
  | ob :: r, K, h => frzOK_out (e := r) (K := fun l => K (frzO o s es ob :: l)) (forceO_out h)
def frzK (st : St) (o : Nat) (K : St → Prop) : Prop :=
  match st with
  | ⟨env, nt, objs, g, pin⟩ => match objs.getD o .dead with
    | .row _ s es => bif Nat.ble pin o then frzEK o s es env fun e => frzOK o s es objs fun l => setOK l o .dead fun l => K ⟨e, nt, l, g, pin⟩ else False
    | _ => K ⟨env, nt, objs, g, pin⟩
theorem frzK_sound {X : Ctx} {st : St} {β : Nat → Option Value} {a : Act} {w : World} {o : Nat} {K : St → Prop} (h : frzK st o K) (hr : Rel X st β a w) : ∃ st' β', K st' ∧ Rel X st' β' a w := by
  obtain ⟨env, nt, objs, g, pin⟩ := st
  unfold frzK at h
  simp only at h
  split at h
  · rename_i e s es ho
    cases hb : Nat.ble pin o with
    | false => rw [hb] at h; exact h.elim
    | true =>
      rw [hb] at h
      have := setOK_out (frzOK_out (frzEK_out h))
      obtain ⟨β', hr'⟩ := hr.frz (o := o) ho (by simpa using hb)
      exact ⟨_, β', this, hr'⟩
  · exact ⟨_, β, h, hr⟩
/-- The rows that a value leads to. -/
def frzCells : List D → St → (St → Prop) → Prop
  | [], st, K => K st
  | .h p :: r, st, K => frzK st p fun st => frzCells r st K
  | _ :: r, st, K => frzCells r st K
theorem frzCells_sound {X : Ctx} {a : Act} {w : World} {K : St → Prop} {l : List D} : ∀ {st : St} {β : Nat → Option Value}, frzCells l st K → Rel X st β a w → ∃ st' β', K st' ∧ Rel X st' β' a w := by
  induction l with
  | nil => exact fun {st β} h hr => ⟨st, β, h, hr⟩
  | cons d r ih =>
    intro st β h hr
    have step : ∀ p, frzK st p (fun st => frzCells r st K) → ∃ st' β', K st' ∧ Rel X st' β' a w := by
      intro p hp
      obtain ⟨st1, β1, h1, hr1⟩ := frzK_sound hp hr
      exact ih h1 hr1
    cases d <;> first | exact step _ h | exact ih h hr
def frzPart : D → St → (St → Prop) → Prop
  | .agg cs, st, K => frzCells cs st K
  | .h p, st, K => frzK st p K
  | _, st, K => K st
theorem frzPart_sound {X : Ctx} {a : Act} {w : World} {K : St → Prop} {d : D} {st : St} {β : Nat → Option Value} (h : frzPart d st K) (hr : Rel X st β a w) : ∃ st' β', K st' ∧ Rel X st' β' a w := by
  cases d <;> first | exact frzCells_sound h hr | exact frzK_sound h hr | exact ⟨st, β, h, hr⟩
def frzParts : List D → St → (St → Prop) → Prop
  | [], st, K => K st
  | d :: r, st, K => frzPart d st fun st => frzParts r st K
theorem frzParts_sound {X : Ctx} {a : Act} {w : World} {K : St → Prop} : ∀ {l : List D} {st : St} {β : Nat → Option Value}, frzParts l st K → Rel X st β a w → ∃ st' β', K st' ∧ Rel X st' β' a w
  | [], st, β, h, hr => ⟨st, β, h, hr⟩
  | d :: r, st, β, h, hr => by
    obtain ⟨st1, β1, h1, hr1⟩ := frzPart_sound h hr
    exact frzParts_sound h1 hr1
end Go.Eng
