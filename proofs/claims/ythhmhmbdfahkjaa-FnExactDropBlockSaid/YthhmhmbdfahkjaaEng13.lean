/-
  The engine, thirteenth part. The rules of a call: with data that lead to nothing of the caller's own; with the caller's own objects shown to the callee to read.
  No conditions.
-/
import Derived.Test.YthhmhmbdfahkjaaEng12
namespace Go.Eng
open Go Go.RowKit

def noH0 : D → Bool
  | .h _ | .hp _ _ | .hr _ _ _ _ | .hs _ _ _ _ | .agg _ | .tup _ | .clo _ _ => false
  | _ => true
def noH : D → Bool
  | .agg cs => cs.all noH0
  | .clo _ cs => cs.all noH0
  | d => noH0 d

theorem Rep.noH0 {F : Nat → Prop} {β : Nat → Option Value} {w : World} {v : Value} {d : D} (hd : Eng.noH0 d = true) (h : Rep F β w v d) : RO F w v d := by
  cases h <;> first | assumption | cases hd
theorem Rep.noH {F : Nat → Prop} {β : Nat → Option Value} {w : World} {v : Value} {d : D} (hd : Eng.noH d = true) (h : Rep F β w v d) : RO F w v d := by
  cases d with
  | agg ds =>
    obtain ⟨cs, rfl, hl, h1, hr⟩ := h.agg_inv
    exact .agg _ _ hl h1 (fun i hi => (hr i hi).noH0 (List.all_eq_true.1 hd _ (getD_mem hi)))
  | clo g ds =>
    obtain ⟨cs, rfl, hl, hr⟩ := h.clo_inv
    exact .clo _ _ _ hl (fun i hi => (hr i hi).noH0 (List.all_eq_true.1 hd _ (getD_mem hi)))
  | tup => cases hd
  | h => cases hd
  | hp => cases hd
  | hr => cases hd
  | hs => cases hd
  | junk => exact .junk _
  | int => exact h.noH0 rfl
  | bool => exact h.noH0 rfl
  | str => exact h.noH0 rfl
  | v => exact h.noH0 rfl
  | sl => exact h.noH0 rfl
  | rp => exact h.noH0 rfl

def St.join (st : St) (os : List Obj) : St := { st with objs := st.objs ++ os }

theorem join_n (st : St) (os : List Obj) : (st.join os).n = st.n + os.length := by simp [St.join, St.n]
theorem join_old (st : St) (os : List Obj) {o : Nat} (h : o < st.n) : (st.join os).obj o = st.obj o := by
  have h' : o < st.objs.length := h
  simp [St.join, St.obj, List.getD_eq_getElem?_getD, List.getElem?_append_left h']
theorem join_new (st : St) (os : List Obj) {o : Nat} (h : st.n ≤ o) : (st.join os).obj o = os.getD (o - st.n) .dead := by
  have h' : st.objs.length ≤ o := h
  simp [St.join, St.obj, St.n, List.getD_eq_getElem?_getD, List.getElem?_append_right h']

def joinβ (n : Nat) (β β' : Nat → Option Value) : Nat → Option Value := fun o => if o < n then β o else β' (o - n)

theorem Rel.lt {X : Ctx} {st : St} {β : Nat → Option Value} {a : Act} {w : World} (h : Rel X st β a w) {o : Nat} {x : Value} (hx : β o = some x) {b : Nat} (hb : blk x = some b) : b < w.heap.size := by
  obtain ⟨h1, h2⟩ := h.dom o x hx
  obtain ⟨y, hy, hw⟩ := h.own o h1 h2
  rw [hx] at hy
  cases hy
  exact Own.lt h2 hw b hb

/-- Behind a call that was lent nothing: what it has made is the caller's own. -/
theorem Rel.join0 {X Xc : Ctx} {st : St} {β : Nat → Option Value} {a : Act} {w w' : World} (h : Rel X st β a w) {G : Nat → Option (List D)} {os : List Obj} {β' : Nat → Option Value}
    (hw0 : Xc.w0 = w) (hlent : ∀ b, ¬ Xc.lent b) (hc : WRel Xc (stOf os G 0) β' w') (hp : ∀ o ∈ os, o.plain)
    (hF : (∀ b, FX Xc (stOf os G 0) β' w' b → FX X (st.join os) (joinβ st.n β β') w' b) ∨ ∀ o ∈ os, FlatO o) :
    Rel X (st.join os) (joinβ st.n β β') a w' ∧ ∀ b, FX X st β w b → FX X (st.join os) (joinβ st.n β β') w' b ∧ w'.heap[b]? = w.heap[b]? := by
  subst hw0
  have hk := hc.kept
  have hsame : ∀ b, b < Xc.w0.heap.size → w'.heap[b]? = Xc.w0.heap[b]? := fun b hb => hk.block b hb (hlent b)
  have hnew : ∀ o x b, β' o = some x → blk x = some b → Xc.w0.heap.size ≤ b := fun o x b hx hb => (hc.low o x b hx hb).resolve_right (hlent b)
  have hFX : ∀ b, FX X st β Xc.w0 b → FX X (st.join os) (joinβ st.n β β') w' b ∧ w'.heap[b]? = Xc.w0.heap[b]? := by
    intro b hb
    refine ⟨⟨Nat.lt_of_lt_of_le hb.1 hk.size, hb.2.1, fun o ho hl y hy => ?_⟩, hsame b hb.1⟩
    unfold joinβ at hy
    split at hy
    · rename_i hlt
      exact hb.2.2 o hlt (h.dom o y hy).2 y hy
    · intro hbb
      have := hnew _ _ _ hy hbb
      have := hb.1
      omega
  have hold : ∀ o y, β o = some y → joinβ st.n β β' o = some y := by
    intro o y hy
    unfold joinβ
    rw [if_pos (h.dom o y hy).1]
    exact hy
  refine ⟨⟨h.defers, h.size, fun i => (h.tmps i).mono hFX hold, ?_, ?_, ?_, ?_, h.kept.trans ⟨hk.os, hk.tape, hk.output, hk.size, fun k hkk _ => hsame k (Nat.lt_of_lt_of_le hkk h.kept.size)⟩, fun g cs hg => (h.glob g cs hg).mono hFX, ?_, ?_⟩, hFX⟩
  · intro o x hx
    unfold joinβ at hx
    split at hx
    · rename_i hlt
      rw [join_old _ _ hlt]
      exact ⟨by rw [join_n]; omega, (h.dom o x hx).2⟩
    · rename_i hge
      have := hc.dom _ _ hx
      rw [join_new _ _ (by omega)]
      exact ⟨by have : o - st.n < os.length := this.1; rw [join_n]; omega, this.2⟩
  · intro o ho hl
    by_cases hlt : o < st.n
    · rw [join_old _ _ hlt] at hl ⊢
      obtain ⟨x, hx, hw⟩ := h.own o hlt hl
      exact ⟨x, hold o x hx, hw.mono hFX hold (fun b hb => hsame b (Own.lt hl hw b hb))⟩
    · rw [join_new _ _ (by omega)] at hl ⊢
      have hin : o - st.n < os.length := by rw [join_n] at ho; omega
      obtain ⟨x, hx, hw⟩ := hc.own (o - st.n) hin hl
      refine ⟨x, by unfold joinβ; rw [if_neg hlt]; exact hx, ?_⟩
      have hmem : os.getD (o - st.n) .dead ∈ os := getD_mem hin
      rcases hF with hF | hF
      · exact Own.plain_mono (fun b hb => ⟨hF b hb, rfl⟩) (hp _ hmem) (fun _ _ => rfl) hw
      · exact Own.flat_any (hF _ hmem) hw
  · intro o o' x x' b hx hx' hb hb'
    unfold joinβ at hx hx'
    split at hx <;> split at hx'
    · exact h.sep o o' x x' b hx hx' hb hb'
    · have := h.lt hx hb
      have := hnew _ _ _ hx' hb'
      omega
    · have := h.lt hx' hb'
      have := hnew _ _ _ hx hb
      omega
    · have := hc.sep _ _ x x' b hx hx' hb hb'
      omega
  · intro o x b hx hb
    unfold joinβ at hx
    split at hx
    · exact h.low o x b hx hb
    · exact .inl (Nat.le_trans h.kept.size (hnew _ _ _ hx hb))
  · intro o ho
    have hp : st.pin ≤ st.n := h.pinned
    have ho' : o < st.pin := ho
    unfold joinβ
    rw [if_pos (by omega)]
    exact h.stay o ho'
  · rw [join_n]
    have hp : st.pin ≤ st.n := h.pinned
    show st.pin ≤ _
    omega

theorem ren_join {X : Ctx} {st : St} {β β' : Nat → Option Value} : ∀ o x, β' o = some x → joinβ st.n β β' (st.n + o) = some x := by
  intro o x hx
  unfold joinβ
  rw [if_neg (by omega)]
  simpa using hx

/-- A call with data that lead to nothing of the caller's own. -/
theorem call_plain {X : Ctx} {f : FuncId} {ds : List D} {st : St} {K : D → St → Prop} {post : D → List Obj → Prop} (hc : FnC X.P f st.g 0 [] ds post) (hn : ds.all noH = true)
    (hk : ∀ d os, post d os → K (ren (st.n + ·) d) (st.join os)) : CallS X f ds st K := by
  refine CallS.mk hc.1 fun β a w vs hr hl hrep => ?_
  let Xc : Ctx := ⟨X.P, w, FX X st β w, fun _ => False, fun _ => none⟩
  have hF0 : ∀ b, FX X st β w b → FX Xc (stOf [] st.g 0) (fun _ => none) w b ∧ w.heap[b]? = w.heap[b]? := fun b hb => ⟨⟨hb.1, .inl hb, fun o ho => absurd ho (by simp [stOf, St.n])⟩, rfl⟩
  have hW : WRel Xc (stOf [] st.g 0) (fun _ => none) w := by
    refine ⟨fun o x hx => (by cases hx), fun o ho => absurd ho (by simp [stOf, St.n]), fun o o' x x' b hx => (by cases hx), fun o x b hx => (by cases hx), KeptL.refl _ _ _, fun g cs hg => (hr.glob g cs hg).mono hF0, fun o ho => absurd ho (by simp [stOf]), Nat.zero_le _⟩
  refine (hc.2 Xc (fun _ => none) w vs rfl rfl rfl hW hl (fun i hi => ?_)).mono ?_
  · exact .ro _ _ (((hrep i hi).noH (List.all_eq_true.1 hn _ (getD_mem hi))).mono hF0)
  · rintro e w' ⟨v, d, os, β', rfl, hw', hrd, hp, hpost⟩
    have hFn : ∀ b, FX Xc (stOf os st.g 0) β' w' b → FX X (st.join os) (joinβ st.n β β') w' b := by
      intro b hb
      have hk0 := hr.kept.size
      refine ⟨hb.1, ?_, fun o ho hl y hy => ?_⟩
      · rcases hb.2.1 with h1 | h1 | h1
        · exact h1.2.1
        · exact .inr (.inl (Nat.le_trans hk0 h1))
        · exact h1.elim
      · unfold joinβ at hy
        split at hy
        · rename_i hlt
          rcases hb.2.1 with h1 | h1 | h1
          · exact h1.2.2 o hlt (hr.dom o y hy).2 y hy
          · intro hbb
            have := hr.lt hy hbb
            have h1 : w.heap.size ≤ b := h1
            omega
          · exact h1.elim
        · exact hb.2.2 _ (hw'.dom _ _ hy).1 (hw'.dom _ _ hy).2 y hy
    obtain ⟨hj, _⟩ := hr.join0 (Xc := Xc) rfl (fun _ hf => hf) hw' hp (.inl hFn)
    refine ⟨v, _, _, _, rfl, hj, ?_, hk d os hpost⟩
    exact hrd.ren' (f := (st.n + ·)) (ren_join (X := X)) (fun v d h => h.mono (fun b hb => ⟨hFn b hb, rfl⟩))

/-! ### Showing objects -/
def viewC (st : St) : D → D
  | .h o => match st.obj o with
    | .row _ s es => .sl s es
    | _ => .junk
  | .hp _ _ => .junk
  | .hr _ _ _ _ => .junk
  | .hs o s' a b => match st.obj o with
    | .row _ s es => bif Nat.beq s s' && Nat.ble b es.length then .sl s ((es.drop a).take (b - a)) else .junk
    | _ => .junk
  | .agg _ => .junk
  | .tup _ => .junk
  | .clo _ _ => .junk
  | d => d
def view1 (st : St) : D → D
  | .hp o k => match st.obj o with
    | .box cs => .rp ((cs.drop k).map (viewC st))
    | _ => .junk
  | .hr o s i k => match st.obj o with
    | .row _ s' es => bif Nat.beq s s' && Nat.blt i es.length then .rp ((es.getD i []).drop k) else .junk
    | _ => .junk
  | d => viewC st d
def viewA (st : St) : D → D
  | .agg cs => .agg (cs.map (view1 st))
  | .clo f cs => .clo f (cs.map (view1 st))
  | d => view1 st d
def view (st : St) : D → D
  | .tup ds => .tup (ds.map (viewA st))
  | d => viewA st d

/-- All that the call may read: its own objects too. -/
def FAll (X : Ctx) (w : World) (b : Nat) : Prop := b < w.heap.size ∧ (X.F0 b ∨ X.w0.heap.size ≤ b ∨ X.lent b)

theorem FX_all {X : Ctx} {st : St} {β : Nat → Option Value} {w : World} {b : Nat} (h : FX X st β w b) : FAll X w b := ⟨h.1, h.2.1⟩

section
variable {X : Ctx} {st : St} {β : Nat → Option Value} {a : Act} {w : World} (hr : Rel X st β a w)
include hr

theorem own_all {o : Nat} {x : Value} (hx : β o = some x) {b : Nat} (hb : blk x = some b) : FAll X w b :=
  ⟨hr.lt hx hb, .inr (hr.low o x b hx hb)⟩

theorem viewC_sound {v : Value} {d : D} (h : Rep (FX X st β w) β w v d) : RO (FAll X w) w v (viewC st d) := by
  have hF : ∀ b, FX X st β w b → FAll X w b ∧ w.heap[b]? = w.heap[b]? := fun b hb => ⟨FX_all hb, rfl⟩
  cases h with
  | ro x d h => cases d <;> simp only [Eng.viewC] <;> first | exact .junk _ | exact h.mono hF | cases h
  | h o x hx =>
    simp only [Eng.viewC]
    split
    · rename_i e s es ho
      have hrow := hr.row ho hx
      obtain ⟨hm, hs, xs, how, h1, hro⟩ := hrow
      rcases how.2 with ⟨rfl, hn⟩ | ⟨g, cap, cur, rfl, _, hg, hnc, hcm, hcs, htk⟩
      · rw [List.eq_nil_of_length_eq_zero hn]
        exact .slnil _ _ _
      · refine .sl s es g 0 _ cap (fun i j => xs.getD (i * s + j) undef) rfl (own_all hr hx rfl) hnc hcm hs (fun i j hi hj => ?_) (fun i j hi hj => (hro i j hi hj).mono hF)
        have hxl : xs.length = es.length * s := how.1
        have hle : (i + 1) * s ≤ es.length * s := Nat.mul_le_mul_right s hi
        rw [Nat.add_mul] at hle
        have hlt : i * s + j < xs.length := by omega
        have hx : xs.getD (i * s + j) undef = xs[i * s + j] := by simp [List.getD_eq_getElem?_getD, hlt]
        have := how.cells (g := g) rfl (i * s + j) xs[i * s + j] (by simp [hlt])
        rw [add_lit, Nat.zero_add] at this
        rw [hx, Nat.zero_add]
        exact ⟨this, h1 _ (List.getElem_mem _)⟩
    · exact .junk _
  | hp => exact .junk _
  | hr => exact .junk _
  | hs o s' a b x v hx hsub =>
    simp only [Eng.viewC]
    split
    · rename_i e s es ho
      cases hbb : (Nat.beq s s' && Nat.ble b es.length) with
      | false => exact .junk _
      | true =>
        obtain ⟨k1, k2⟩ := and_true' hbb
        have := Nat.eq_of_beq_eq_true k1
        subst this
        exact sub_ro (hr.row ho hx) (fun b hb => FX_all hb) (fun b hb => own_all hr hx hb) hsub (by simpa using k2)
    · exact .junk _
  | agg => exact .junk _
  | tup => exact .junk _
  | clo => exact .junk _

theorem view1_sound {v : Value} {d : D} (h : Rep (FX X st β w) β w v d) : RO (FAll X w) w v (view1 st d) := by
  have hF : ∀ b, FX X st β w b → FAll X w b ∧ w.heap[b]? = w.heap[b]? := fun b hb => ⟨FX_all hb, rfl⟩
  cases d with
  | hp o k =>
    obtain ⟨b, x, hx, hb, rfl⟩ := h.hp_inv
    simp only [view1]
    split
    · rename_i cs ho
      obtain ⟨b', rfl, hc⟩ := cellsAt_box (hr.box ho hx)
      simp [blk] at hb
      subst hb
      obtain ⟨c, hc⟩ := hc.drop k
      rw [Nat.zero_add] at hc
      refine .rp _ _ k c (own_all hr hx rfl) (fun j hj => (hc j (by simpa using hj)).1) (fun j hj => ?_)
      rw [getD_map_junk _ rfl]
      exact viewC_sound hr (hc j (by simpa using hj)).2
    · exact .junk _
  | hr o s i k =>
    obtain ⟨b, x, hx, hb, rfl⟩ := h.hr_inv
    simp only [view1]
    split
    · rename_i e s' es ho
      cases hbb : (Nat.beq s s' && Nat.blt i es.length) with
      | false => exact .junk _
      | true =>
        obtain ⟨h1, h2⟩ := and_true' hbb
        have h1 := Nat.eq_of_beq_eq_true h1
        subst h1
        have h2 : i < es.length := by simpa [Nat.blt_eq] using h2
        obtain ⟨b', l, cp, rfl, hc⟩ := cellsAt_row (β := β) (hr.row ho hx) h2
        simp [blk] at hb
        subst hb
        obtain ⟨c, hc⟩ := hc.drop k
        refine .rp _ _ _ c (own_all hr hx rfl) (fun j hj => (hc j hj).1) (fun j hj => ?_)
        have hrow := hr.row ho hx
        obtain ⟨_, hs, xs, how, _, hro⟩ := hrow
        have hl := hs i h2
        have hj' : k + j < s := by
          have : j < ((es.getD i []).drop k).length := hj
          rw [List.length_drop, hl] at this
          omega
        have e1 : ((es.getD i []).drop k).getD j .junk = (es.getD i []).getD (k + j) .junk := by simp [List.getD_eq_getElem?_getD]
        have hcell := (hc j hj).1.1
        have hxl : xs.length = es.length * s := how.1
        have hle : (i + 1) * s ≤ es.length * s := Nat.mul_le_mul_right s h2
        rw [Nat.add_mul] at hle
        have hlt : i * s + (k + j) < xs.length := by omega
        have hcell2 := how.cells (g := b') rfl (i * s + (k + j)) xs[i * s + (k + j)] (by simp [hlt])
        rw [add_lit, Nat.zero_add] at hcell2
        have e2 : i * s + k + j = i * s + (k + j) := by omega
        rw [e2, hcell2] at hcell
        have e3 : c j = xs.getD (i * s + (k + j)) undef := by
          have := Option.some.inj hcell
          rw [← this]
          simp [List.getD_eq_getElem?_getD, hlt]
        rw [e1, e3]
        exact (hro i (k + j) h2 hj').mono hF
    · exact .junk _
  | _ => exact viewC_sound hr h

theorem viewA_sound {v : Value} {d : D} (h : Rep (FX X st β w) β w v d) : RO (FAll X w) w v (viewA st d) := by
  cases d with
  | agg ds =>
    obtain ⟨cs, rfl, hl, h1, hrr⟩ := h.agg_inv
    refine .agg _ _ (by simp [hl]) h1 (fun i hi => ?_)
    rw [getD_map_junk _ rfl]
    exact view1_sound hr (hrr i (by simpa using hi))
  | clo f ds =>
    obtain ⟨cs, rfl, hl, hrr⟩ := h.clo_inv
    refine .clo _ _ _ (by simp [hl]) (fun i hi => ?_)
    rw [getD_map_junk _ rfl]
    exact view1_sound hr (hrr i (by simpa using hi))
  | _ => exact view1_sound hr h
theorem view_sound {v : Value} {d : D} (h : Rep (FX X st β w) β w v d) : RO (FAll X w) w v (view st d) := by
  cases d with
  | tup ds =>
    obtain ⟨cs, rfl, hl, hrr⟩ := h.tup_inv
    refine .tup _ _ (by simp [hl]) (fun i hi => ?_)
    rw [getD_map_junk _ rfl]
    exact viewA_sound hr (hrr i (by simpa using hi))
  | _ => exact viewA_sound hr h
end

/-- A call that is shown objects of the caller's own; what it hands back leads nowhere but to what it has made. -/
theorem call_view {X : Ctx} {f : FuncId} {ds : List D} {st : St} {K : D → St → Prop} {post : D → List Obj → Prop} (hc : FnC X.P f st.g 0 [] (ds.map (view st)) post)
    (hk : ∀ d os, post d os → flat d = true ∧ (∀ o ∈ os, FlatO o) ∧ K (ren (st.n + ·) d) (st.join os)) : CallS X f ds st K := by
  refine CallS.mk hc.1 fun β a w vs hr hl hrep => ?_
  let Xc : Ctx := ⟨X.P, w, FAll X w, fun _ => False, fun _ => none⟩
  have hF0 : ∀ b, FAll X w b → FX Xc (stOf [] st.g 0) (fun _ => none) w b ∧ w.heap[b]? = w.heap[b]? := fun b hb => ⟨⟨hb.1, .inl hb, fun o ho => absurd ho (by simp [stOf, St.n])⟩, rfl⟩
  have hW : WRel Xc (stOf [] st.g 0) (fun _ => none) w := by
    refine ⟨fun o x hx => (by cases hx), fun o ho => absurd ho (by simp [stOf, St.n]), fun o o' x x' b hx => (by cases hx), fun o x b hx => (by cases hx), KeptL.refl _ _ _, fun g cs hg => (hr.glob g cs hg).mono (fun b hb => hF0 b (FX_all hb)), fun o ho => absurd ho (by simp [stOf]), Nat.zero_le _⟩
  refine (hc.2 Xc (fun _ => none) w vs rfl rfl rfl hW (by simpa using hl) (fun i hi => ?_)).mono ?_
  · have hi' : i < ds.length := by simpa using hi
    have e : (ds.map (view st)).getD i .junk = view st (ds.getD i .junk) := getD_map_junk _ rfl _ _
    rw [e]
    exact .ro _ _ ((view_sound hr (hrep i hi')).mono hF0)
  · rintro e w' ⟨v, d, os, β', rfl, hw', hrd, hp, hpost⟩
    obtain ⟨hf, hfo, hkk⟩ := hk d os hpost
    obtain ⟨hj, _⟩ := hr.join0 (Xc := Xc) rfl (fun _ hf => hf) hw' hp (.inr hfo)
    exact ⟨v, _, _, _, rfl, hj, hrd.renF (f := (st.n + ·)) (ren_join (X := X)) hf, hkk⟩
end Go.Eng
