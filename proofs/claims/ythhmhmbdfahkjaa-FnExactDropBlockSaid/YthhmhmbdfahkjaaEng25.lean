/-
  The engine, twenty-fifth part. A call in a region whose order is drawn: what the callee has made may be read.
  No conditions.
-/
import Derived.Test.YthhmhmbdfahkjaaEng24
namespace Go.Eng
open Go Go.RowKit

theorem WRel.bare {X : Ctx} {os : List Obj} {G : Nat → Option (List D)} {pin : Nat} {β : Nat → Option Value} {w : World} (h : WRel X (stOf os G pin) β w) : Rel X (stOf os G pin) β { tmps := #[], defers := [] } w :=
  h.toRel rfl rfl (fun i => by
    have e : look (stOf os G pin).env i = .junk := rfl
    rw [e]
    exact .ro _ _ (.junk _))

/-- A call with data that lead to nothing of the caller's own, in whatever order. -/
theorem callQ_plain {X : Ctx} {f : FuncId} {ds : List D} {st : St} {K : D → Prop} {post : D → List Obj → Prop} (d : D) (hc : FnC X.P f st.g 0 [] ds post) (hn : ds.all noH = true)
    (hd : ∀ d' os, post d' os → view (stOf os st.g 0) d' = d) (hk : K d) : CallQ X f ds st K := by
  refine CallQ.mk hc.1 d hk fun β a w vs hr hl hrep => ?_
  let Xc : Ctx := ⟨X.P, w, FX X st β w, fun _ => False, fun _ => none⟩
  have hF0 : ∀ b, FX X st β w b → FX Xc (stOf [] st.g 0) (fun _ => none) w b ∧ w.heap[b]? = w.heap[b]? := fun b hb => ⟨⟨hb.1, .inl hb, fun o ho => absurd ho (by simp [stOf, St.n])⟩, rfl⟩
  have hW : WRel Xc (stOf [] st.g 0) (fun _ => none) w := by
    refine ⟨fun o x hx => (by cases hx), fun o ho => absurd ho (by simp [stOf, St.n]), fun o o' x x' b hx => (by cases hx), fun o x b hx => (by cases hx), KeptL.refl _ _ _, fun g cs hg => (hr.glob g cs hg).mono hF0, fun o ho => absurd ho (by simp [stOf]), Nat.zero_le _⟩
  refine (hc.2 Xc (fun _ => none) w vs rfl rfl rfl hW hl (fun i hi => ?_)).mono ?_
  · exact .ro _ _ (((hrep i hi).noH (List.all_eq_true.1 hn _ (getD_mem hi))).mono hF0)
  · rintro e w' ⟨v, d', os, β', rfl, hw', hrd, hp, hpost⟩
    have hk0 := hr.kept.size
    have hkk : KeptL w.heap.size (fun _ => False) w w' := hw'.kept
    refine ⟨v, rfl, ⟨hkk.os, hkk.tape, hkk.output, hkk.size, fun b hb _ => hkk.block b hb (fun f => f)⟩, ?_⟩
    have hv := view_sound hw'.bare hrd
    rw [hd d' os hpost] at hv
    refine .ro _ _ (hv.mono fun b hb => ⟨⟨hb.1, ?_, fun o ho hl y hy => ?_⟩, rfl⟩)
    · rcases hb.2 with h1 | h1 | h1
      · exact h1.2.1
      · exact .inr (.inl (Nat.le_trans hk0 h1))
      · exact h1.elim
    · rcases hb.2 with h1 | h1 | h1
      · exact h1.2.2 o ho hl y hy
      · intro hbb
        have := hr.lt hy hbb
        have h1 : w.heap.size ≤ b := h1
        omega
      · exact h1.elim

/-- To look at what the evaluation has stopped at. -/
theorem isCall {X : Ctx} {f : FuncId} {ds : List D} {st : St} {K : D → St → Prop} (h : CallS X f ds st K) : CallS X f ds st K := h
theorem isCallQ {X : Ctx} {f : FuncId} {ds : List D} {st : St} {K : D → Prop} (h : CallQ X f ds st K) : CallQ X f ds st K := h
theorem isRet {X : Ctx} {G : Nat → Option (List D)} {pin : Nat} {st : St} {d : D} {post : D → List Obj → Prop} (h : RetS X G pin st d post) : RetS X G pin st d post := h
/-- Data without a way into memory. -/
def bareA : D → Bool
  | .agg cs => cs.all flat0
  | d => flat0 d
theorem Rep.bareA {F F' : Nat → Prop} {β : Nat → Option Value} {w w' : World} {v : Value} {d : D} (hd : Eng.bareA d = true) (h : Rep F β w v d) : RO F' w' v d := by
  cases d with
  | agg ds =>
    obtain ⟨cs, rfl, hl, h1, hr⟩ := h.agg_inv
    refine .agg _ _ hl h1 (fun i hi => ?_)
    have hc := List.all_eq_true.1 hd _ (getD_mem (z := .junk) hi)
    refine ((hr i hi).noH0 ?_).flat0 hc
    revert hc
    cases ds.getD i .junk <;> intro hc <;> first | rfl | cases hc
  | junk => exact (h.noH0 rfl).flat0 rfl
  | int => exact (h.noH0 rfl).flat0 rfl
  | bool => exact (h.noH0 rfl).flat0 rfl
  | str => exact (h.noH0 rfl).flat0 rfl
  | v => exact (h.noH0 rfl).flat0 rfl
  | sl s es =>
    cases es with
    | nil => exact (h.noH0 rfl).flat0 rfl
    | cons e r => cases hd
  | _ => cases hd
def bare : D → Bool
  | .tup ds => ds.all bareA
  | d => bareA d
theorem Rep.bare {F F' : Nat → Prop} {β : Nat → Option Value} {w w' : World} {v : Value} {d : D} (hd : Eng.bare d = true) (h : Rep F β w v d) : RO F' w' v d := by
  cases d with
  | tup ds =>
    obtain ⟨cs, rfl, hl, hr⟩ := h.tup_inv
    exact .tup _ _ hl (fun i hi => (hr i hi).bareA (List.all_eq_true.1 hd _ (getD_mem (z := .junk) hi)))
  | _ => exact h.bareA hd

/-- A call that is shown objects of the caller's own, in whatever order; it hands back data without a way into memory. -/
theorem callQ_view {X : Ctx} {f : FuncId} {ds : List D} {st : St} {K : D → Prop} {post : D → List Obj → Prop} (d : D) (hc : FnC X.P f st.g 0 [] (ds.map (view st)) post)
    (hd : ∀ d' os, post d' os → d' = d) (hb : bare d = true) (hk : K d) : CallQ X f ds st K := by
  refine CallQ.mk hc.1 d hk fun β a w vs hr hl hrep => ?_
  let Xc : Ctx := ⟨X.P, w, FAll X w, fun _ => False, fun _ => none⟩
  have hF0 : ∀ b, FAll X w b → FX Xc (stOf [] st.g 0) (fun _ => none) w b ∧ w.heap[b]? = w.heap[b]? := fun b hb => ⟨⟨hb.1, .inl hb, fun o ho => absurd ho (by simp [stOf, St.n])⟩, rfl⟩
  have hW : WRel Xc (stOf [] st.g 0) (fun _ => none) w := by
    refine ⟨fun o x hx => (by cases hx), fun o ho => absurd ho (by simp [stOf, St.n]), fun o o' x x' b hx => (by cases hx), fun o x b hx => (by cases hx), KeptL.refl _ _ _, fun g cs hg => (hr.glob g cs hg).mono (fun b hb => hF0 b (FX_all hb)), fun o ho => absurd ho (by simp [stOf]), Nat.zero_le _⟩
  refine (hc.2 Xc (fun _ => none) w vs rfl rfl rfl hW (by simpa using hl) (fun i hi => ?_)).mono ?_
  · have hi' : i < ds.length := by simpa using hi
    have e : (ds.map (view st)).getD i .junk = view st (ds.getD i .junk) := getD_map_junk _ rfl _ _
    rw [e]
    exact .ro _ _ ((view_sound hr (hrep i hi')).mono hF0)
  · rintro e w' ⟨v, d', os, β', rfl, hw', hrd, hp, hpost⟩
    have hkk : KeptL w.heap.size (fun _ => False) w w' := hw'.kept
    obtain rfl := hd d' os hpost
    exact ⟨v, rfl, ⟨hkk.os, hkk.tape, hkk.output, hkk.size, fun b hb _ => hkk.block b hb (fun f => f)⟩, .ro _ _ (hrd.bare hb)⟩
theorem ren0_noH {f : Nat → Nat} {d : D} (h : noH0 d = true) : ren0 f d = d := by cases d <;> first | rfl | cases h
theorem ren_noH {f : Nat → Nat} {d : D} (h : noH d = true) : ren f d = d := by
  have hm : ∀ cs : List D, cs.all noH0 = true → cs.map (ren0 f) = cs := by
    intro cs hc
    induction cs with
    | nil => rfl
    | cons c r ih =>
      simp only [List.all_cons, Bool.and_eq_true] at hc
      rw [List.map_cons, ih hc.2, ren0_noH hc.1]
  cases d with
  | agg cs => show D.agg (cs.map (ren0 f)) = _; rw [hm cs h]
  | clo g cs => show D.clo g (cs.map (ren0 f)) = _; rw [hm cs h]
  | tup cs => cases h
  | junk => rfl
  | int => rfl
  | bool => rfl
  | str => rfl
  | v => rfl
  | sl => rfl
  | rp => rfl
  | h => cases h
  | hp => cases h
  | hr => cases h
  | hs => cases h
def noHT : D → Bool
  | .tup ds => ds.all noH
  | d => noH d
theorem ren_noHT {f : Nat → Nat} {d : D} (h : noHT d = true) : ren f d = d := by
  cases d with
  | tup ds =>
    have hc : ds.all noH = true := h
    show D.tup (ds.map (ren1 f)) = .tup ds
    rw [show ds.map (ren1 f) = ds from by
      conv => rhs; rw [← List.map_id ds]
      exact List.map_congr_left fun c hm => by
        have h1 := List.all_eq_true.1 hc c hm
        have h2 := ren_noH (f := f) h1
        cases c <;> first | exact h2 | cases h1]
  | _ => exact ren_noH h
theorem join_nil (st : St) : st.join [] = st := by
  cases st
  simp [St.join]

/-- A call that makes nothing. -/
theorem call_pure {X : Ctx} {f : FuncId} {ds : List D} {st : St} {K : D → St → Prop} {d : D} (hc : FnC X.P f st.g 0 [] ds (fun d' os => d' = d ∧ os = [])) (hn : ds.all noH = true) (hd : noHT d = true)
    (hk : K d st) : CallS X f ds st K := by
  refine call_plain hc hn ?_
  rintro d' os ⟨rfl, rfl⟩
  rw [ren_noHT hd, join_nil]
  exact hk
/-- A call that makes nothing and tells something of what it hands back. -/
theorem call_some {X : Ctx} {f : FuncId} {ds : List D} {st : St} {K : D → St → Prop} {post : D → Prop} (hc : FnC X.P f st.g 0 [] ds (fun d os => post d ∧ os = [])) (hn : ds.all noH = true)
    (hk : ∀ d, post d → noHT d = true ∧ K d st) : CallS X f ds st K := by
  refine call_plain hc hn ?_
  rintro d' os ⟨h, rfl⟩
  obtain ⟨hd, hk⟩ := hk d' h
  rw [ren_noHT hd, join_nil]
  exact hk
/-- A call that is shown the caller's objects and makes nothing. -/
theorem call_look {X : Ctx} {f : FuncId} {ds : List D} {st : St} {K : D → St → Prop} {d : D} (hc : FnC X.P f st.g 0 [] (ds.map (view st)) (fun d' os => d' = d ∧ os = [])) (hd : bare d = true)
    (hk : K d st) : CallS X f ds st K := by
  refine call_view hc ?_
  have hf0 : ∀ c, flat0 c = true → noH0 c = true := by intro c h; cases c <;> first | rfl | cases h
  have hfA : ∀ d, bareA d = true → flat1 d = true ∧ noH d = true := by
    intro d hd
    cases d with
    | agg cs => exact ⟨hd, List.all_eq_true.2 fun c hc => hf0 c (List.all_eq_true.1 hd c hc)⟩
    | junk => exact ⟨rfl, rfl⟩
    | int => exact ⟨rfl, rfl⟩
    | bool => exact ⟨rfl, rfl⟩
    | str => exact ⟨rfl, rfl⟩
    | v => exact ⟨rfl, rfl⟩
    | sl s es =>
      cases es with
      | nil => exact ⟨rfl, rfl⟩
      | cons e r => cases hd
    | _ => cases hd
  have hf : flat d = true ∧ noHT d = true := by
    cases d with
    | tup ds => exact ⟨List.all_eq_true.2 fun c hc => (hfA c (List.all_eq_true.1 hd c hc)).1, List.all_eq_true.2 fun c hc => (hfA c (List.all_eq_true.1 hd c hc)).2⟩
    | junk => exact hfA (.junk) hd
    | int k n => exact hfA (.int k n) hd
    | bool b => exact hfA (.bool b) hd
    | str l => exact hfA (.str l) hd
    | v x => exact hfA (.v x) hd
    | agg cs => exact hfA (.agg cs) hd
    | sl s es => exact hfA (.sl s es) hd
    | rp cs => exact hfA (.rp cs) hd
    | h o => exact hfA (.h o) hd
    | hp o k => exact hfA (.hp o k) hd
    | hr o s i k => exact hfA (.hr o s i k) hd
    | hs o s a b => exact hfA (.hs o s a b) hd
    | clo f cs => exact hfA (.clo f cs) hd
  rintro d' os ⟨rfl, rfl⟩
  rw [ren_noHT hf.2, join_nil]
  exact ⟨hf.1, fun o ho => (by cases ho), hk⟩
/-- A call that makes one object and hands back its handle. -/
theorem call_new {P : Program} {w0 : World} {F0 lent : Nat → Prop} {β0 : Nat → Option Value} {env : List (Nat × D)} {nt : Nat} {objs : List Obj} {g : Nat → Option (List D)} {pin : Nat} {f : FuncId} {ds : List D} {K : D → St → Prop} {o : Obj} {n : Nat}
    (hc : FnC P f g 0 [] ds (fun d os => d = .h 0 ∧ os = [o])) (hn : ds.all noH = true) (hl : objs.length = n) (hk : K (.h n) ⟨env, nt, objs ++ [o], g, pin⟩) : CallS ⟨P, w0, F0, lent, β0⟩ f ds ⟨env, nt, objs, g, pin⟩ K := by
  refine call_plain (X := ⟨P, w0, F0, lent, β0⟩) hc hn ?_
  rintro d os ⟨rfl, rfl⟩
  subst hl
  exact hk
/-- The same, shown objects of the caller's own. -/
theorem call_new_look {P : Program} {w0 : World} {F0 lent : Nat → Prop} {β0 : Nat → Option Value} {env : List (Nat × D)} {nt : Nat} {objs : List Obj} {g : Nat → Option (List D)} {pin : Nat} {f : FuncId} {ds : List D} {K : D → St → Prop} {o : Obj} {n : Nat}
    (hc : FnC P f g 0 [] (ds.map (view ⟨env, nt, objs, g, pin⟩)) (fun d os => d = .h 0 ∧ os = [o])) (hf : FlatO o) (hl : objs.length = n) (hk : K (.h n) ⟨env, nt, objs ++ [o], g, pin⟩) : CallS ⟨P, w0, F0, lent, β0⟩ f ds ⟨env, nt, objs, g, pin⟩ K := by
  refine call_view (X := ⟨P, w0, F0, lent, β0⟩) hc ?_
  rintro d os ⟨rfl, rfl⟩
  subst hl
  refine ⟨rfl, fun o' ho => ?_, hk⟩
  cases ho with
  | head => exact hf
  | tail _ h => cases h
end Go.Eng
