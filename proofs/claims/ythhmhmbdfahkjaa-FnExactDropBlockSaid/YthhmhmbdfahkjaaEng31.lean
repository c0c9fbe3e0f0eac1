/-
  The engine, thirty-first part. A call whose callee is walked in its place; states renumbered; an empty slice taken for a row of the call's own.
  No conditions.
-/
import Derived.Test.YthhmhmbdfahkjaaEng30
namespace Go.Eng
open Go Go.RowKit

/-! ### A callee in its place -/
@[irreducible] def SameV (vs vs' : List Value) (K : Prop) : Prop := vs = vs' ∧ K
theorem SameV.mk {vs : List Value} {K : Prop} (h : K) : SameV vs vs K := by unfold SameV; exact ⟨rfl, h⟩
theorem SameV.out {vs vs' : List Value} {K : Prop} (h : SameV vs vs' K) : vs = vs' ∧ K := by unfold SameV at h; exact h
/-- What stands behind the callee's return: the caller's temporaries are back. -/
def InlK (vs : List Value) (n nt : Nat) (d : D) (K : D → St → Prop) (st : St) : Prop :=
  match st with
  | ⟨_, _, objs, g, pin⟩ => match objs.getD n .dead with
    | .frame vs' e => SameV vs vs' (setOK objs n (.frame [] []) fun l => K d ⟨e, nt, l, g, pin⟩)
    | _ => False
def InlQ (P : Program) (vs : List Value) (n nt : Nat) (rs : List ResultVar) (K : D → St → Prop) : DExit → St → Prop
  | .normal, st => resD P st rs fun d => trimK d st fun d st => InlK vs n nt d K st
  | .ret, st => resD P st rs fun d => trimK d st fun d st => InlK vs n nt d K st
  | .exit _, _ => False

theorem Rel.pushFrame {X : Ctx} {st : St} {β : Nat → Option Value} {a : Act} {w : World} (h : Rel X st β a w) :
    WRel X ⟨[], 0, st.objs ++ [.frame a.tmps.toList st.env], st.g, st.pin⟩ (OneDef β st.n (.bool true)) w := by
  let st' : St := ⟨[], 0, st.objs ++ [.frame a.tmps.toList st.env], st.g, st.pin⟩
  have hn : st'.n = st.n + 1 := push_n st _
  have hsame : st'.obj st.n = .frame a.tmps.toList st.env := push_same st _
  have hne : ∀ o, o ≠ st.n → st'.obj o = st.obj o := fun o ho => push_ne st _ ho
  have hβn : ∀ o x, β o = some x → o ≠ st.n := fun o x hx => by have := (h.dom o x hx).1; omega
  have hβ : ∀ o x, β o = some x → OneDef β st.n (.bool true) o = some x := fun o x hx => by simp [OneDef, hβn o x hx, hx]
  have hinv : ∀ o x b, OneDef β st.n (.bool true) o = some x → blk x = some b → β o = some x := by
    intro o x b hx hb
    unfold OneDef at hx
    split at hx
    · cases hx; simp [blk] at hb
    · exact hx
  have hF : ∀ b, FX X st β w b → FX X st' (OneDef β st.n (.bool true)) w b := by
    intro b hb
    refine ⟨hb.1, hb.2.1, fun o ho hl x hx hxb => ?_⟩
    have := hinv o x b hx hxb
    exact hb.2.2 o (h.dom o x this).1 (h.dom o x this).2 x this hxb
  refine ⟨fun o x hx => ?_, fun o ho hl => ?_, fun o o' x x' b hx hx' hb hb' => h.sep o o' x x' b (hinv o x b hx hb) (hinv o' x' b hx' hb') hb hb', fun o x b hx hb => h.low o x b (hinv o x b hx hb) hb, h.kept,
    fun g cs hg => (h.glob g cs hg).mono (fun b hb => ⟨hF b hb, rfl⟩), fun o ho => ?_, ?_⟩
  · unfold OneDef at hx
    split at hx
    · rename_i e
      subst e
      show st.n < st'.n ∧ (st'.obj st.n).live
      rw [hn, hsame]
      exact ⟨Nat.lt_succ_self _, trivial⟩
    · rename_i e
      show o < st'.n ∧ (st'.obj o).live
      rw [hn, hne o e]
      have := h.dom o x hx
      exact ⟨by omega, this.2⟩
  · by_cases e : o = st.n
    · subst e
      refine ⟨.bool true, by simp [OneDef], ?_⟩
      show Own (FX X st' _ w) _ w (st'.obj st.n) _
      rw [hsame]
      refine ⟨rfl, fun i => ?_⟩
      have := (h.tmps i).mono (F' := FX X st' (OneDef β st.n (.bool true)) w) (w' := w) (fun b hb => ⟨hF b hb, rfl⟩) hβ
      simpa [List.getD_eq_getElem?_getD, Array.getD_eq_getD_getElem?] using this
    · have hl' : (st'.obj o).live := hl
      rw [hne o e] at hl'
      have ho' : o < st'.n := ho
      obtain ⟨x, hx, hw⟩ := h.own o (by omega) hl'
      refine ⟨x, hβ o x hx, ?_⟩
      show Own (FX X st' _ w) _ w (st'.obj o) _
      rw [hne o e]
      exact hw.mono (fun b hb => ⟨hF b hb, rfl⟩) hβ (fun _ _ => rfl)
  · have ho' : o < st.pin := ho
    have := h.pinned
    have e : o ≠ st.n := by omega
    simp only [OneDef, if_neg e]
    exact h.stay o ho'
  · show st.pin ≤ st'.n
    have := h.pinned
    omega

/-- The caller's frame comes back. -/
theorem Rel.popFrame {X : Ctx} {st : St} {β : Nat → Option Value} {a a0 : Act} {w : World} (h : Rel X st β a w) {n nt : Nat} {e : List (Nat × D)} (ho : st.obj n = .frame a0.tmps.toList e) (hd : a0.defers = []) (hs : a0.tmps.size = nt) :
    Rel X ⟨e, nt, st.objs.set n (.frame [] []), st.g, st.pin⟩ β a0 w ∧ ∀ v d, Rep (FX X st β w) β w v d → Rep (FX X ⟨e, nt, st.objs.set n (.frame [] []), st.g, st.pin⟩ β w) β w v d := by
  have hlive : (st.obj n).live := by rw [ho]; trivial
  by_cases hnn : n < st.n
  case neg =>
    exfalso
    have : st.obj n = .dead := by
      simp only [St.obj, List.getD_eq_getElem?_getD, List.getElem?_eq_none (show st.objs.length ≤ n by have : ¬ n < st.objs.length := hnn; omega)]
      rfl
    rw [this] at hlive
    exact hlive
  obtain ⟨x, hx, hown⟩ := h.own n hnn hlive
  rw [ho] at hown
  obtain ⟨hxt, hrep⟩ := hown
  subst hxt
  let st' : St := ⟨e, nt, st.objs.set n (.frame [] []), st.g, st.pin⟩
  have hn : st'.n = st.n := by simp [st', St.n]
  have hso : st'.obj n = .frame [] [] := by
    simp only [st', St.obj, List.getD_eq_getElem?_getD]
    rw [List.getElem?_set_self hnn]
    rfl
  have hsn : ∀ p, p ≠ n → st'.obj p = st.obj p := by
    intro p hp
    simp only [st', St.obj, List.getD_eq_getElem?_getD]
    rw [List.getElem?_set_ne (Ne.symm hp)]
  have hF : ∀ b, FX X st β w b → FX X st' β w b ∧ w.heap[b]? = w.heap[b]? := by
    intro b hb
    exact ⟨⟨hb.1, hb.2.1, fun p _ _ y hy => hb.2.2 p (h.dom p y hy).1 (h.dom p y hy).2 y hy⟩, rfl⟩
  refine ⟨⟨hd, hs, fun i => ?_, fun p y hy => ?_, fun p hp hl => ?_, h.sep, h.low, h.kept, fun g cs hg => (h.glob g cs hg).mono hF, h.stay, by rw [hn]; exact h.pinned⟩, fun v d hv => hv.mono hF (fun _ _ h => h)⟩
  · have := (hrep i).mono hF (fun _ _ h => h)
    simpa [List.getD_eq_getElem?_getD, Array.getD_eq_getD_getElem?] using this
  · show p < st'.n ∧ (st'.obj p).live
    rw [hn]
    refine ⟨(h.dom p y hy).1, ?_⟩
    by_cases e : p = n
    · subst e; rw [hso]; trivial
    · rw [hsn p e]; exact (h.dom p y hy).2
  · by_cases e : p = n
    · subst e
      refine ⟨_, hx, ?_⟩
      show Own (FX X st' β w) β w (st'.obj p) _
      rw [hso]
      refine ⟨rfl, fun i => ?_⟩
      exact .ro _ _ (.junk _)
    · have hl' : (st'.obj p).live := hl
      rw [hsn p e] at hl'
      obtain ⟨y, hy, hw⟩ := h.own p (hn ▸ hp) hl'
      refine ⟨y, hy, ?_⟩
      show Own (FX X st' β w) β w (st'.obj p) y
      rw [hsn p e]
      exact hw.mono hF (fun _ _ h => h) (fun _ _ => rfl)

/-- The callee is walked in its place. -/
theorem call_inl {X : Ctx} {f : FuncId} {fn : Func} {c : Code} {ds : List D} {env : List (Nat × D)} {nt : Nat} {objs : List Obj} {g : Nat → Option (List D)} {pin : Nat} {K : D → St → Prop} {n : Nat} (hf : X.P.funcs[f]? = some fn) (hb : fn.body = some c) (hname : (fn.name == "runtime.NumGoroutine") = false)
    (hlen : Nat.ble ds.length fn.ntmps = true) (hn : objs.length = n)
    (h : ∀ vs : List Value, awp X c (InlQ X.P vs n nt fn.results.toList K) ⟨argEnv 0 ds, fn.ntmps, objs ++ [.frame vs env], g, pin⟩) : CallS X f ds ⟨env, nt, objs, g, pin⟩ K := by
  subst hn
  refine CallS.mk (callFunc_enter hf (by rw [hb]; rfl) hname) fun β a w vs hr hl hrep => ?_
  let st : St := ⟨env, nt, objs, g, pin⟩
  have hlen : ds.length ≤ fn.ntmps := by simpa using hlen
  refine calls_of_wp hf hb ?_
  have hW := hr.pushFrame
  have hrel : Rel X ⟨argEnv 0 ds, fn.ntmps, objs ++ [.frame a.tmps.toList env], g, pin⟩ (OneDef β st.n (.bool true)) { tmps := vs.toArray ++ Array.replicate (fn.ntmps - vs.toArray.size) undef, defers := [] } w := by
    refine (hW.same (st' := ⟨argEnv 0 ds, fn.ntmps, objs ++ [.frame a.tmps.toList env], g, pin⟩) rfl rfl rfl).toRel (a := { tmps := vs.toArray ++ Array.replicate (fn.ntmps - vs.toArray.size) undef, defers := [] }) rfl (by simp [hl]; omega) (fun i => ?_)
    show Rep _ _ w _ (look (argEnv 0 ds) i)
    rw [look_argEnv, if_pos (Nat.zero_le _), Nat.sub_zero]
    have hβ : ∀ o x, β o = some x → OneDef β st.n (.bool true) o = some x := fun o x hx => by
      have h1 : o < st.n := (hr.dom o x hx).1
      have : o ≠ st.n := by omega
      simp [OneDef, this, hx]
    have hF : ∀ b, FX X st β w b → FX X ⟨argEnv 0 ds, fn.ntmps, objs ++ [.frame a.tmps.toList env], g, pin⟩ (OneDef β st.n (.bool true)) w b ∧ w.heap[b]? = w.heap[b]? := by
      intro b hb
      refine ⟨⟨hb.1, hb.2.1, fun o ho hl x hx hxb => ?_⟩, rfl⟩
      have hx' : β o = some x := by
        unfold OneDef at hx
        split at hx
        · cases hx; simp [blk] at hxb
        · exact hx
      exact hb.2.2 o (hr.dom o x hx').1 (hr.dom o x hx').2 x hx' hxb
    by_cases hi : i < ds.length
    · have hi' : i < vs.length := by omega
      have e : (vs.toArray ++ Array.replicate (fn.ntmps - vs.toArray.size) undef).getD i undef = vs.getD i undef := by
        simp [List.getD_eq_getElem?_getD, Array.getElem?_append, hi']
      show Rep _ _ w ((vs.toArray ++ Array.replicate (fn.ntmps - vs.toArray.size) undef).getD i undef) _
      rw [e]
      exact (hrep i hi).mono hF hβ
    · have : ds.getD i .junk = .junk := by simp [List.getD_eq_getElem?_getD, List.getElem?_eq_none (by omega : ds.length ≤ i)]
      rw [this]
      exact .ro _ _ (.junk _)
  have fin : ∀ (st1 : St) (a' : Act) (w' : World) (β' : Nat → Option Value), resD X.P st1 fn.results.toList (fun d => trimK d st1 fun d st1 => InlK a.tmps.toList objs.length nt d K st1) → Rel X st1 β' a' w' →
      a'.defers = [] ∧ ∃ v, (results fn a'.tmps).run X.P w' = .ok v w' ∧ ∃ v' d st' β', Ending.returned v = .returned v' ∧ Rel X st' β' a w' ∧ Rep (FX X st' β' w') β' w' v' d ∧ K d st' := by
    intro st1 a' w' β' hk hr1
    obtain ⟨d, hd, hres⟩ := resD_out hk
    obtain ⟨v, hv, hrep1⟩ := hres β' a' w' hr1
    obtain ⟨d, st1, β', hd, hr1, hrep1⟩ := trimK_sound hd hr1 hrep1
    obtain ⟨env1, nt1, objs1, g1, pin1⟩ := st1
    simp only [InlK] at hd
    split at hd
    · rename_i vs' e hob
      obtain ⟨hvs, hk2⟩ := SameV.out hd
      subst hvs
      obtain ⟨hp1, hp2⟩ := hr1.popFrame (n := objs.length) (nt := nt) (a0 := a) (e := e) hob hr.defers hr.size
      exact ⟨hr1.defers, v, hv, v, d, _, β', rfl, hp1, hp2 v d hrep1, setOK_out hk2⟩
    · exact hd.elim
  refine Code.wp_mono ?_ (awp_sound X c _ _ (h a.tmps.toList) _ _ w hrel)
  intro e a' w' hq
  cases e with
  | normal => obtain ⟨st, β', hk, hr⟩ := hq; exact fin st a' w' β' hk hr
  | ret => obtain ⟨st, β', hk, hr⟩ := hq; exact fin st a' w' β' hk hr
  | exit i => obtain ⟨st, β', hk, hr⟩ := hq; exact hk.elim
  | goto l => exact hq.elim
  | panic c => exact hq.elim
  | outgrown => exact hq.elim

/-! ### States renumbered -/
def outE (ids : List Nat) (e : List (Nat × D)) : List (Nat × D) → Prop
  | [] => True
  | (k, d) :: r => d = outD ids (look e k) ∧ outE ids e r
theorem outE_look {ids : List Nat} {e : List (Nat × D)} : ∀ {e' : List (Nat × D)}, outE ids e e' → ∀ i, look e' i = .junk ∨ look e' i = outD ids (look e i)
  | [], _, _ => .inl rfl
  | (k, d) :: r, h, i => by
    simp only [look]
    cases hb : Nat.beq i k with
    | true =>
      have := Nat.eq_of_beq_eq_true hb
      subst this
      exact .inr h.1
    | false => exact outE_look h.2 i
def outO (ids : List Nat) : Obj → Obj → Prop
  | .dead, .dead => True
  | .row e s es, .row e' s' es' => e = e' ∧ s = s' ∧ es = es'
  | .box cs, .box cs' => cs = cs'.map (out1 ids)
  | .frame vs e, .frame vs' e' => vs = vs' ∧ outE ids e' e
  | .blk e s cs c, .blk e' s' cs' c' => e = e' ∧ s = s' ∧ cs = cs' ∧ c = c'
  | _, _ => False
def outOs (ids : List Nat) (objs : List Obj) : List Nat → List Obj → Prop
  | [], [] => True
  | i :: r, ob :: l => outO ids ob (objs.getD i .dead) ∧ outOs ids objs r l
  | _, _ => False
theorem outOs_get {ids : List Nat} {objs : List Obj} : ∀ {is : List Nat} {l : List Obj}, outOs ids objs is l → l.length = is.length ∧ ∀ k o, is[k]? = some o → outO ids (l.getD k .dead) (objs.getD o .dead)
  | [], [], _ => ⟨rfl, fun k o h => by simp at h⟩
  | i :: r, ob :: l, h => by
    obtain ⟨h1, h2⟩ := outOs_get h.2
    refine ⟨by simp [h1], fun k o hk => ?_⟩
    cases k with
    | zero =>
      have : i = o := by simpa using hk
      subst this
      exact h.1
    | succ k =>
      have := h2 k o (by simpa using hk)
      simpa [List.getD_eq_getElem?_getD] using this
  | [], _ :: _, h => h.elim
  | _ :: _, [], h => h.elim
theorem outD_junk (ids : List Nat) : outD ids .junk = .junk := rfl
theorem out1_junk (ids : List Nat) : out1 ids .junk = .junk := rfl
/-- A state from the objects of ids, in that order. -/
theorem weak_sel {env env' : List (Nat × D)} {nt : Nat} {objs objs' : List Obj} {g : Nat → Option (List D)} {pin : Nat} (ids : List Nat)
    (hB : (nodupB ids && ids.all (fun o => Nat.blt o objs.length) && Nat.ble pin ids.length && (List.range pin).all (fun k => ids[k]? == some k)) = true)
    (ho : outOs ids objs ids objs') (he : outE ids env env') : Weak ⟨env, nt, objs, g, pin⟩ ⟨env', nt, objs', g, pin⟩ := by
  intro X β a w h
  simp only [Bool.and_eq_true] at hB
  obtain ⟨⟨⟨h1, h2⟩, h3⟩, h4⟩ := hB
  have h3 : pin ≤ ids.length := by simpa using h3
  obtain ⟨hol, hog⟩ := outOs_get ho
  let st : St := ⟨env, nt, objs, g, pin⟩
  let st' : St := ⟨env', nt, objs', g, pin⟩
  let β' : Nat → Option Value := fun k => match ids[k]? with
    | some o => β o
    | none => none
  have hn : st'.n = ids.length := hol
  have hβ' : ∀ (k : Nat) (x : Value), β' k = some x → ∃ o : Nat, ids[k]? = some o ∧ β o = some x := by
    intro k x hx
    simp only [β'] at hx
    cases hk : ids[k]? with
    | none => rw [hk] at hx; cases hx
    | some o => rw [hk] at hx; exact ⟨o, rfl, hx⟩
  have hβ2 : ∀ (o k : Nat) (x : Value), ids[k]? = some o → β o = some x → β' k = some x := by
    intro o k x hk hx
    simp only [β', hk]
    exact hx
  have hoL : ∀ k o : Nat, ids[k]? = some o → ((st'.obj k).live ↔ (st.obj o).live) := by
    intro k o hk
    have := hog k o hk
    have e1 : st'.obj k = objs'.getD k .dead := rfl
    have e2 : st.obj o = objs.getD o .dead := rfl
    rw [e1, e2]
    revert this
    cases objs'.getD k .dead <;> cases objs.getD o .dead <;> simp [outO, Obj.live]
  have hF : ∀ b, FX X st β w b → FX X st' β' w b ∧ w.heap[b]? = w.heap[b]? := by
    intro b hb
    refine ⟨⟨hb.1, hb.2.1, fun k _ _ x hx => ?_⟩, rfl⟩
    obtain ⟨o, _, ho⟩ := hβ' k x hx
    exact hb.2.2 o (h.dom o x ho).1 (h.dom o x ho).2 x ho
  have hown : ∀ ob' ob x, outO ids ob' ob → Own (FX X st β w) β w ob x → Own (FX X st' β' w) β' w ob' x := by
    intro ob' ob x hoo hw
    cases ob' <;> cases ob <;> simp only [outO] at hoo
    · trivial
    · obtain ⟨rfl, rfl, rfl⟩ := hoo
      exact Own.plain_mono (o := .row _ _ _) hF trivial (fun _ _ => rfl) hw
    · subst hoo
      obtain ⟨b, c, T, rfl, hg, hs, h1, hr⟩ := hw
      refine ⟨b, c, T, rfl, hg, by simp [hs], h1, fun j hj => ?_⟩
      rw [getD_map_junk _ (out1_junk ids)]
      exact (hr j (by simpa using hj)).out1' hβ2 (fun v d h => h.mono hF)
    · obtain ⟨rfl, hoe⟩ := hoo
      obtain ⟨rfl, hr⟩ := hw
      refine ⟨rfl, fun i => ?_⟩
      rcases outE_look hoe i with e | e
      · rw [e]; exact .ro _ _ (.junk _)
      · rw [e]; exact (hr i).outD' hβ2 (fun v d h => h.mono hF)
    · obtain ⟨rfl, rfl, rfl, rfl⟩ := hoo
      obtain ⟨g, cur, h1, hg, h2, h3, h4, h5, h6⟩ := hw
      exact ⟨g, cur, h1, hg, h2, h3, h4, h5, fun i j hi hj => ⟨(h6 i j hi hj).1, (h6 i j hi hj).2.mono hF⟩⟩
  refine ⟨β', h.defers, h.size, fun i => ?_, fun k x hx => ?_, fun k hk hl => ?_, fun k k' x x' b hx hx' hb hb' => ?_, fun k x b hx hb => ?_, h.kept, fun g cs hg => (h.glob g cs hg).mono hF, fun k hk => ?_, by rw [hn]; exact h3⟩
  · rcases outE_look he i with e | e
    · show Rep _ β' w _ (look env' i)
      rw [e]; exact .ro _ _ (.junk _)
    · show Rep _ β' w _ (look env' i)
      rw [e]; exact (h.tmps i).outD' hβ2 (fun v d h => h.mono hF)
  · obtain ⟨o, hk, ho⟩ := hβ' k x hx
    refine ⟨?_, (hoL k o hk).2 (h.dom o x ho).2⟩
    show k < st'.n
    rw [hn]
    exact (List.getElem?_eq_some_iff.1 hk).1
  · have hk0 : k < ids.length := by rw [← hn]; exact hk
    have hk' : ids[k]? = some ids[k] := List.getElem?_eq_getElem hk0
    have hl' := (hoL k _ hk').1 hl
    have hlt : ids[k] < st.n := by
      have := List.all_eq_true.1 h2 ids[k] (List.getElem_mem hk0)
      show ids[k] < objs.length
      simpa [Nat.blt_eq] using this
    obtain ⟨x, hx, hw⟩ := h.own _ hlt hl'
    exact ⟨x, hβ2 _ k x hk' hx, hown _ _ x (hog k _ hk') hw⟩
  · obtain ⟨o, hk, ho⟩ := hβ' k x hx
    obtain ⟨o', hk', ho'⟩ := hβ' k' x' hx'
    have := h.sep o o' x x' b ho ho' hb hb'
    subst this
    exact nodupB_spec h1 k k' o hk hk'
  · obtain ⟨o, hk, ho⟩ := hβ' k x hx
    exact h.low o x b ho hb
  · have hk' : k < pin := hk
    have := List.all_eq_true.1 h4 k (List.mem_range.2 hk')
    have hkk : ids[k]? = some k := by simpa using this
    simp only [β', hkk]
    exact h.stay k hk'

/-- An empty slice is taken for a row of the call's own. -/
theorem weak_adopt {env : List (Nat × D)} {nt : Nat} {objs : List Obj} {g : Nat → Option (List D)} {pin : Nat} (t : Nat) (e : TypeId) (s : Nat) (ht : look env t = .v (.slice none 0 0)) (hn : Nat.blt t nt = true) :
    Weak ⟨env, nt, objs, g, pin⟩ ⟨(t, .h objs.length) :: env, nt, objs ++ [.row e s []], g, pin⟩ := by
  intro X β a w h
  let st : St := ⟨env, nt, objs, g, pin⟩
  have h1 : Rel X (st.push (.row e s [])) (OneDef β st.n (.slice none 0 0)) a w := by
    refine h.newRow' (grownBy_refl w) (fun b hb => by simp [blk] at hb) (fun F' _ => ?_)
    exact ⟨Nat.zero_le _, fun i hi => by simp at hi, [], ⟨by simp, .inl ⟨rfl, rfl⟩⟩, fun u hu => by simp at hu, fun i j hi => by simp at hi⟩
  have h2 : Rel X st β a w := h
  have hv := h2.tmps t
  rw [show look st.env t = .v (.slice none 0 0) from ht] at hv
  have hv := hv.v_inv
  have h3 := h1.put (some t) (v := .slice none 0 0) (d := .h st.n) (.h _ _ (by simp [OneDef]))
  refine ⟨OneDef β st.n (.slice none 0 0), ?_⟩
  have e1 : a.put (some t) (.slice none 0 0) = a := by
    unfold Act.put
    have : a.tmps.setIfInBounds t (.slice none 0 0) = a.tmps := by
      apply Array.ext (by simp)
      intro i h1 h2
      rw [Array.getElem_setIfInBounds]
      split
      · rename_i e
        subst e
        rw [← hv]
        simp [Array.getD_eq_getD_getElem?, h2]
      · rfl
    simp only [this]
  rw [e1] at h3
  have e2 : (st.push (.row e s [])).put (some t) (.h st.n) = ⟨(t, .h objs.length) :: env, nt, objs ++ [.row e s []], g, pin⟩ := by
    simp only [St.put, St.push, st, hn, cond_true]
    rfl
  rw [e2] at h3
  exact h3
end Go.Eng
