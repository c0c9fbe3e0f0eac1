/-
  The engine: a call that is lent a row of the caller's own, to write it, and shown others of its objects.
  No conditions.
-/
import Derived.Test.YtbpbhjlochijdaaGreatDoorED
set_option linter.unusedVariables false
set_option linter.unusedSimpArgs false
namespace Go.Eng
open Go Go.RowKit

theorem call_lendv {X : Ctx} {f : FuncId} {ds : List D} {env : List (Nat × D)} {nt : Nat} {objs : List Obj} {g : Nat → Option (List D)} {pin : Nat} {K : D → St → Prop} {o' : Obj} (o : Nat)
    (ho : (Nat.blt o objs.length && rowB (objs.getD o .dead)) = true) (hc : FnC X.P f g 1 [objs.getD o .dead] (ds.map (lendM o (St.seen ⟨env, nt, objs, g, pin⟩ o))) (fun d' os => d' = .tup [] ∧ os = [o']))
    (hf : FlatO o') (hk : K (.tup []) ⟨env, nt, objs.set o o', g, pin⟩) : CallS X f ds ⟨env, nt, objs, g, pin⟩ K := by
  refine CallS.mk hc.1 fun β a w vs hr hl hrep => ?_
  simp only [Bool.and_eq_true] at ho
  obtain ⟨ho1, ho2⟩ := ho
  have hol : o < objs.length := by simpa [Nat.blt_eq] using ho1
  let st : St := ⟨env, nt, objs, g, pin⟩
  have hon : o < st.n := hol
  have hpl : (st.obj o).plain ∧ (st.obj o).live := by
    show (objs.getD o .dead).plain ∧ (objs.getD o .dead).live
    revert ho2
    cases objs.getD o .dead <;> intro h <;> first | exact ⟨trivial, trivial⟩ | exact ⟨h, trivial⟩ | cases h
  obtain ⟨xo, hxo, howo⟩ := hr.own o hon hpl.2
  obtain ⟨hY, hFY⟩ := hr.without hxo
  let Y := xWithout X w xo (unβ o β)
  let su : St := ⟨(st.without o).env, st.nt, (st.without o).objs, st.g, 0⟩
  have hse : (st.seen o).objs = su.objs := rfl
  let L : Nat → Prop := fun b => blk xo = some b
  let β0 : Nat → Option Value := fun j => if j = 0 then some xo else none
  let Xc : Ctx := ⟨X.P, w, FAll Y w, L, β0⟩
  have one : ∀ p x, β0 p = some x → p = 0 ∧ x = xo := by
    intro p x hx
    by_cases hp : p = 0
    · subst hp
      exact ⟨rfl, (Option.some.inj hx).symm⟩
    · simp [β0, hp] at hx
  have hFA : ∀ b, FAll Y w b → FX Xc (stOf [st.obj o] g 1) β0 w b ∧ w.heap[b]? = w.heap[b]? := by
    intro b hb
    refine ⟨⟨hb.1, .inl hb, fun p hp hl x hx => ?_⟩, rfl⟩
    obtain ⟨rfl, rfl⟩ := one p x hx
    rcases hb.2 with h1 | h1 | h1
    · exact h1.2
    · have : w.heap.size ≤ b := h1
      have := hb.1
      omega
    · exact h1.2
  have hF0 : ∀ b, FX X st β w b → FX Xc (stOf [st.obj o] g 1) β0 w b ∧ w.heap[b]? = w.heap[b]? := fun b hb => hFA b (FX_all (hFY b hb))
  have hW : WRel Xc (stOf [st.obj o] g 1) β0 w := by
    refine ⟨fun p x hx => ?_, fun p hp hl => ?_, fun p p' x x' b hx hx' _ _ => ?_, fun p x b hx hb => ?_, KeptL.refl _ _ _, fun gg cs hg => (hr.glob gg cs hg).mono hF0, fun p hp => rfl, Nat.le_refl 1⟩
    · obtain ⟨rfl, rfl⟩ := one p x hx
      exact ⟨Nat.zero_lt_one, hpl.2⟩
    · have hp0 : p = 0 := by have : p < 1 := hp; omega
      subst hp0
      exact ⟨xo, rfl, Own.plain_mono hF0 hpl.1 (fun _ _ => rfl) howo⟩
    · rw [(one p x hx).1, (one p' x' hx').1]
    · obtain ⟨rfl, rfl⟩ := one p x hx
      exact .inr hb
  have hkill : ∀ {v : Value} {d : D}, Rep (FX X st β w) β w v d → Rep (FX Y su (unβ o β) w) (unβ o β) w v (kill (Nat.beq o) d) := fun h =>
    h.kill (fun b hb => ⟨hFY b hb, rfl⟩) (fun p x hp hx => by
      have : p ≠ o := by intro e; subst e; simp at hp
      simp only [unβ, if_neg this]
      exact hx)
  have hkill0 : ∀ {v : Value} {d : D}, Rep (FX X st β w) β w v d → Rep (FX Y su (unβ o β) w) (unβ o β) w v (kill0 (Nat.beq o) d) := fun h =>
    h.kill0 (fun b hb => ⟨hFY b hb, rfl⟩) (fun p x hp hx => by
      have : p ≠ o := by intro e; subst e; simp at hp
      simp only [unβ, if_neg this]
      exact hx)
  have hl0 : ∀ {v : Value} {d : D}, Rep (FX X st β w) β w v d → Rep (FX Xc (stOf [st.obj o] g 1) β0 w) β0 w v (lend0 o (st.seen o) d) := by
    intro v d hv
    have gen : ∀ d, Rep (FX X st β w) β w v d → Rep (FX Xc (stOf [st.obj o] g 1) β0 w) β0 w v (view1 (st.seen o) (kill0 (Nat.beq o) d)) := fun d hv => by
      rw [view1_objs hse]
      exact .ro _ _ ((view1_sound hY (hkill0 hv)).mono hFA)
    cases d with
    | h p =>
      show Rep _ _ _ _ (bif Nat.beq p o then .h 0 else viewC (st.seen o) (.h p))
      cases hb : Nat.beq p o with
      | false =>
        have h1 := gen (.h p) hv
        have hb' : Nat.beq o p = false := beq_ne (fun e => by subst e; simp at hb)
        simp only [kill0, hb', cond_false, view1] at h1
        exact h1
      | true =>
        have := Nat.eq_of_beq_eq_true hb
        subst this
        have := hv.h_inv
        rw [hxo] at this
        exact .h _ _ this
    | _ => exact gen _ hv
  refine (hc.2 Xc β0 w vs rfl rfl rfl hW (by simpa using hl) (fun i hi => ?_)).mono ?_
  · have hi' : i < ds.length := by simpa using hi
    have e : (ds.map (lendM o (st.seen o))).getD i .junk = lendM o (st.seen o) (ds.getD i .junk) := by
      rw [List.getD_eq_getElem?_getD, List.getD_eq_getElem?_getD, List.getElem?_map, List.getElem?_eq_getElem hi']
      rfl
    rw [e]
    have hv := hrep i hi'
    revert hv
    generalize ds.getD i .junk = d
    intro hv
    have gen : Rep (FX Xc (stOf [st.obj o] g 1) β0 w) β0 w (vs.getD i undef) (view (st.seen o) (kill (Nat.beq o) d)) := by
      rw [view_objs hse]
      exact .ro _ _ ((view_sound hY (hkill hv)).mono hFA)
    cases d with
    | agg cs =>
      obtain ⟨us, hus, hlen, h1, hrr⟩ := hv.agg_inv
      rw [hus]
      refine .agg _ _ (by simp [hlen]) h1 (fun j hj => ?_)
      have hj' : j < cs.length := by simpa using hj
      have e2 : (cs.map (lend0 o (st.seen o))).getD j .junk = lend0 o (st.seen o) (cs.getD j .junk) := by
        rw [List.getD_eq_getElem?_getD, List.getD_eq_getElem?_getD, List.getElem?_map, List.getElem?_eq_getElem hj']
        rfl
      rw [e2]
      exact hl0 (hrr j hj')
    | h p => exact hl0 hv
    | _ => exact gen
  · rintro e w' ⟨v, d, os, β', rfl, hw', hrd, hpls, rfl, rfl⟩
    have hkc : KeptL w.heap.size L w w' := hw'.kept
    have h0 : β' 0 = some xo := hw'.stay 0 Nat.zero_lt_one
    have hsame : ∀ b, b < w.heap.size → blk xo ≠ some b → w'.heap[b]? = w.heap[b]? := fun b hb hn => hkc.block b hb hn
    let st' : St := ⟨env, nt, objs.set o o', g, pin⟩
    have hn' : st'.n = st.n := by simp [st', st, St.n]
    have hobj : ∀ p, p < objs.length → st'.obj p = if p = o then o' else st.obj p := fun p hp' => by
      have := St.obj_set (x := o') (r := []) hol hp'
      rw [List.append_nil] at this
      exact this
    have hFX : ∀ b, FX X st β w b → FX X st' β w' b ∧ w'.heap[b]? = w.heap[b]? := by
      intro b hb
      refine ⟨⟨Nat.lt_of_lt_of_le hb.1 hkc.size, hb.2.1, fun p hp hl y hy => hb.2.2 p (hr.dom p y hy).1 (hr.dom p y hy).2 y hy⟩, hsame b hb.1 (hb.2.2 o hon hpl.2 xo hxo)⟩
    have hrel : Rel X st' β a w' := by
      refine ⟨hr.defers, hr.size, fun i => (hr.tmps i).mono hFX (fun _ _ h => h), fun p x hx => ?_, fun p hp hl => ?_, hr.sep, hr.low, ?_, fun gg cs hg => (hr.glob gg cs hg).mono hFX, hr.stay, by rw [hn']; exact hr.pinned⟩
      · have hd := hr.dom p x hx
        refine ⟨by rw [hn']; exact hd.1, ?_⟩
        rw [hobj p hd.1]
        split
        · exact (hw'.dom 0 xo h0).2
        · exact hd.2
      · have hlt : p < objs.length := by rw [hn'] at hp; exact hp
        rw [hobj p hlt] at hl ⊢
        by_cases hpo : p = o
        · subst hpo
          rw [if_pos rfl] at hl ⊢
          obtain ⟨x, hx, hw⟩ := hw'.own 0 Nat.zero_lt_one hl
          rw [h0] at hx
          cases hx
          exact ⟨xo, hxo, Own.flat_any hf hw⟩
        · rw [if_neg hpo] at hl ⊢
          obtain ⟨x, hx, hw⟩ := hr.own p hlt hl
          exact ⟨x, hx, hw.mono hFX (fun _ _ h => h) (fun b hb => hsame b (Own.lt hl hw b hb) (fun hbo => hpo (hr.sep p o x xo b hx hxo hb hbo)))⟩
      · refine hr.kept.trans ⟨hkc.os, hkc.tape, hkc.output, hkc.size, fun k hk hl => hsame k (Nat.lt_of_lt_of_le hk hr.kept.size) (fun hbo => ?_)⟩
        rcases hr.low o xo k hxo hbo with h3 | h3
        · omega
        · exact hl h3
    obtain ⟨cs, rfl, hlc, _⟩ := hrd.tup_inv
    exact ⟨_, .tup [], st', β, rfl, hrel, .tup cs [] hlc (fun i hi => absurd hi (Nat.not_lt_zero _)), hk⟩
end Go.Eng
