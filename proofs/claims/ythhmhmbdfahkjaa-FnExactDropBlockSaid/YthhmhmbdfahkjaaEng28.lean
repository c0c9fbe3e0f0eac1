/-
  The engine, twenty-eighth part. A call that is lent one object of the caller's own, to write it.
  No conditions.
-/
import Derived.Test.YthhmhmbdfahkjaaEng27
namespace Go.Eng
open Go Go.RowKit

def rowB : Obj → Bool
  | .row _ _ _ => true
  | _ => false
def lend1 (o : Nat) : D → D
  | .h p => bif Nat.beq p o then .h 0 else .junk
  | .hp _ _ => .junk
  | .hr _ _ _ _ => .junk
  | .hs _ _ _ _ => .junk
  | .agg cs => bif cs.all noH0 then .agg cs else .junk
  | .clo f cs => bif cs.all noH0 then .clo f cs else .junk
  | .tup _ => .junk
  | d => d

def backN (o n j : Nat) : Nat := match j with
  | 0 => o
  | j + 1 => n + j
def backβ (n : Nat) (β β' : Nat → Option Value) : Nat → Option Value := fun p => if p < n then β p else β' (p - n + 1)

theorem St.obj_set {objs : List Obj} {o p : Nat} {x : Obj} {r : List Obj} (ho : o < objs.length) (hp : p < objs.length) :
    (objs.set o x ++ r).getD p .dead = if p = o then x else objs.getD p .dead := by
  rw [List.getD_eq_getElem?_getD, List.getElem?_append_left (by simpa using hp), List.getElem?_set]
  by_cases h : p = o
  · subst h
    rw [if_pos rfl, if_pos rfl, if_pos ho]
    rfl
  · rw [if_neg (fun e => h e.symm), if_neg h, List.getD_eq_getElem?_getD]

/-- A call that is lent the object o; it stays where it is. -/
theorem call_lend {X : Ctx} {f : FuncId} {ds : List D} {env : List (Nat × D)} {nt : Nat} {objs : List Obj} {g : Nat → Option (List D)} {pin : Nat} {K : D → St → Prop} {post : D → List Obj → Prop} (o : Nat)
    (ho : (Nat.blt o objs.length && rowB (objs.getD o .dead)) = true) (hc : FnC X.P f g 1 [objs.getD o .dead] (ds.map (lend1 o)) post)
    (hk : ∀ d os, post d os → ∃ o' r, os = o' :: r ∧ K (ren (backN o objs.length) d) ⟨env, nt, objs.set o o' ++ r, g, pin⟩) : CallS X f ds ⟨env, nt, objs, g, pin⟩ K := by
  refine CallS.mk hc.1 fun β a w vs hr hl hrep => ?_
  obtain ⟨ho1, ho2⟩ := and_true' ho
  have hol : o < objs.length := by simpa [Nat.blt_eq] using ho1
  let st : St := ⟨env, nt, objs, g, pin⟩
  have hon : o < st.n := hol
  have hob : st.obj o = objs.getD o .dead := rfl
  have hpl : (st.obj o).plain ∧ (st.obj o).live := by
    rw [hob]
    revert ho2
    cases objs.getD o .dead <;> intro h <;> first | exact ⟨trivial, trivial⟩ | cases h
  obtain ⟨xo, hxo, howo⟩ := hr.own o hon hpl.2
  let L : Nat → Prop := fun b => blk xo = some b
  let β0 : Nat → Option Value := fun j => if j = 0 then some xo else none
  let Xc : Ctx := ⟨X.P, w, FX X st β w, L, β0⟩
  have hF0 : ∀ b, FX X st β w b → FX Xc (stOf [st.obj o] g 1) β0 w b ∧ w.heap[b]? = w.heap[b]? := by
    intro b hb
    refine ⟨⟨hb.1, .inl hb, fun p hp hl x hx => ?_⟩, rfl⟩
    have hp0 : p = 0 := by have : p < 1 := hp; omega
    subst hp0
    have : x = xo := (Option.some.inj hx).symm
    subst this
    exact hb.2.2 o hon hpl.2 x hxo
  have hW : WRel Xc (stOf [st.obj o] g 1) β0 w := by
    have one : ∀ p x, β0 p = some x → p = 0 ∧ x = xo := by
      intro p x hx
      by_cases hp : p = 0
      · subst hp
        exact ⟨rfl, (Option.some.inj hx).symm⟩
      · simp [β0, hp] at hx
    refine ⟨fun p x hx => ?_, fun p hp hl => ?_, fun p p' x x' b hx hx' _ _ => ?_, fun p x b hx hb => ?_, KeptL.refl _ _ _, fun gg cs hg => (hr.glob gg cs hg).mono hF0, fun _ _ => rfl, Nat.le_refl 1⟩
    · obtain ⟨rfl, rfl⟩ := one p x hx
      exact ⟨Nat.zero_lt_one, hpl.2⟩
    · have hp0 : p = 0 := by have : p < 1 := hp; omega
      subst hp0
      exact ⟨xo, rfl, Own.plain_mono hF0 hpl.1 (fun _ _ => rfl) howo⟩
    · rw [(one p x hx).1, (one p' x' hx').1]
    · obtain ⟨rfl, rfl⟩ := one p x hx
      exact .inr hb
  refine (hc.2 Xc β0 w vs rfl rfl rfl hW (by simpa using hl) (fun i hi => ?_)).mono ?_
  · have hi' : i < ds.length := by simpa using hi
    have e : (ds.map (lend1 o)).getD i .junk = lend1 o (ds.getD i .junk) := getD_map_junk _ rfl _ _
    rw [e]
    have hv := hrep i hi'
    revert hv
    have ro : ∀ {v : Value} {d : D}, RO (FX X st β w) w v d → Rep (FX Xc (stOf [st.obj o] g 1) β0 w) β0 w v d := fun h => .ro _ _ (h.mono hF0)
    cases ds.getD i .junk with
    | h p =>
      intro hv
      show Rep _ _ _ _ (bif Nat.beq p o then .h 0 else .junk)
      cases hb : Nat.beq p o with
      | false => exact .ro _ _ (.junk _)
      | true =>
        have := Nat.eq_of_beq_eq_true hb
        subst this
        have := hv.h_inv
        rw [hxo] at this
        exact .h _ _ this
    | hp p k => intro _; exact .ro _ _ (.junk _)
    | hr p s i k => intro _; exact .ro _ _ (.junk _)
    | hs p s a b => intro _; exact .ro _ _ (.junk _)
    | tup l => intro _; exact .ro _ _ (.junk _)
    | agg cs =>
      intro hv
      show Rep _ _ _ _ (bif cs.all noH0 then .agg cs else .junk)
      cases hb : cs.all noH0 with
      | false => exact .ro _ _ (.junk _)
      | true => exact ro (hv.noH hb)
    | clo f cs =>
      intro hv
      show Rep _ _ _ _ (bif cs.all noH0 then .clo f cs else .junk)
      cases hb : cs.all noH0 with
      | false => exact .ro _ _ (.junk _)
      | true => exact ro (hv.noH hb)
    | junk => intro hv; exact ro (hv.noH rfl)
    | int => intro hv; exact ro (hv.noH rfl)
    | bool => intro hv; exact ro (hv.noH rfl)
    | str => intro hv; exact ro (hv.noH rfl)
    | v => intro hv; exact ro (hv.noH rfl)
    | sl => intro hv; exact ro (hv.noH rfl)
    | rp => intro hv; exact ro (hv.noH rfl)
  · rintro e w' ⟨v, d, os, β', rfl, hw', hrd, hpls, hpost⟩
    obtain ⟨o', r, rfl, hkk⟩ := hk d os hpost
    have hkc : KeptL w.heap.size L w w' := hw'.kept
    have h0 : β' 0 = some xo := hw'.stay 0 Nat.zero_lt_one
    have hnew : ∀ j x b, β' j = some x → blk x = some b → w.heap.size ≤ b ∨ blk xo = some b := fun j x b hx hb => hw'.low j x b hx hb
    have hβ : ∀ p x, β p = some x → backβ objs.length β β' p = some x := by
      intro p x hx
      unfold backβ
      rw [if_pos (show p < objs.length from (hr.dom p x hx).1)]
      exact hx
    have hlo : ∀ {b : Nat}, blk xo = some b → b < w.heap.size := fun hb => hr.lt hxo hb
    have hsame : ∀ b, b < w.heap.size → blk xo ≠ some b → w'.heap[b]? = w.heap[b]? := fun b hb hn => hkc.block b hb hn
    let st' : St := ⟨env, nt, objs.set o o' ++ r, g, pin⟩
    have hn' : st'.n = objs.length + r.length := by simp [st', St.n]
    have hobj : ∀ p, p < objs.length → st'.obj p = if p = o then o' else st.obj p := fun p hp' => St.obj_set hol hp'
    have hobj2 : ∀ p, objs.length ≤ p → st'.obj p = r.getD (p - objs.length) .dead := by
      intro p hp'
      show (objs.set o o' ++ r).getD p .dead = _
      rw [List.getD_eq_getElem?_getD, List.getElem?_append_right (by simpa using hp'), List.getD_eq_getElem?_getD]
      simp
    have hc0 : ∀ j, (stOf (o' :: r) g 1).obj j = (o' :: r).getD j .dead := fun _ => rfl
    -- what may be read in the callee's last world may be read in the caller's
    have hFn : ∀ b, FX Xc (stOf (o' :: r) g 1) β' w' b → FX X st' (backβ objs.length β β') w' b := by
      intro b hb
      refine ⟨hb.1, ?_, fun p hp hl y hy => ?_⟩
      · rcases hb.2.1 with h1 | h1 | h1
        · exact h1.2.1
        · exact .inr (.inl (Nat.le_trans hr.kept.size h1))
        · exact absurd h1 (hb.2.2 0 (Nat.zero_lt_succ _) (hw'.dom 0 xo h0).2 xo h0)
      · unfold backβ at hy
        split at hy
        · rename_i hlt
          by_cases hpo : p = o
          · subst hpo
            rw [hxo] at hy
            cases hy
            rw [hobj p hlt, if_pos rfl] at hl
            exact hb.2.2 0 (Nat.zero_lt_succ _) hl xo h0
          · rcases hb.2.1 with h1 | h1 | h1
            · exact h1.2.2 p hlt (hr.dom p y hy).2 y hy
            · intro hbb
              have := hr.lt hy hbb
              have h1 : w.heap.size ≤ b := h1
              omega
            · exact absurd h1 (hb.2.2 0 (Nat.zero_lt_succ _) (hw'.dom 0 xo h0).2 xo h0)
        · exact hb.2.2 _ (hw'.dom _ _ hy).1 (hw'.dom _ _ hy).2 y hy
    have hFX : ∀ b, FX X st β w b → FX X st' (backβ objs.length β β') w' b ∧ w'.heap[b]? = w.heap[b]? := by
      intro b hb
      have hbo : blk xo ≠ some b := hb.2.2 o hon hpl.2 xo hxo
      refine ⟨⟨Nat.lt_of_lt_of_le hb.1 hkc.size, hb.2.1, fun p hp hl y hy => ?_⟩, hsame b hb.1 hbo⟩
      unfold backβ at hy
      split at hy
      · rename_i hlt
        exact hb.2.2 p hlt (hr.dom p y hy).2 y hy
      · intro hbb
        rcases hnew _ _ _ hy hbb with h1 | h1
        · have := hb.1
          omega
        · exact hbo h1
    have hrel : Rel X st' (backβ objs.length β β') a w' := by
      refine ⟨hr.defers, hr.size, fun i => (hr.tmps i).mono hFX hβ, ?_, ?_, ?_, ?_, ?_, fun gg cs hg => (hr.glob gg cs hg).mono hFX, ?_, ?_⟩
      · intro p x hx
        unfold backβ at hx
        split at hx
        · rename_i hlt
          refine ⟨by rw [hn']; omega, ?_⟩
          rw [hobj p hlt]
          split
          · exact (hw'.dom 0 xo h0).2
          · exact (hr.dom p x hx).2
        · rename_i hge
          have hd := hw'.dom _ _ hx
          have hlt : p - objs.length + 1 < r.length + 1 := hd.1
          refine ⟨by rw [hn']; omega, ?_⟩
          rw [hobj2 p (by omega)]
          exact hd.2
      · intro p hp hl
        by_cases hlt : p < objs.length
        · rw [hobj p hlt] at hl ⊢
          by_cases hpo : p = o
          · subst hpo
            rw [if_pos rfl] at hl ⊢
            obtain ⟨x, hx, hw⟩ := hw'.own 0 (Nat.zero_lt_succ _) hl
            rw [h0] at hx
            cases hx
            exact ⟨xo, hβ _ _ hxo, Own.plain_mono (fun b hb => ⟨hFn b hb, rfl⟩) (hpls _ (List.mem_cons_self ..)) (fun _ _ => rfl) hw⟩
          · rw [if_neg hpo] at hl ⊢
            obtain ⟨x, hx, hw⟩ := hr.own p hlt hl
            refine ⟨x, hβ p x hx, hw.mono hFX hβ (fun b hb => hsame b (Own.lt hl hw b hb) (fun hbo => ?_))⟩
            exact hpo (hr.sep p o x xo b hx hxo hb hbo)
        · rw [hobj2 p (by omega)] at hl ⊢
          have hin : p - objs.length < r.length := by rw [hn'] at hp; omega
          obtain ⟨x, hx, hw⟩ := hw'.own (p - objs.length + 1) (Nat.succ_lt_succ hin) hl
          refine ⟨x, by unfold backβ; rw [if_neg hlt]; exact hx, ?_⟩
          exact Own.plain_mono (fun b hb => ⟨hFn b hb, rfl⟩) (hpls _ (List.mem_cons_of_mem _ (getD_mem hin))) (fun _ _ => rfl) hw
      · intro p p' x x' b hx hx' hb hb'
        unfold backβ at hx hx'
        split at hx <;> split at hx'
        · exact hr.sep p p' x x' b hx hx' hb hb'
        · rename_i h1 h2
          rcases hnew _ _ _ hx' hb' with h3 | h3
          · have := hr.lt hx hb
            omega
          · have hpo := hr.sep p o x xo b hx hxo hb h3
            have := hw'.sep _ _ xo x' b h0 hx' h3 hb'
            omega
        · rename_i h1 h2
          rcases hnew _ _ _ hx hb with h3 | h3
          · have := hr.lt hx' hb'
            omega
          · have := hw'.sep _ _ xo x b h0 hx h3 hb
            omega
        · have := hw'.sep _ _ x x' b hx hx' hb hb'
          omega
      · intro p x b hx hb
        unfold backβ at hx
        split at hx
        · exact hr.low p x b hx hb
        · rcases hnew _ _ _ hx hb with h3 | h3
          · exact .inl (Nat.le_trans hr.kept.size h3)
          · exact hr.low o xo b hxo h3
      · refine hr.kept.trans ⟨hkc.os, hkc.tape, hkc.output, hkc.size, fun k hk hl => hsame k (Nat.lt_of_lt_of_le hk hr.kept.size) (fun hbo => ?_)⟩
        rcases hr.low o xo k hxo hbo with h3 | h3
        · omega
        · exact hl h3
      · intro p hp'
        have hpn : st.pin ≤ st.n := hr.pinned
        have hp2 : p < st.pin := hp'
        unfold backβ
        rw [if_pos (show p < objs.length from Nat.lt_of_lt_of_le hp2 hpn)]
        exact hr.stay p hp2
      · have hpn : st.pin ≤ st.n := hr.pinned
        rw [hn']
        exact Nat.le_trans hpn (Nat.le_add_right _ _)
    refine ⟨v, _, st', _, rfl, hrel, ?_, hkk⟩
    refine hrd.ren' (f := backN o objs.length) (fun j x hx => ?_) (fun v d h => h.mono (fun b hb => ⟨hFn b hb, rfl⟩))
    cases j with
    | zero =>
      rw [h0] at hx
      cases hx
      exact hβ o xo hxo
    | succ j =>
      show backβ objs.length β β' (objs.length + j) = some x
      unfold backβ
      rw [if_neg (by omega), show objs.length + j - objs.length + 1 = j + 1 from by omega]
      exact hx

/-- The same for a call that hands back a number or the like and makes nothing. -/
theorem call_mark {X : Ctx} {f : FuncId} {ds : List D} {env : List (Nat × D)} {nt : Nat} {objs : List Obj} {g : Nat → Option (List D)} {pin : Nat} {K : D → St → Prop} {d : D} {o' : Obj} (o : Nat)
    (ho : (Nat.blt o objs.length && rowB (objs.getD o .dead)) = true) (hc : FnC X.P f g 1 [objs.getD o .dead] (ds.map (lend1 o)) (fun d' os => d' = d ∧ os = [o'])) (hd : noH d = true)
    (hk : K d ⟨env, nt, objs.set o o', g, pin⟩) : CallS X f ds ⟨env, nt, objs, g, pin⟩ K := by
  refine call_lend o ho hc ?_
  rintro d' os ⟨rfl, rfl⟩
  refine ⟨o', [], rfl, ?_⟩
  rw [ren_noH hd, List.append_nil]
  exact hk
theorem FlatO.map {α : Type} {enc : α → List D} {l : List α} {e : TypeId} {s : Nat} (h : ∀ x, (enc x).all flat0 = true) : FlatO (.row e s (l.map enc)) := by
  intro c hc d hd
  obtain ⟨x, _, rfl⟩ := List.mem_map.1 hc
  exact List.all_eq_true.1 (h x) d hd
end Go.Eng
