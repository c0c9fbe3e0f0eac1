/-
  The engine, nineteenth part. Statements: in the order of the text, and in whatever order the model draws.
  No conditions.
-/
import Derived.Test.YthhmhmbdfahkjaaEng18
namespace Go.Eng
open Go Go.RowKit

/-! ### In the order of the text -/
def guardD (X : Ctx) (ops : Array Oper) (o : Oper) (st : St) (K : St → Prop) : Prop :=
  match o.guard with
  | none => opD X o st K
  | some (j, want) => match (ops[j]?).bind (·.dst) with
    | some t => match look st.env t with
      | .bool c => (c = want → putK st (some t) (.bool want) fun st => opD X o st K) ∧ (c = !want → putK st (some t) (.bool (!want)) fun st => putK st o.dst (.tup []) K)
      | .tup [] => putK st o.dst (.tup []) K
      | _ => False
    | none => False

noncomputable def opsD (X : Ctx) (ops : Array Oper) (l : List Oper) : St → (St → Prop) → Prop :=
  @List.rec Oper (fun _ => St → (St → Prop) → Prop) (fun st K => K st) (fun o _ ih st K => guardD X ops o st fun st' => ih st' K) l
theorem opsD_nil (X : Ctx) (ops : Array Oper) (st : St) (K : St → Prop) : opsD X ops [] st K = K st := rfl
theorem opsD_cons (X : Ctx) (ops : Array Oper) (o : Oper) (r : List Oper) (st : St) (K : St → Prop) : opsD X ops (o :: r) st K = guardD X ops o st fun st' => opsD X ops r st' K := rfl

section
variable {X : Ctx} {st : St} {β : Nat → Option Value} {a : Act} {w : World} {K : St → Prop} {Q : Exit → Act → World → Prop} {ops : Array Oper}

theorem Rel.self {t : Nat} (hr : Rel X st β a w) {d : D} (hd : look st.env t = d) : Rel X (st.put (some t) d) β a w := by
  have h2 := hr.put (some t) (v := a.tmps.getD t undef) (d := d) (by rw [← hd]; exact hr.tmps t)
  have e : a.put (some t) (a.tmps.getD t undef) = a := by
    unfold Act.put
    simp only
    congr 1
    apply Array.ext_getElem?
    intro i
    rw [Array.getElem?_setIfInBounds]
    split
    · rename_i h
      subst h
      split
      · rename_i h; simp [h]
      · rename_i h; simp [h]
    · rfl
  rwa [e] at h2

theorem rep_undef {F : Nat → Prop} {w : World} : Rep F β w undef (.tup []) := .ro _ _ (.tup [] [] rfl (fun i hi => absurd hi (by simp)))
theorem unyielded_of (hr : Rel X st β a w) {j t : Nat} (hj : (ops[j]?).bind (·.dst) = some t) (ht : look st.env t = .tup []) : yielded ops a.tmps j = none := by
  have h := hr.tmps t
  rw [ht] at h
  obtain ⟨cs, hv, hl, _⟩ := h.tup_inv
  unfold yielded
  rw [hj]
  simp only [Option.bind_some]
  cases hx : a.tmps[t]? with
  | none => rfl
  | some x =>
    have e : a.tmps.getD t undef = x := by rw [Array.getD_eq_getD_getElem?, hx]; rfl
    rw [e] at hv
    subst hv
    rfl
theorem yielded_of (hr : Rel X st β a w) {j t : Nat} {c : Bool} (hj : (ops[j]?).bind (·.dst) = some t) (ht : look st.env t = .bool c) : yielded ops a.tmps j = some c := by
  have h := hr.tmps t
  rw [ht] at h
  have hb := h.bool_inv
  have hlt : t < a.tmps.size := by
    rcases Nat.lt_or_ge t a.tmps.size with h | h
    · exact h
    · simp [h, undef] at hb
  unfold yielded
  rw [hj]
  simp only [Option.bind_some]
  have : a.tmps[t]? = some (.bool c) := by
    rw [Array.getElem?_eq_getElem hlt]
    simpa [hlt] using hb
  rw [this]

theorem opsD_sound : ∀ (l : List Oper) (st : St) (β : Nat → Option Value) (a : Act) (w : World), opsD X ops l st K → Rel X st β a w → (∀ a w, PostR X K a w → Q .normal a w) → wpList X.P ops Q l a w
  | [], st, β, a, w, h, hr, hQ => hQ a w ⟨st, β, h, hr⟩
  | o :: r, st, β, a, w, h, hr, hQ => by
    have next : ∀ a' w', PostR X (fun st' => opsD X ops r st' K) a' w' → wpList X.P ops Q r a' w' := by
      rintro a' w' ⟨st', β', hk, hr'⟩
      exact opsD_sound r st' β' a' w' hk hr' hQ
    simp only [opsD_cons, guardD] at h
    unfold wpList
    split at h
    · rename_i hg
      rw [if_pos (by simp [Region.wanted, hg])]
      exact .inl (Oper.wp_mono next (opD_sound h hr))
    · rename_i j want hg
      split at h
      · rename_i t hj
        split at h
        · rename_i c ht
          have hy := yielded_of hr hj ht
          by_cases hc : c = want
          · subst hc
            rw [if_pos (by simp [Region.wanted, hg, hy])]
            exact .inl (Oper.wp_mono next (opD_sound (putK_out (h.1 rfl)) (hr.self ht)))
          · have hc' : c = !want := by cases c <;> cases want <;> simp_all
            rw [if_neg (by simp [Region.wanted, hg, hy, hc])]
            have h2 := putK_out (putK_out (h.2 hc'))
            exact next _ _ ⟨_, β, h2, (hr.self (by rw [ht, hc'])).put _ rep_undef⟩
        · rename_i ht
          have hy := unyielded_of hr hj ht
          rw [if_neg (by simp [Region.wanted, hg, hy])]
          exact next _ _ ⟨_, β, putK_out h, hr.put _ rep_undef⟩
        · exact h.elim
      · exact h.elim

/-! ### In whatever order -/
theorem Rel.grown (hr : Rel X st β a w) {w' : World} (hg : w.grownBy w' none) : Rel X st β a w' := by
  have hsame : ∀ b, b < w.heap.size → w'.heap[b]? = w.heap[b]? := fun b hb => hg.block b hb (by simp)
  have hF : ∀ b, FX X st β w b → FX X st β w' b ∧ w'.heap[b]? = w.heap[b]? := fun b hb => ⟨⟨Nat.lt_of_lt_of_le hb.1 hg.size, hb.2.1, hb.2.2⟩, hsame b hb.1⟩
  exact ⟨hr.defers, hr.size, fun i => (hr.tmps i).mono hF (fun _ _ h => h), hr.dom, fun o hn hl => let ⟨x, hx, hw⟩ := hr.own o hn hl; ⟨x, hx, hw.mono hF (fun _ _ h => h) (fun b hb => hsame b (Own.lt hl hw b hb))⟩,
    hr.sep, hr.low, hr.kept.trans ⟨hg.os, hg.tape, hg.output, hg.size, fun k hk _ => hsame k (Nat.lt_of_lt_of_le hk hr.kept.size)⟩, fun g cs hgl => (hr.glob g cs hgl).mono hF, hr.stay, hr.pinned⟩

theorem grown_rep (hr : Rel X st β a w) {w' : World} (hg : w.grownBy w' none) {v : Value} {d : D} (h : Rep (FX X st β w) β w v d) : Rep (FX X st β w') β w' v d :=
  h.mono (fun b hb => ⟨⟨Nat.lt_of_lt_of_le hb.1 hg.size, hb.2.1, hb.2.2⟩, hg.block b hb.1 (by simp)⟩) (fun _ _ h => h)

/-- A call that leaves the caller's objects alone and hands back d. -/
@[irreducible] def CallQ (X : Ctx) (f : FuncId) (ds : List D) (st : St) (K : D → Prop) : Prop :=
  (FnOK X.P f ∧ ∃ d, K d ∧ ∀ β a w (vs : List Value), Rel X st β a w → vs.length = ds.length → (∀ i, i < ds.length → Rep (FX X st β w) β w (vs.getD i undef) (ds.getD i .junk)) →
    Calls X.P f vs.toArray w fun e w' => ∃ v, e = .returned v ∧ w.grownBy w' none ∧ Rep (FX X st β w') β w' v d) ∨ ExtS X f ds st K
theorem CallQ.mk {f : FuncId} {ds : List D} {K : D → Prop} (h0 : FnOK X.P f) (d : D) (hk : K d) (h : ∀ β a w (vs : List Value), Rel X st β a w → vs.length = ds.length → (∀ i, i < ds.length → Rep (FX X st β w) β w (vs.getD i undef) (ds.getD i .junk)) →
    Calls X.P f vs.toArray w fun e w' => ∃ v, e = .returned v ∧ w.grownBy w' none ∧ Rep (FX X st β w') β w' v d) : CallQ X f ds st K := by
  unfold CallQ; exact .inl ⟨h0, d, hk, h⟩
theorem CallQ.ext {f : FuncId} {ds : List D} {K : D → Prop} (h : ExtS X f ds st K) : CallQ X f ds st K := by
  unfold CallQ; exact .inr h
theorem CallQ.out {f : FuncId} {ds : List D} {K : D → Prop} (h : CallQ X f ds st K) : (FnOK X.P f ∧ ∃ d, K d ∧ ∀ β a w (vs : List Value), Rel X st β a w → vs.length = ds.length → (∀ i, i < ds.length → Rep (FX X st β w) β w (vs.getD i undef) (ds.getD i .junk)) →
    Calls X.P f vs.toArray w fun e w' => ∃ v, e = .returned v ∧ w.grownBy w' none ∧ Rep (FX X st β w') β w' v d) ∨ ExtS X f ds st K := by
  unfold CallQ at h; exact h

def qopD (X : Ctx) (o : Oper) (st : St) (K : D → Prop) : Prop :=
  match isPure o.op with
  | true => pureD X.P o st K
  | false => match o.op with
    | .call c => match c.callee with
      | .value f => match st.ev f with
        | .clo (.func fid) caps => CallQ X fid (c.args.toList.map st.ev ++ caps) st K
        | _ => False
      | _ => False
    | .buildSlice t len parts => qbuildD X.P t len (parts.toList.map fun p => (p.1, st.ev p.2)) K
    | _ => False

theorem grownBy_refl (w : World) : w.grownBy w none := ⟨rfl, rfl, rfl, Nat.le_refl _, fun _ _ _ => rfl⟩
/-- Operation o yields d at every machine state of st; memory grows at most. -/
def QYields (X : Ctx) (o : Oper) (st : St) (d : D) : Prop :=
  ∀ β a w (K : Act → World → Prop) (Q : Exit → Act → World → Prop), Rel X st β a w → (∀ v w', w.grownBy w' none → Rep (FX X st β w') β w' v d → K (a.put o.dst v) w') → o.wp X.P a w K Q


theorem qopD_sound {o : Oper} {K : D → Prop} (hr0 : Rel X st β a w) (h : qopD X o st K) : ∃ d, K d ∧ QYields X o st d := by
  unfold qopD at h
  generalize isPure o.op = ip at h
  cases ip with
  | true =>
    obtain ⟨d, hk, hy⟩ := pure_sound hr0 h
    refine ⟨d, hk, fun β a w K Q hr hK => ?_⟩
    obtain ⟨v, hv, hrep⟩ := hy β a w hr
    exact wp_value hv (hK v w (grownBy_refl w) hrep)
  | false =>
    simp only at h
    obtain ⟨dst, op, type, pos, after, guard⟩ := o
    cases op <;> simp only at h <;> try (exact h.elim)
    case buildSlice t len parts =>
      obtain ⟨d, hk, hd⟩ := qbuild_sound (o := ⟨dst, .buildSlice t len parts, type, pos, after, guard⟩) rfl h
      refine ⟨d, hk, fun β a w K Q hr hK => ?_⟩
      obtain ⟨v, w', hrun, hg, hv⟩ := hd β a w hr
      exact wp_value hrun (hK v w' hg hv)
    rename_i c
    obtain ⟨callee, args, argTypes⟩ := c
    cases callee with
    | invoke r m => exact h.elim
    | builtin b => exact h.elim
    | value f =>
      simp only at h
      split at h
      · rename_i fid caps hf
        have hreps : ∀ (β : Nat → Option Value) (a : Act) (w : World), Rel X st β a w → ∃ cs : List Value, a.eval f = .func (.func fid) #[] cs.toArray ∧ (args.toList.map a.eval ++ cs).length = (args.toList.map st.ev ++ caps).length ∧
            ∀ i, i < (args.toList.map st.ev ++ caps).length → Rep (FX X st β w) β w ((args.toList.map a.eval ++ cs).getD i undef) ((args.toList.map st.ev ++ caps).getD i .junk) := fun β a w hr => by
          have hef := hr.ev f
          rw [hf] at hef
          obtain ⟨cs, hv, hl, hcaps⟩ := hef.clo_inv
          refine ⟨cs, hv, by simp [hl], fun i hi => ?_⟩
          rw [List.getD_eq_getElem?_getD, List.getD_eq_getElem?_getD, List.getElem?_append, List.getElem?_append]
          simp only [List.length_map]
          by_cases h1 : i < args.toList.length
          · rw [if_pos h1, if_pos h1, List.getElem?_map, List.getElem?_map, List.getElem?_eq_getElem h1]
            exact hr.ev _
          · rw [if_neg h1, if_neg h1, ← List.getD_eq_getElem?_getD, ← List.getD_eq_getElem?_getD]
            refine hcaps _ ?_
            simp only [List.length_append, List.length_map] at hi
            omega
        have hargs : ∀ (a : Act) (cs : List Value), #[] ++ Array.map a.eval args ++ cs.toArray = (args.toList.map a.eval ++ cs).toArray := fun a cs => by
          apply Array.ext'
          simp
        rcases CallQ.out h with ⟨hok, d, hk, hcall⟩ | ⟨d, hk, hext⟩
        · refine ⟨d, hk, fun β a w K Q hr hK => ?_⟩
          obtain ⟨cs, hv, hlen, hrs⟩ := hreps β a w hr
          have hcall := hcall β a w _ hr hlen hrs
          unfold Oper.wp
          have hexec : (execOp a.eval { dst := dst, op := Op.call { callee := Callee.value f, args := args, argTypes := argTypes }, type := type, pos := pos, after := after, guard := guard }).run X.P w = .ok (.enter fid (args.toList.map a.eval ++ cs).toArray) w := by
            simp only [execOp, resolve, hv, Deferred.ofValue, invoke, Sem.run_bind, Sem.run_pure, Result.andThen_ok, hargs]
            exact hok _ _
          rw [hexec]
          simp only [Oper.upon]
          refine hcall.mono ?_
          rintro e w' ⟨v, rfl, hg, hrep⟩
          exact hK v w' hg hrep
        · refine ⟨d, hk, fun β a w K Q hr hK => ?_⟩
          obtain ⟨cs, hv, hlen, hrs⟩ := hreps β a w hr
          obtain ⟨v, hrun, hrep⟩ := hext β a w _ hr hlen hrs
          have hexec : (execOp a.eval { dst := dst, op := Op.call { callee := Callee.value f, args := args, argTypes := argTypes }, type := type, pos := pos, after := after, guard := guard }).run X.P w = .ok (.value v) w := by
            simp only [execOp, resolve, hv, Deferred.ofValue, invoke, Sem.run_bind, Sem.run_pure, Result.andThen_ok, hargs]
            exact hrun
          exact wp_value (v := v) (w' := w) hexec (hK v w (grownBy_refl w) hrep)
      · exact h.elim

/-- What an operation looks at, of a state. -/
def lookEnv (env : List (Nat × D)) : List Nat → List (Nat × D)
  | [] => []
  | t :: r => (t, look env t) :: lookEnv env r
theorem look_lookEnv (env : List (Nat × D)) : ∀ (ts : List Nat) (i : Nat), look (lookEnv env ts) i = .junk ∨ (i ∈ ts ∧ look (lookEnv env ts) i = look env i)
  | [], _ => .inl rfl
  | t :: r, i => by
    simp only [lookEnv, look]
    cases hb : Nat.beq i t with
    | true =>
      have := Nat.eq_of_beq_eq_true hb
      subst this
      exact .inr ⟨by simp, rfl⟩
    | false =>
      rcases look_lookEnv env r i with h | h
      · exact .inl h
      · exact .inr ⟨by simp [h.1], h.2⟩
def St.only (st : St) (ts : List Nat) : St := { st with env := lookEnv st.env ts }

/-- The text's order, each operation with what it looks at alone. -/
def qstepD (X : Ctx) (ops : Array Oper) (o : Oper) (st : St) (K : St → Prop) : Prop :=
  match o.guard with
    | none => qopD X o (st.only (o.looksAt ops)) fun d => force d fun d => putK st o.dst d K
    | some (j, want) => match (ops[j]?).bind (·.dst) with
      | some t => match look st.env t with
        | .bool c => (c = want → putK st (some t) (.bool want) fun st => qopD X o (st.only (o.looksAt ops)) fun d => force d fun d => putK st o.dst d K) ∧
            (c = !want → putK st (some t) (.bool (!want)) fun st => putK st o.dst (.tup []) K)
        | .tup [] => putK st o.dst (.tup []) K
        | _ => False
      | none => False
noncomputable def quietD (X : Ctx) (ops : Array Oper) (l : List Oper) : St → (St → Prop) → Prop :=
  @List.rec Oper (fun _ => St → (St → Prop) → Prop) (fun st K => K st) (fun o _ ih st K => qstepD X ops o st fun st' => ih st' K) l
theorem quietD_cons (X : Ctx) (ops : Array Oper) (o : Oper) (r : List Oper) (st : St) (K : St → Prop) : quietD X ops (o :: r) st K = qstepD X ops o st fun st' => quietD X ops r st' K := rfl
end
end Go.Eng
