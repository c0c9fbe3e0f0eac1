/-
  The engine, twenty-second part. A function from its body: the frame at its beginning, what it hands back.
  No conditions.
-/
import Derived.Test.YthhmhmbdfahkjaaEng21
namespace Go.Eng
open Go Go.RowKit

def argEnv : Nat → List D → List (Nat × D)
  | _, [] => []
  | i, d :: r => (i, d) :: argEnv (i + 1) r
theorem look_argEnv : ∀ (ds : List D) (k i : Nat), look (argEnv k ds) i = if k ≤ i then ds.getD (i - k) .junk else .junk
  | [], k, i => by simp [argEnv, look]
  | d :: r, k, i => by
    simp only [argEnv, look]
    cases hb : Nat.beq i k with
    | true =>
      have := Nat.eq_of_beq_eq_true hb
      subst this
      simp
    | false =>
      have hne : i ≠ k := fun h => by subst h; simp at hb
      simp only [cond_false, look_argEnv r (k + 1) i]
      by_cases h : k ≤ i
      · rw [if_pos h, if_pos (by omega), show i - k = (i - (k + 1)) + 1 by omega, List.getD_cons_succ]
      · rw [if_neg h, if_neg (by omega)]

/-- A handle's new number: its place in a list. -/
def pos : List Nat → Nat → Option Nat
  | [], _ => none
  | x :: r, o => bif Nat.beq x o then some 0 else (pos r o).map (· + 1)
def out0 (ids : List Nat) : D → D
  | .h o => match pos ids o with
    | some k => .h k
    | none => .junk
  | .hp _ _ => .junk
  | .hr _ _ _ _ => .junk
  | .hs _ _ _ _ => .junk
  | .agg _ => .junk
  | .tup _ => .junk
  | .clo _ _ => .junk
  | d => d
def out1 (ids : List Nat) : D → D
  | .agg cs => .agg (cs.map (out0 ids))
  | .clo g cs => .clo g (cs.map (out0 ids))
  | .tup _ => .junk
  | d => out0 ids d
def outD (ids : List Nat) : D → D
  | .tup ds => .tup (ds.map (out1 ids))
  | d => out1 ids d

theorem pos_spec : ∀ {ids : List Nat} {o k : Nat}, pos ids o = some k → ids[k]? = some o
  | x :: r, o, k, h => by
    simp only [pos] at h
    cases hb : Nat.beq x o with
    | true =>
      rw [hb] at h
      have := Nat.eq_of_beq_eq_true hb
      subst this
      simp only [cond_true, Option.some.injEq] at h
      subst h
      rfl
    | false =>
      rw [hb] at h
      simp only [cond_false] at h
      cases hp : pos r o with
      | none => rw [hp] at h; cases h
      | some j =>
        rw [hp] at h
        simp only [Option.map_some, Option.some.injEq] at h
        subst h
        rw [List.getElem?_cons_succ]
        exact pos_spec hp

section
variable {F F' : Nat → Prop} {β β' : Nat → Option Value} {w : World} {ids : List Nat} (hβ : ∀ (o k : Nat) (x : Value), ids[k]? = some o → β o = some x → β' k = some x) (hro : ∀ v d, RO F w v d → RO F' w v d)
include hβ hro
theorem Rep.out0' {v : Value} {d : D} (h : Rep F β w v d) : Rep F' β' w v (out0 ids d) := by
  cases h with
  | ro x d h => cases d <;> simp only [Eng.out0] <;> first | exact .ro _ _ (.junk _) | exact .ro _ _ (hro _ _ h) | cases h
  | h o x h =>
    simp only [Eng.out0]
    cases hp : pos ids o with
    | none => exact .ro _ _ (.junk _)
    | some k => exact .h _ _ (hβ o k _ (pos_spec hp) h)
  | hp => exact .ro _ _ (.junk _)
  | hr => exact .ro _ _ (.junk _)
  | hs => exact .ro _ _ (.junk _)
  | agg => exact .ro _ _ (.junk _)
  | tup => exact .ro _ _ (.junk _)
  | clo => exact .ro _ _ (.junk _)
theorem Rep.out1' {v : Value} {d : D} (h : Rep F β w v d) : Rep F' β' w v (out1 ids d) := by
  cases d with
  | agg ds =>
    obtain ⟨cs, rfl, hl, h1, hr⟩ := h.agg_inv
    refine .agg _ _ (by simp [hl]) h1 (fun i hi => ?_)
    rw [getD_map_junk _ rfl]
    exact (hr i (by simpa using hi)).out0' hβ hro
  | clo g ds =>
    obtain ⟨cs, rfl, hl, hr⟩ := h.clo_inv
    refine .clo _ _ _ (by simp [hl]) (fun i hi => ?_)
    rw [getD_map_junk _ rfl]
    exact (hr i (by simpa using hi)).out0' hβ hro
  | tup ds => exact .ro _ _ (.junk _)
  | _ => exact h.out0' hβ hro
theorem Rep.outD' {v : Value} {d : D} (h : Rep F β w v d) : Rep F' β' w v (outD ids d) := by
  cases d with
  | tup ds =>
    obtain ⟨cs, rfl, hl, hr⟩ := h.tup_inv
    refine .tup _ _ (by simp [hl]) (fun i hi => ?_)
    rw [getD_map_junk _ rfl]
    exact (hr i (by simpa using hi)).out1' hβ hro
  | _ => exact h.out1' hβ hro
end

/-- What a function hands back. -/
@[irreducible] def RetS (X : Ctx) (G : Nat → Option (List D)) (pin : Nat) (st : St) (d : D) (post : D → List Obj → Prop) : Prop :=
  ∀ β a w v, Rel X st β a w → Rep (FX X st β w) β w v d →
    ∃ d' os' β', WRel X (stOf os' G pin) β' w ∧ Rep (FX X (stOf os' G pin) β' w) β' w v d' ∧ (∀ o ∈ os', o.plain) ∧ post d' os'
theorem RetS.mk {X : Ctx} {G : Nat → Option (List D)} {pin : Nat} {st : St} {d : D} {post : D → List Obj → Prop} (h : ∀ β a w v, Rel X st β a w → Rep (FX X st β w) β w v d →
    ∃ d' os' β', WRel X (stOf os' G pin) β' w ∧ Rep (FX X (stOf os' G pin) β' w) β' w v d' ∧ (∀ o ∈ os', o.plain) ∧ post d' os') : RetS X G pin st d post := by unfold RetS; exact h
theorem RetS.use {X : Ctx} {G : Nat → Option (List D)} {pin : Nat} {st : St} {d : D} {post : D → List Obj → Prop} (h : RetS X G pin st d post) : ∀ β a w v, Rel X st β a w → Rep (FX X st β w) β w v d →
    ∃ d' os' β', WRel X (stOf os' G pin) β' w ∧ Rep (FX X (stOf os' G pin) β' w) β' w v d' ∧ (∀ o ∈ os', o.plain) ∧ post d' os' := by unfold RetS at h; exact h

def plainB : Obj → Bool
  | .box _ => false
  | .frame _ _ => false
  | .blk _ _ _ _ => false
  | _ => true
def nodupB : List Nat → Bool
  | [] => true
  | x :: r => !r.contains x && nodupB r
theorem nodupB_spec : ∀ {l : List Nat}, nodupB l = true → ∀ i j x : Nat, l[i]? = some x → l[j]? = some x → i = j
  | [], _, i, j, x, h, _ => by simp at h
  | y :: r, hn, i, j, x, hi, hj => by
    simp only [nodupB, Bool.and_eq_true, Bool.not_eq_true', List.contains_eq_mem, decide_eq_false_iff_not] at hn
    cases i with
    | zero =>
      cases j with
      | zero => rfl
      | succ j =>
        have : y = x := by simpa using hi
        subst this
        exact absurd (List.mem_of_getElem? (by simpa using hj)) hn.1
    | succ i =>
      cases j with
      | zero =>
        have : y = x := by simpa using hj
        subst this
        exact absurd (List.mem_of_getElem? (by simpa using hi)) hn.1
      | succ j =>
        have := nodupB_spec hn.2 i j x (by simpa using hi) (by simpa using hj)
        omega

/-- The objects of ids go with the result, in that order. -/
theorem ret_pick {X : Ctx} {G : Nat → Option (List D)} {pin : Nat} {st : St} {d : D} {post : D → List Obj → Prop} (ids : List Nat) (hg : st.g = G) (hpn : st.pin = pin)
    (hB : (nodupB ids && ids.all (fun o => Nat.blt o st.n && plainB (st.obj o)) && Nat.ble st.pin ids.length && (List.range st.pin).all (fun k => ids[k]? == some k)) = true)
    (hp : post (outD ids d) (ids.map st.obj)) : RetS X G pin st d post := by
  subst hg hpn
  simp only [Bool.and_eq_true] at hB
  obtain ⟨⟨⟨h1, h2⟩, h3⟩, h4⟩ := hB
  have h3 : st.pin ≤ ids.length := by simpa using h3
  have hid : ∀ k o : Nat, ids[k]? = some o → o < st.n ∧ (st.obj o).plain := by
    intro k o hk
    have := List.all_eq_true.1 h2 o (List.mem_of_getElem? hk)
    simp only [Bool.and_eq_true, Nat.blt_eq] at this
    refine ⟨this.1, ?_⟩
    cases ho : st.obj o with
    | box cs => rw [ho] at this; cases this.2
    | frame vs e => rw [ho] at this; cases this.2
    | blk e s cs c => rw [ho] at this; cases this.2
    | _ => trivial
  refine RetS.mk fun β a w v hr hv => ?_
  let β' : Nat → Option Value := fun k => match ids[k]? with
    | some o => β o
    | none => none
  have hβ' : ∀ (k : Nat) (x : Value), β' k = some x → ∃ o : Nat, ids[k]? = some o ∧ β o = some x := by
    intro k x h
    simp only [β'] at h
    cases hk : ids[k]? with
    | none => rw [hk] at h; cases h
    | some o => rw [hk] at h; exact ⟨o, rfl, h⟩
  have hβ2 : ∀ (o k : Nat) (x : Value), ids[k]? = some o → β o = some x → β' k = some x := by
    intro o k x hk h
    simp only [β', hk]
    exact h
  have hob : ∀ k : Nat, (stOf (ids.map st.obj) st.g st.pin).obj k = match ids[k]? with | some o => st.obj o | none => .dead := by
    intro k
    simp only [stOf, St.obj, List.getD_eq_getElem?_getD, List.getElem?_map]
    cases ids[k]? <;> rfl
  have hn : (stOf (ids.map st.obj) st.g st.pin).n = ids.length := by simp [stOf, St.n]
  have hF : ∀ b, FX X st β w b → FX X (stOf (ids.map st.obj) st.g st.pin) β' w b ∧ w.heap[b]? = w.heap[b]? := by
    intro b hb
    refine ⟨⟨hb.1, hb.2.1, fun k _ _ x hx => ?_⟩, rfl⟩
    obtain ⟨o, _, ho⟩ := hβ' k x hx
    exact hb.2.2 o (hr.dom o x ho).1 (hr.dom o x ho).2 x ho
  refine ⟨outD ids d, ids.map st.obj, β', ⟨fun k x hx => ?_, fun k hk hl => ?_, fun k k' x x' b hx hx' hb hb' => ?_, fun k x b hx hb => ?_, hr.kept, fun g cs hg => (hr.glob g cs hg).mono hF, fun k hk => ?_, by rw [hn]; exact h3⟩, hv.outD' hβ2 (fun v d h => h.mono hF), fun o ho => ?_, hp⟩
  · obtain ⟨o, hk, ho⟩ := hβ' k x hx
    rw [hn, hob, hk]
    exact ⟨(List.getElem?_eq_some_iff.1 hk).1, (hr.dom o x ho).2⟩
  · rw [hn] at hk
    have hk' : ids[k]? = some ids[k] := List.getElem?_eq_getElem hk
    rw [hob, hk'] at hl ⊢
    obtain ⟨x, hx, hw⟩ := hr.own _ (hid k _ hk').1 hl
    exact ⟨x, hβ2 _ k x hk' hx, Own.plain_mono hF (hid k _ hk').2 (fun _ _ => rfl) hw⟩
  · obtain ⟨o, hk, ho⟩ := hβ' k x hx
    obtain ⟨o', hk', ho'⟩ := hβ' k' x' hx'
    have := hr.sep o o' x x' b ho ho' hb hb'
    subst this
    exact nodupB_spec h1 k k' o hk hk'
  · obtain ⟨o, hk, ho⟩ := hβ' k x hx
    exact hr.low o x b ho hb
  · have hk' : k < st.pin := hk
    have := List.all_eq_true.1 h4 k (List.mem_range.2 hk')
    have hkk : ids[k]? = some k := by simpa using this
    simp only [β', hkk]
    exact hr.stay k hk'
  · obtain ⟨i, hi, rfl⟩ := List.mem_map.1 ho
    obtain ⟨k, hk⟩ := List.mem_iff_getElem?.1 hi
    exact (hid k i hk).2

/-- The value of a result variable. -/
def resK (P : Program) (st : St) : List ResultVar → (List D → Prop) → Prop
  | [], K => K []
  | .tmp t :: r, K => force (look st.env t) fun d => resK P st r fun l => K (d :: l)
  | .cell a t :: r, K => ptrLoad P st t (look st.env a) fun d => force d fun d => resK P st r fun l => K (d :: l)
def resD (P : Program) (st : St) (rs : List ResultVar) (K : D → Prop) : Prop :=
  resK P st rs fun l => match l with
    | [d] => K d
    | l => K (.tup l)

def resV (tmps : Array Value) : ResultVar → Sem Value
  | .tmp t => Pure.pure (tmps.getD t undef)
  | .cell b t => do loadVar t (← asAddr (tmps.getD b undef))
theorem results_eq (fn : Func) (tmps : Array Value) : results fn tmps = (do
    let vs ← fn.results.mapM (resV tmps)
    Pure.pure (if h : vs.size = 1 then vs[0] else .tuple vs)) := by
  unfold results
  congr 2

theorem resK_out {X : Ctx} {st : St} : ∀ {rs : List ResultVar} {K : List D → Prop}, resK X.P st rs K →
    ∃ ds, K ds ∧ ds.length = rs.length ∧ ∀ β a w, Rel X st β a w → ∃ vs : List Value, vs.length = ds.length ∧ (∀ i, i < ds.length → Rep (FX X st β w) β w (vs.getD i undef) (ds.getD i .junk)) ∧
      (rs.mapM (resV a.tmps)).run X.P w = .ok vs w
  | [], K, h => ⟨[], h, rfl, fun β a w _ => ⟨[], rfl, fun i hi => by simp at hi, by simp⟩⟩
  | .tmp t :: r, K, h => by
    obtain ⟨ds, hk, hl, hr⟩ := resK_out (rs := r) (force_out h)
    refine ⟨_, hk, by simp [hl], fun β a w hrel => ?_⟩
    obtain ⟨vs, hvl, hrep, hrun⟩ := hr β a w hrel
    refine ⟨a.tmps.getD t undef :: vs, by simp [hvl], fun i hi => ?_, ?_⟩
    · cases i with
      | zero => exact hrel.tmps t
      | succ i => exact hrep i (by simpa using hi)
    · simp only [List.mapM_cons, resV, Sem.run_bind, Sem.run_pure, Result.andThen_ok, hrun]
  | .cell b t :: r, K, h => by
    have h2 : ptrLoad X.P st t (st.ev (.tmp b)) fun d => force d fun d => resK X.P st r fun l => K (d :: l) := h
    obtain ⟨d, hd, hload⟩ := ptrLoad_sound h2
    obtain ⟨ds, hk, hl, hr⟩ := resK_out (rs := r) (force_out hd)
    refine ⟨_, hk, by simp [hl], fun β a w hrel => ?_⟩
    obtain ⟨vs, hvl, hrep, hrun⟩ := hr β a w hrel
    obtain ⟨v, hv, hvrep⟩ := hload β a w hrel
    refine ⟨v :: vs, by simp [hvl], fun i hi => ?_, ?_⟩
    · cases i with
      | zero => exact hvrep
      | succ i => exact hrep i (by simpa using hi)
    · have hv2 : (do loadVar t (← asAddr (a.tmps.getD b undef)) : Sem Value).run X.P w = .ok v w := by
        simp only [Act.eval, Instr.loadAt, Sem.run_bind] at hv ⊢
        generalize a.tmps.getD b undef = p at hv ⊢
        cases p <;> simp only [Instr.sureAddr, asAddr, run_stuck, Result.andThen_halt] at hv ⊢ <;> try (cases hv; done)
        rename_i q
        cases q <;> simp only [Instr.sureAddr, asAddr, run_stuck, Result.andThen_halt] at hv ⊢ <;> first | (cases hv; done) | exact hv
      simp only [List.mapM_cons, resV, Sem.run_bind, Sem.run_pure] at hv2 ⊢
      rw [hv2]
      simp only [Result.andThen_ok, hrun]

def RetQ (X : Ctx) (G : Nat → Option (List D)) (pin : Nat) (rs : List ResultVar) (post : D → List Obj → Prop) : DExit → St → Prop
  | .normal, st => resD X.P st rs fun d => RetS X G pin st d post
  | .ret, st => resD X.P st rs fun d => RetS X G pin st d post
  | .exit _, _ => False

theorem callFunc_enter {P : Program} {f : FuncId} {fn : Func} (hf : P.funcs[f]? = some fn) (hb : fn.body.isNone = false) (hname : (fn.name == "runtime.NumGoroutine") = false) : FnOK P f := by
  intro args w
  simp only [callFunc, Sem.run_bind, run_program, Result.andThen_ok, hf, hname, hb, Bool.false_eq_true, if_false, Sem.run_pure]

theorem resD_out {X : Ctx} {st : St} {fn : Func} {K : D → Prop} (h : resD X.P st fn.results.toList K) :
    ∃ d, K d ∧ ∀ β a w, Rel X st β a w → ∃ v, (results fn a.tmps).run X.P w = .ok v w ∧ Rep (FX X st β w) β w v d := by
  unfold resD at h
  obtain ⟨ds, hk, hl, hr⟩ := resK_out h
  have hres : ∀ (tmps : Array Value) (vs : List Value) (w : World), (fn.results.toList.mapM (resV tmps)).run X.P w = .ok vs w →
      (results fn tmps).run X.P w = .ok (if h : vs.toArray.size = 1 then vs.toArray[0] else .tuple vs.toArray) w := by
    intro tmps vs w hv
    rw [results_eq, Array.mapM_eq_mapM_toList, Sem.run_bind, Sem.run_map]
    rw [hv]
    rfl
  split at hk
  · rename_i d
    refine ⟨d, hk, fun β a w hrel => ?_⟩
    obtain ⟨vs, hvl, hrep, hrun⟩ := hr β a w hrel
    match vs, hvl with
    | [v], _ =>
      exact ⟨v, by rw [hres _ _ _ hrun]; rfl, hrep 0 (by simp)⟩
  · rename_i l hne
    refine ⟨_, hk, fun β a w hrel => ?_⟩
    obtain ⟨vs, hvl, hrep, hrun⟩ := hr β a w hrel
    have h1 : vs.toArray.size ≠ 1 := by
      intro h
      match ds, hne, hvl with
      | [d], hne, _ => exact hne d rfl
      | [], _, hvl => simp at hvl; simp [hvl] at h
      | _ :: _ :: _, _, hvl => simp at hvl h; omega
    exact ⟨.tuple vs.toArray, by rw [hres _ _ _ hrun, dif_neg h1], .tup _ _ hvl hrep⟩

/-- A function from its body. -/
theorem fn_rule {P : Program} {f : FuncId} {fn : Func} {c : Code} (hf : P.funcs[f]? = some fn) (hb : fn.body = some c) (hname : (fn.name == "runtime.NumGoroutine") = false)
    {G : Nat → Option (List D)} {pin : Nat} {os : List Obj} {ds : List D} {post : D → List Obj → Prop} (hlen : Nat.ble ds.length fn.ntmps = true)
    (h : ∀ w0 F0 lent β0, awp ⟨P, w0, F0, lent, β0⟩ c (RetQ ⟨P, w0, F0, lent, β0⟩ G pin fn.results.toList post) ⟨argEnv 0 ds, fn.ntmps, os, G, pin⟩) : FnC P f G pin os ds post := by
  refine ⟨callFunc_enter hf (by rw [hb]; rfl) hname, fun X β w vs hP hw0 hβ0 hW hl hrep => ?_⟩
  obtain ⟨P', w0, F0, lent, β0⟩ := X
  have hP : P' = P := hP
  subst hP
  let X : Ctx := ⟨P', w0, F0, lent, β0⟩
  have hW : WRel X (stOf os G pin) β w := hW
  have hlen : ds.length ≤ fn.ntmps := by simpa using hlen
  refine calls_of_wp hf hb ?_
  have hrel : Rel X ⟨argEnv 0 ds, fn.ntmps, os, G, pin⟩ β { tmps := vs.toArray ++ Array.replicate (fn.ntmps - vs.toArray.size) undef, defers := [] } w := by
    refine (hW.same (st' := ⟨argEnv 0 ds, fn.ntmps, os, G, pin⟩) rfl rfl rfl).toRel rfl (by simp [hl]; omega) (fun i => ?_)
    have hF : FX X ⟨argEnv 0 ds, fn.ntmps, os, G, pin⟩ β w = FX X (stOf os G pin) β w := FX.same (X := X) rfl β w
    rw [hF]
    show Rep _ β w _ (look (argEnv 0 ds) i)
    rw [look_argEnv, if_pos (Nat.zero_le _), Nat.sub_zero]
    by_cases hi : i < ds.length
    · have hi' : i < vs.length := by omega
      have e : (vs.toArray ++ Array.replicate (fn.ntmps - vs.toArray.size) undef).getD i undef = vs.getD i undef := by
        simp [List.getD_eq_getElem?_getD, Array.getElem?_append, hi']
      show Rep _ β w ((vs.toArray ++ Array.replicate (fn.ntmps - vs.toArray.size) undef).getD i undef) _
      rw [e]
      exact hrep i hi
    · have : ds.getD i .junk = .junk := by simp [List.getD_eq_getElem?_getD, List.getElem?_eq_none (by omega : ds.length ≤ i)]
      rw [this]
      exact .ro _ _ (.junk _)
  have fin : ∀ (st : St) (a : Act) (w' : World) (β' : Nat → Option Value), resD X.P st fn.results.toList (fun d => RetS X G pin st d post) → Rel X st β' a w' →
      a.defers = [] ∧ ∃ v, (results fn a.tmps).run X.P w' = .ok v w' ∧ ∃ v' d os' β', Ending.returned v = .returned v' ∧ WRel X (stOf os' G pin) β' w' ∧ Rep (FX X (stOf os' G pin) β' w') β' w' v' d ∧ (∀ o ∈ os', o.plain) ∧ post d os' := by
    intro st a w' β' hk hr
    obtain ⟨d, hd, hres⟩ := resD_out hk
    obtain ⟨v, hv, hrep⟩ := hres β' a w' hr
    obtain ⟨d', os', β2, g1, g2, g3, g4⟩ := RetS.use hd β' a w' v hr hrep
    exact ⟨hr.defers, v, hv, v, d', os', β2, rfl, g1, g2, g3, g4⟩
  refine Code.wp_mono ?_ (awp_sound X c _ _ (h w0 F0 lent β0) β _ w hrel)
  intro e a' w' hq
  cases e with
  | normal => obtain ⟨st, β', hk, hr⟩ := hq; exact fin st a' w' β' hk hr
  | ret => obtain ⟨st, β', hk, hr⟩ := hq; exact fin st a' w' β' hk hr
  | exit i => obtain ⟨st, β', hk, hr⟩ := hq; exact hk.elim
  | goto l => exact hq.elim
  | panic c => exact hq.elim
  | outgrown => exact hq.elim
end Go.Eng
