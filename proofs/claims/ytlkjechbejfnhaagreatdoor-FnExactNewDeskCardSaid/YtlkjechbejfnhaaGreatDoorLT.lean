/-
  The engine, fiftieth part. A statement whose order is open: operations that only read, memory that is made at some time among them, and one that stores at the end.
  No conditions.
-/
import Derived.Test.YtlkjechbejfnhaaGreatDoorED
set_option linter.unusedVariables false
set_option linter.unusedSimpArgs false
namespace Go.Eng
open Go Go.RowKit

/-- Data that leave no choice of the value. -/
def fun0 : D → Bool
  | .int _ _ => true
  | .str _ => true
  | .bool _ => true
  | _ => false
def funD : D → Bool
  | .agg cs => cs.all fun0
  | d => fun0 d
theorem fun0_eq {F F' : Nat → Prop} {β β' : Nat → Option Value} {w w' : World} {v v' : Value} {d : D} (h : fun0 d = true) (h1 : Rep F β w v d) (h2 : Rep F' β' w' v' d) : v = v' := by
  cases d with
  | int k n => rw [h1.int_inv, h2.int_inv]
  | str l => rw [h1.str_inv, h2.str_inv]
  | bool b => rw [h1.bool_inv, h2.bool_inv]
  | _ => cases h
theorem funD_eq {F F' : Nat → Prop} {β β' : Nat → Option Value} {w w' : World} {v v' : Value} {d : D} (h : funD d = true) (h1 : Rep F β w v d) (h2 : Rep F' β' w' v' d) : v = v' := by
  by_cases ha : ∃ cs, d = .agg cs
  · obtain ⟨ds, rfl⟩ := ha
    obtain ⟨cs, rfl, hl, _, hr⟩ := h1.agg_inv
    obtain ⟨cs', rfl, hl', _, hr'⟩ := h2.agg_inv
    have : cs = cs' := by
      apply List.ext_getElem (by omega)
      intro i hi hi'
      have hid : i < ds.length := by omega
      have e1 := hr i hid
      have e2 := hr' i hid
      have hf : fun0 (ds.getD i .junk) = true := by
        have := List.all_eq_true.1 h (ds[i]) (List.getElem_mem hid)
        simpa [List.getD_eq_getElem?_getD, hid] using this
      have := fun0_eq hf e1 e2
      simpa [List.getD_eq_getElem?_getD, hi, hi'] using this
    rw [this]
  · refine fun0_eq ?_ h1 h2
    cases d with
    | agg cs => exact absurd ⟨cs, rfl⟩ ha
    | _ => exact h
/-- What, where it succeeds, neither looks at the world nor changes it. -/
def soft {α : Type} (s : Sem α) : Prop := ∀ (P : Program) (v : α) (w w1 : World), s.run P w = .ok v w1 → ∀ w2, s.run P w2 = .ok v w2
def dead {α : Type} (s : Sem α) : Prop := ∀ (P : Program) (v : α) (w w1 : World), s.run P w ≠ .ok v w1
theorem dead.soft {α : Type} {s : Sem α} (h : dead s) : soft s := fun P v w w1 hr => absurd hr (h P v w w1)
theorem bind_ok {α γ : Type} {f : α → Sem γ} {P : Program} {v : γ} {w w1 : World} {s : Sem α} (h : (s.bind f).run P w = .ok v w1) : ∃ a w', s.run P w = .ok a w' ∧ (f a).run P w' = .ok v w1 := by
  have e : (s >>= f).run P w = .ok v w1 := h
  rw [Sem.run_bind] at e
  cases hs : s.run P w with
  | ok a w' => rw [hs] at e; exact ⟨a, w', rfl, e⟩
  | halt x w' => rw [hs] at e; cases e
theorem soft_bind {α γ : Type} {f : α → Sem γ} {s : Sem α} (hs : soft s) (hf : ∀ a, soft (f a)) : soft (s >>= f) := by
  intro P v w w1 h w2
  obtain ⟨a, w', h1, h2⟩ := bind_ok h
  have e1 := hs P a w w' h1 w2
  have e2 := hf a P v w' w1 h2 w2
  rw [Sem.run_bind, e1]
  exact e2
theorem dead_bind {α γ : Type} {f : α → Sem γ} {s : Sem α} (hf : ∀ a, dead (f a)) : dead (s >>= f) := by
  intro P v w w1 h
  obtain ⟨a, w', _, h2⟩ := bind_ok h
  exact hf a P v w' w1 h2
theorem soft_pure {α : Type} (a : α) : soft (pure a : Sem α) := by
  intro P v w w1 h w2
  have : a = v := by
    have h' : Result.ok a w = Result.ok v w1 := h
    cases h'
    rfl
  subst this
  rfl
theorem dead_halt {α : Type} (x : Halt) : dead (Sem.halt x : Sem α) := by
  intro P v w w1 h
  have h' : (Result.halt x w : Result α) = Result.ok v w1 := h
  cases h'
theorem soft_program : soft program := by
  intro P v w w1 h w2
  have h' : Result.ok P w = Result.ok v w1 := h
  cases h'
  rfl
theorem soft_under (t : TypeId) : soft (underlying t) := by
  unfold underlying
  refine soft_bind soft_program fun p => ?_
  split
  · exact soft_pure _
  · exact (dead_halt _).soft
theorem soft_size (t : TypeId) : soft (sizeOf t) := by
  unfold sizeOf typeInfo
  refine soft_bind (soft_bind soft_program fun p => ?_) fun i => soft_pure _
  split
  · exact soft_pure _
  · exact (dead_halt _).soft
theorem dead_bounds {α : Type} (k : IntKind) (x y : Int) (c : BoundsCode) : dead (boundsPanic k x y c : Sem α) := by
  have hr : ∀ s : Bool, dead (runtimePanic (.bounds (IntKind.i64.wrap x) y s c) : Sem α) := fun s => by
    unfold runtimePanic
    exact dead_bind fun p => dead_halt _
  unfold boundsPanic
  dsimp only
  split <;> exact dead_bind fun signed => hr _
theorem soft_asInt (v : Value) : soft (asIntOf v) := by
  unfold asIntOf
  split
  · exact soft_pure _
  · exact (dead_halt _).soft
  · exact (dead_halt _).soft
theorem soft_addr (v : Value) : soft (Instr.sureAddr v) := by
  unfold Instr.sureAddr
  split
  · exact soft_pure _
  · exact (dead_halt _).soft
theorem soft_index (t : TypeId) (x ix : Value) : soft (Instr.indexAt t x ix) := by
  unfold Instr.indexAt
  refine soft_bind (soft_asInt _) fun ki => soft_bind (soft_under _) fun u => ?_
  repeat' (first | exact soft_pure _ | exact (dead_halt _).soft | exact (dead_bounds _ _ _ _).soft | exact soft_size _ | exact soft_under _ | exact soft_addr _ | refine soft_bind ?_ (fun _ => ?_) | split | (dsimp only; split))
/-- Operations that hand on the same in every world. -/
def uniKind : Op → Bool
  | .move _ => true
  | .assign _ => true
  | .indexAddr _ _ _ => true
  | _ => false
theorem uni_run {o : Oper} {ρ : Operand → Value} {P : Program} {v : Value} {w w1 : World} (ho : uniKind o.op = true) (h : (execOp ρ o).run P w = .ok (.value v) w1) (w2 : World) : (execOp ρ o).run P w2 = .ok (.value v) w2 := by
  have hs : soft (execOp ρ o) := by
    obtain ⟨dst, op, ty, pos, after, guard⟩ := o
    cases op with
    | move x => exact soft_pure _
    | assign x => exact soft_pure _
    | indexAddr t x ix => exact soft_bind (soft_index t (ρ x) (ρ ix)) fun v => soft_pure _
    | _ => cases ho
  exact hs P _ w w1 h w2

def PStep (X : Ctx) (ops : Array Oper) (s : St) (o : Oper) (d : D) (s' : St) : Prop := s' = s.put o.dst d ∧ Yields X o (s.only (o.looksAt ops)) d
section
variable {X : Ctx} {ops : Array Oper}
theorem PStep.toQ {s s' : St} {o : Oper} {d : D} (hg : o.guard = none) (h : PStep X ops s o d s') : StepQ X ops s o d s' :=
  ⟨s, ⟨rfl, rfl, rfl, rfl, fun _ => rfl⟩, h.1, .inl ⟨hg, fun β a w K Q hr hK => by
    obtain ⟨v, hv, hrep⟩ := h.2 β a w hr
    exact wp_value hv (hK v w (grownBy_refl w) hrep)⟩⟩
theorem pure_extract : ∀ (l : List Oper) (st : St) (K : St → Prop), (∀ o ∈ l, o.guard = none ∧ isPure o.op = true) → quietD X ops l st K → (∃ β a w, Rel X st β a w) →
    ∃ (ds : Nat → D) (sts : Nat → St), sts 0 = st ∧ K (sts l.length) ∧ ∀ i o, l[i]? = some o → PStep X ops (sts i) o (ds i) (sts (i + 1))
  | [], st, K, _, h, _ => ⟨fun _ => .junk, fun _ => st, rfl, h, fun i o hi => by simp at hi⟩
  | o :: r, st, K, hl, h, ⟨β, a, w, hr⟩ => by
    obtain ⟨hg, hp⟩ := hl o (by simp)
    rw [quietD_cons] at h
    unfold qstepD at h
    rw [hg] at h
    simp only at h
    unfold qopD at h
    rw [hp] at h
    simp only at h
    obtain ⟨d, hk, hy⟩ := pure_sound (hr.only _) h
    obtain ⟨v, hv, hrep⟩ := hy β a w (hr.only _)
    have hF : FX X (st.only (o.looksAt ops)) β w = FX X st β w := FX.same (X := X) rfl β w
    rw [hF] at hrep
    obtain ⟨ds, sts, h0, hK, hst⟩ := pure_extract r _ K (fun o' ho' => hl o' (by simp [ho'])) (putK_out (force_out hk)) ⟨β, _, w, hr.put o.dst hrep⟩
    refine ⟨fun i => match i with | 0 => d | i + 1 => ds i, fun i => match i with | 0 => st | i + 1 => sts i, rfl, hK, fun i o' hi => ?_⟩
    cases i with
    | zero =>
      have : o' = o := by simpa using hi.symm
      subst this
      exact ⟨h0, hy⟩
    | succ i => exact hst i o' (by simpa using hi)
theorem least_of {p : Nat → Prop} : ∀ m, p m → ∃ k, p k ∧ ∀ j, j < k → ¬ p j := by
  intro m
  induction m using Nat.strongRecOn with
  | _ m ih =>
    intro h
    by_cases hc : ∃ j, j < m ∧ p j
    · obtain ⟨j, hj, hp⟩ := hc
      exact ih j hj hp
    · exact ⟨m, h, fun j hj hp => hc ⟨j, hj, hp⟩⟩
def lateB (ops : Array Oper) (n tA : Nat) : Bool :=
  Nat.beq ops.size (n + 2) &&
  ((List.range ops.size).all fun i => match ops[i]? with
    | some o => o.guard.isNone && notSelect o.op && (o.after.all fun e => !Region.binds .any e || Nat.blt e.on i)
    | none => true) &&
  ((List.range n).all fun i => match ops[i]? with
    | some o => isPure o.op && !(o.looksAt ops).contains tA && (o.dst != some tA)
    | none => false) &&
  ((List.range n).all fun i => (List.range n).all fun k => match ops[i]?, ops[k]? with
    | some oi, some ok => match ok.dst with
      | some t => (Nat.beq i k || oi.dst != some t) && (!(oi.looksAt ops).contains t || (Nat.blt k i && Region.waitsFor .any ops i k))
      | none => true
    | _, _ => true) &&
  (match ops[n]? with
    | some o => (match o.op with
      | .alloc _ => true
      | _ => false) && o.dst == some tA
    | none => false) &&
  ((List.range (n + 1)).all fun i => Region.waitsFor .any ops (n + 1) i)
structure LateC (ops : Array Oper) (n tA : Nat) : Prop where
  size : ops.size = n + 2
  plain : ∀ (i : Nat) (o : Oper), ops[i]? = some o → o.guard = none ∧ notSelect o.op = true
  edge : ∀ (i : Nat) (o : Oper), ops[i]? = some o → ∀ e ∈ o.after, Region.binds .any e = true → e.on < i
  pure : ∀ (i : Nat) (o : Oper), i < n → ops[i]? = some o → isPure o.op = true ∧ tA ∉ o.looksAt ops ∧ o.dst ≠ some tA
  dep : ∀ (i k : Nat) (oi ok : Oper) (t : Nat), i < n → k < n → ops[i]? = some oi → ops[k]? = some ok → ok.dst = some t → (i = k ∨ oi.dst ≠ some t) ∧ (t ∈ oi.looksAt ops → k < i ∧ Region.waitsFor .any ops i k = true)
  made : ∃ (o : Oper) (t : TypeId), ops[n]? = some o ∧ o.op = .alloc t ∧ o.dst = some tA
  last : ∀ i, i ≤ n → Region.waitsFor .any ops (n + 1) i = true
theorem lateB_spec {n tA : Nat} (h : lateB ops n tA = true) : LateC ops n tA := by
  unfold lateB at h
  simp only [Bool.and_eq_true] at h
  obtain ⟨⟨⟨⟨⟨h1, h2⟩, h3⟩, h4⟩, h5⟩, h6⟩ := h
  refine ⟨Nat.eq_of_beq_eq_true h1, fun i o hi => ?_, fun i o hi e he hb => ?_, fun i o hi ho => ?_, fun i k oi ok t hi hk hoi hok hd => ?_, ?_, fun i hi => List.all_eq_true.1 h6 i (List.mem_range.2 (by omega))⟩
  · have hlt : i < ops.size := (Array.getElem?_eq_some_iff.1 hi).1
    have := List.all_eq_true.1 h2 i (List.mem_range.2 hlt)
    rw [hi] at this
    simp only [Bool.and_eq_true, Option.isNone_iff_eq_none] at this
    exact this.1
  · have hlt : i < ops.size := (Array.getElem?_eq_some_iff.1 hi).1
    have := List.all_eq_true.1 h2 i (List.mem_range.2 hlt)
    rw [hi] at this
    simp only [Bool.and_eq_true] at this
    have := Array.all_eq_true_iff_forall_mem.1 this.2 e he
    simpa [hb, Nat.blt_eq] using this
  · have := List.all_eq_true.1 h3 i (List.mem_range.2 hi)
    rw [ho] at this
    simp only [Bool.and_eq_true, Bool.not_eq_true', List.contains_eq_mem, decide_eq_false_iff_not, bne_iff_ne, ne_eq] at this
    exact ⟨this.1.1, this.1.2, this.2⟩
  · have := List.all_eq_true.1 (List.all_eq_true.1 h4 i (List.mem_range.2 hi)) k (List.mem_range.2 hk)
    rw [hoi, hok] at this
    simp only [hd] at this
    simp only [Bool.and_eq_true, Bool.or_eq_true, bne_iff_ne, ne_eq, Nat.blt_eq, Bool.not_eq_true', List.contains_eq_mem, decide_eq_false_iff_not] at this
    exact ⟨this.1.imp Nat.eq_of_beq_eq_true id, fun ht => this.2.resolve_left (fun h => h ht)⟩
  · split at h5
    · rename_i o ho
      simp only [Bool.and_eq_true, beq_iff_eq] at h5
      obtain ⟨h7, h8⟩ := h5
      split at h7
      · rename_i t ht
        exact ⟨o, t, ho, ht, h8⟩
      · cases h7
    · cases h5
theorem Mid.step {n : Nat} {s0 : St} {ds : Nat → D} {listed : Array Bool} {β : Nat → Option Value} {a : Act} {w : World} (hm : Mid X ops n s0 ds listed β a w) {j : Nat} {o : Oper} {v : Value} (hj : j < n) (hoj : ops[j]? = some o)
    (hdep : ∀ (i : Nat) (oi : Oper) (t : Nat), i < n → ops[i]? = some oi → oi.dst = some t → j = i ∨ o.dst ≠ some t) (hrep : Rep (FX X s0 β w) β w v (ds j)) : Mid X ops n s0 ds (listed.setIfInBounds j true) β (a.put o.dst v) w := by
  have hsame : ∀ t, (o.dst = some t → ¬ t < s0.nt) → (a.put o.dst v).tmps.getD t undef = a.tmps.getD t undef := by
    intro t ht
    cases hd : o.dst with
    | none => rfl
    | some u =>
      by_cases hut : u = t
      · subst hut
        have hnt := ht hd
        have : ¬ u < a.tmps.size := by rw [hm.size]; exact hnt
        simp [Act.put, this]
      · simp [Act.put, Array.getElem?_setIfInBounds_ne hut]
  refine ⟨hm.heap, by cases o.dst <;> exact hm.defers, ?_, fun i oi t hi hoi hd hnt hl => ?_, fun t ht => ?_⟩
  · cases hd : o.dst <;> simp [Act.put, hm.size]
  · by_cases hij : i = j
    · subst hij
      have : oi = o := Option.some.inj (hoi.symm.trans hoj)
      subst this
      have hts : t < a.tmps.size := by rw [hm.size]; exact hnt
      have : (a.put oi.dst v).tmps.getD t undef = v := by simp [Act.put, hd, hts]
      rw [this]
      exact hrep
    · rw [hsame t (fun hod => by
        rcases hdep i oi t hi hoi hd with h | h
        · exact absurd h.symm hij
        · exact absurd hod h)]
      rw [getD_set_ne false (Ne.symm hij)] at hl
      exact hm.done i oi t hi hoi hd hnt hl
  · rw [hsame t (fun hod hnt => ht hnt j o hj hoj hod)]
    exact hm.base t ht
theorem getD_both_in {listed : Array Bool} {i : Nat} (h : i < listed.size) : listed.getD i true = listed.getD i false := by simp [h]
set_option maxHeartbeats 1000000 in
theorem late_run {n tA : Nat} {s0 : St} {ds : Nat → D} {sts : Nat → St} {Q : Exit → Act → World → Prop} {β : Nat → Option Value} {w1 w2 : World} {ptr : Value} {oA oS : Oper} (hB : LateC ops n tA) (hA : ops[n]? = some oA) (hS : ops[n + 1]? = some oS) (hAd : oA.dst = some tA) (h0 : sts 0 = s0)
    (hstep : ∀ (i : Nat) (o : Oper), i < n → ops[i]? = some o → PStep X ops (sts i) o (ds i) (sts (i + 1))) (huni : ∀ (i : Nat) (o : Oper), i < n → ops[i]? = some o → uniKind o.op = true ∨ funD (ds i) = true)
    (hal : ∀ ρ, (execOp ρ oA).run X.P w1 = .ok (.value ptr) w2) (hgr : w1.grownBy w2 none)
    (hfin : ∀ a0, Rel X (sts n) β a0 w1 → oS.wp X.P (a0.put (some tA) ptr) w2 (fun a w => Q .normal a w) Q) :
    ∀ (fuel : Nat) (listed : Array Bool) (a0 a : Act) (w : World), listed.size = ops.size → listed.getD (n + 1) true = false → listed.toList.count false = fuel → Mid X ops n s0 ds listed β a0 w1 →
      ((listed.getD n true = false ∧ a = a0 ∧ w = w1) ∨ (listed.getD n true = true ∧ a = a0.put (some tA) ptr ∧ w = w2)) → wpAny X.P .any ops Q fuel listed a w := by
  have hsz := hB.size
  have hgn : ∀ (i : Nat) (o : Oper), ops[i]? = some o → o.guard = none := fun i o h => (hB.plain i o h).1
  have hstepQ : ∀ (i : Nat) (o : Oper), i < n → ops[i]? = some o → StepQ X ops (sts i) o (ds i) (sts (i + 1)) := fun i o hi ho => (hstep i o hi ho).toQ (hgn i o ho)
  have hrest : ∀ i, i ≤ n → (sts i).objs = s0.objs ∧ (sts i).g = s0.g ∧ (sts i).pin = s0.pin ∧ (sts i).nt = s0.nt := by
    intro i
    induction i with
    | zero => intro _; rw [h0]; exact ⟨rfl, rfl, rfl, rfl⟩
    | succ i ih =>
      intro hi
      have hlt : i < ops.size := by omega
      obtain ⟨e1, e2, e3, e4⟩ := rest_step (hstepQ i ops[i] (by omega) (Array.getElem?_eq_getElem hlt))
      obtain ⟨f1, f2, f3, f4⟩ := ih (by omega)
      exact ⟨e1.trans f1, e2.trans f2, e3.trans f3, e4.trans f4⟩
  have hbase : ∀ i, i ≤ n → ∀ t, (t < s0.nt → ∀ (k : Nat) (o : Oper), k < i → ops[k]? = some o → o.dst ≠ some t) → look (sts i).env t = look s0.env t := by
    intro i
    induction i with
    | zero => intro _ t _; rw [h0]
    | succ i ih =>
      intro hi t ht
      have hlt : i < ops.size := by omega
      rw [look_step (hstepQ i ops[i] (by omega) (Array.getElem?_eq_getElem hlt)), if_neg (fun h => ht (by rw [(hrest i (by omega)).2.2.2] at h; exact h.2) i _ (by omega) (Array.getElem?_eq_getElem hlt) h.1)]
      exact ih (by omega) t (fun hnt k o hk ho => ht hnt k o (by omega) ho)
  have hdone : ∀ i, i ≤ n → ∀ (k : Nat) (o : Oper) (t : Nat), k < i → ops[k]? = some o → o.dst = some t → t < s0.nt → look (sts i).env t = ds k := by
    intro i
    induction i with
    | zero => intro _ k o t hk; omega
    | succ i ih =>
      intro hi k o t hk ho hd ht
      have hlt : i < ops.size := by omega
      have hst := hstepQ i ops[i] (by omega) (Array.getElem?_eq_getElem hlt)
      rw [look_step hst]
      by_cases hki : k = i
      · subst hki
        have : ops[k] = o := by rw [Array.getElem?_eq_getElem hlt] at ho; exact Option.some.inj ho
        rw [this, if_pos ⟨hd, by rw [(hrest k (by omega)).2.2.2]; exact ht⟩]
      · rw [if_neg]
        · exact ih (by omega) k o t (by omega) ho hd ht
        · intro h
          rcases (hB.dep i k ops[i] o t (by omega) (by omega) (Array.getElem?_eq_getElem hlt) ho hd).1 with h' | h'
          · exact hki h'.symm
          · exact h' h.1
  have hknown : ∀ (listed : Array Bool) (a : Act), Mid X ops n s0 ds listed β a w1 → ∀ i, i ≤ n → ∀ t, (t < s0.nt → ∀ (k : Nat) (o : Oper), k < n → ops[k]? = some o → o.dst = some t → k < i ∧ listed.getD k false = true) →
      Rep (FX X s0 β w1) β w1 (a.tmps.getD t undef) (look (sts i).env t) := by
    intro listed a hm i hi t ht
    by_cases hex : t < s0.nt ∧ ∃ k o, k < n ∧ ops[k]? = some o ∧ o.dst = some t
    · obtain ⟨hnt, k, o, hk, ho, hd⟩ := hex
      obtain ⟨hki, hl⟩ := ht hnt k o hk ho hd
      rw [hdone i hi k o t hki ho hd hnt]
      exact hm.done k o t hk ho hd hnt hl
    · rw [hbase i hi t (fun hnt k o hk ho hd => hex ⟨hnt, k, o, by omega, ho, hd⟩)]
      exact hm.base t (fun hnt k o hk ho hd => hex ⟨hnt, k, o, hk, ho, hd⟩)
  have hend : ∀ (listed : Array Bool) (a : Act), Mid X ops n s0 ds listed β a w1 → (∀ i, i < n → listed.getD i false = true) → Rel X (sts n) β a w1 := by
    intro listed a hm hall
    obtain ⟨e1, e2, e3, e4⟩ := hrest n (Nat.le_refl _)
    refine (hm.heap.same e1 e2 e3).toRel hm.defers (by rw [hm.size, e4]) (fun t => ?_)
    rw [FX.same (X := X) e1]
    exact hknown listed a hm n (Nat.le_refl _) t (fun _ k o hk _ _ => ⟨hk, hall k hk⟩)
  intro fuel
  induction fuel with
  | zero =>
    intro listed a0 a w hls hl1 hc hm _
    exfalso
    have hl : n + 1 < listed.size := by omega
    have : listed.toList[n + 1]'(by simpa using hl) = false := by simpa [hl] using hl1
    have hmem : false ∈ listed.toList := by rw [← this]; exact List.getElem_mem _
    have := List.count_pos_iff.2 hmem
    omega
  | succ fuel ih =>
    intro listed a0 a w hls hl1 hc hm hcase
    refine ⟨fun hr => ?_, fun j hj => ?_⟩
    · exfalso
      obtain ⟨m, ⟨hm1, hm2⟩, hm3⟩ := least_of (p := fun m => m < ops.size ∧ listed.getD m true = false) (n + 1) ⟨by omega, hl1⟩
      have : m ∈ Region.ready .any ops listed := mem_ready.2 ⟨hm2, ops[m], Array.getElem?_eq_getElem hm1, fun e he hb => by
        have h1 := hB.edge m _ (Array.getElem?_eq_getElem hm1) e he hb
        rw [← getD_both_in (by omega)]
        cases hbb : listed.getD e.on true with
        | true => rfl
        | false => exact absurd ⟨by omega, hbb⟩ (hm3 e.on h1)⟩
      rw [hr] at this
      cases this
    obtain ⟨hju, o, hoj, hall'⟩ := mem_ready.1 hj
    have hjs : j < ops.size := (Array.getElem?_eq_some_iff.1 hoj).1
    have hw : ∀ a : Act, Region.wanted o (yielded ops a.tmps) = true := fun a => by simp [Region.wanted, hgn j o hoj]
    have hcount : (listed.setIfInBounds j true).toList.count false = fuel := by
      have hl : j < listed.toList.length := by simp; omega
      have hv : listed.toList[j] = false := by
        have hl' : j < listed.size := by simpa using hl
        simpa [hl'] using hju
      rw [Array.toList_setIfInBounds, List.count_set hl, hv, hc]
      simp
    unfold wpOp
    simp only [hoj]
    rw [if_pos (hw a)]
    refine .inl ?_
    have hj3 : j < n ∨ j = n ∨ j = n + 1 := by omega
    rcases hj3 with hjn | hjn | hjn
    · -- one that only reads
      obtain ⟨hpu, hnl, hnd⟩ := hB.pure j o hjn hoj
      obtain ⟨hs1, hy⟩ := hstep j o hjn hoj
      obtain ⟨e1, e2, e3, e4⟩ := hrest j (by omega)
      have hsee : Rel X ((sts j).only (o.looksAt ops)) β a0 w1 := by
        refine (hm.heap.same (st' := (sts j).only (o.looksAt ops)) e1 e2 e3).toRel hm.defers (by show a0.tmps.size = (sts j).nt; rw [hm.size, e4]) (fun t => ?_)
        have hF : FX X ((sts j).only (o.looksAt ops)) β w1 = FX X s0 β w1 := FX.same (X := X) e1 β w1
        rw [hF]
        rcases look_lookEnv (sts j).env (o.looksAt ops) t with h | ⟨hin2, h⟩
        · show Rep _ β w1 _ (look (lookEnv (sts j).env (o.looksAt ops)) t)
          rw [h]; exact .ro _ _ (.junk _)
        · show Rep _ β w1 _ (look (lookEnv (sts j).env (o.looksAt ops)) t)
          rw [h]
          refine hknown listed a0 hm j (by omega) t (fun hnt k ok hk hok hd => ?_)
          obtain ⟨h1, h2⟩ := (hB.dep j k o ok t hjn hk hoj hok hd).2 hin2
          obtain ⟨o', ho', e, he, hb, hon⟩ := Region.waitsFor_spec h2
          have : o' = o := Option.some.inj (ho'.symm.trans hoj)
          subst this
          exact ⟨h1, by rw [← hon]; exact hall' e he hb⟩
      obtain ⟨v, hv, hrep⟩ := hy β a0 w1 hsee
      have hF : FX X ((sts j).only (o.looksAt ops)) β w1 = FX X s0 β w1 := FX.same (X := X) e1 β w1
      have hmid := hm.step hjn hoj (fun i oi t hi hoi hd => (hB.dep j i o oi t hjn hi hoj hoi hd).1) (v := v) (by rw [← hF]; exact hrep)
      have hl1' : (listed.setIfInBounds j true).getD (n + 1) true = false := by rw [getD_set_ne true (by omega)]; exact hl1
      have hln : (listed.setIfInBounds j true).getD n true = listed.getD n true := getD_set_ne true (by omega)
      rcases hcase with ⟨hc1, rfl, rfl⟩ | ⟨hc1, rfl, rfl⟩
      · exact wp_value hv (ih _ _ _ _ (by simpa using hls) hl1' hcount hmid (.inl ⟨by rw [hln]; exact hc1, rfl, rfl⟩))
      · have hsel : ∀ cs b, o.op ≠ .select cs b := fun cs b e => by
          have := (hB.plain j o hoj).2
          rw [e] at this
          cases this
        have heq : execOp (a0.put (some tA) ptr).eval o = execOp a0.eval o := execOp_put (ops := ops) o hsel a0 (some tA) ptr (fun d hd => by cases hd; exact hnl)
        have hv2 : (execOp a0.eval o).run X.P w = .ok (.value v) w := by
          rcases huni j o hjn hoj with hu | hu
          · exact uni_run hu hv w
          · obtain ⟨v', hv', hrep'⟩ := hy β a0 w (hsee.grown hgr)
            rw [funD_eq hu hrep hrep']
            exact hv'
        refine wp_value (by rw [heq]; exact hv2) (ih _ (a0.put o.dst v) _ _ (by simpa using hls) hl1' hcount hmid (.inr ⟨by rw [hln]; exact hc1, ?_, rfl⟩))
        exact Act.put_comm a0 ptr v (fun d hd h2 => by cases hd; exact hnd h2)
    · -- the one that makes memory
      subst hjn
      rcases hcase with ⟨hc1, rfl, rfl⟩ | ⟨hc1, rfl, rfl⟩
      · have : o = oA := Option.some.inj (hoj.symm.trans hA)
        subst this
        refine wp_value (hal _) (ih _ a _ _ (by simpa using hls) (by rw [getD_set_ne true (by omega)]; exact hl1) hcount ⟨hm.heap, hm.defers, hm.size, fun i oi t hi hoi hd hnt hl => ?_, hm.base⟩ (.inr ⟨by simp, by rw [hAd], rfl⟩))
        rw [getD_set_ne false (by omega)] at hl
        exact hm.done i oi t hi hoi hd hnt hl
      · rw [hju] at hc1
        cases hc1
    · -- the one that stores
      subst hjn
      have : o = oS := Option.some.inj (hoj.symm.trans hS)
      subst this
      have hlist : ∀ i, i ≤ n → listed.getD i false = true := fun i hi => by
        obtain ⟨o', ho', e, he, hb, hon⟩ := Region.waitsFor_spec (hB.last i hi)
        have : o' = o := Option.some.inj (ho'.symm.trans hoj)
        subst this
        rw [← hon]
        exact hall' e he hb
      rcases hcase with ⟨hc1, rfl, rfl⟩ | ⟨hc1, rfl, rfl⟩
      · exfalso
        have := hlist n (Nat.le_refl _)
        rw [← getD_both_in (by omega), hc1] at this
        cases this
      · refine Oper.wp_mono (fun a' w' hq => ?_) (hfin a0 (hend listed a0 hm fun i hi => hlist i (by omega)))
        have hr : Region.ready .any ops (listed.setIfInBounds (n + 1) true) = [] := by
          cases hr : Region.ready .any ops (listed.setIfInBounds (n + 1) true) with
          | nil => rfl
          | cons x xs =>
            have hx : x ∈ Region.ready .any ops (listed.setIfInBounds (n + 1) true) := by rw [hr]; simp
            obtain ⟨h1, o', h2, _⟩ := mem_ready.1 hx
            have hxs := (Array.getElem?_eq_some_iff.1 h2).1
            by_cases hx1 : x = n + 1
            · subst hx1
              have : n + 1 < listed.size := by omega
              simp [this] at h1
            · rw [getD_set_ne true (Ne.symm hx1), getD_both_in (by omega), hlist x (by omega)] at h1
              cases h1
        cases fuel with
        | zero => exact ⟨hr, hq⟩
        | succ fuel => exact ⟨fun _ => hq, fun i hi => by rw [hr] at hi; cases hi⟩
theorem alloc_runs {o : Oper} {t : TypeId} {st : St} {K : St → Prop} (ho : o.op = .alloc t) (h : allocD X.P st o.dst t K) : ∃ z : Value, ∀ (ρ : Operand → Value) (w : World), (execOp ρ o).run X.P w = .ok (.value (.pointer (some ⟨w.heap.size, 0, none⟩))) (w.alloc (.cells z.cells t)) := by
  unfold allocD at h
  obtain ⟨z, i, hi, hz, hf, hk, hzr⟩ := zeroD_sound h
  exact ⟨z, fun ρ w => by simp [execOp, ho, Instr.alloc, hzr, newVar, newRow]⟩
theorem opD_alloc {o : Oper} {t : TypeId} {st : St} {K : St → Prop} (ho : o.op = .alloc t) (h : opD X o st K) : allocD X.P st o.dst t K := by
  obtain ⟨dst, op, ty, pos, after, guard⟩ := o
  cases ho
  exact h
/-- Is what the reading operations hand back of a kind that leaves no choice? -/
def funAll (ops : Array Oper) (n : Nat) (st : St) : Bool :=
  (List.range n).all fun i => match ops[i]? with
    | some o => uniKind o.op || (match o.dst with
      | some t => Nat.blt t st.nt && funD (look st.env t)
      | none => false)
    | none => false
@[irreducible] def LateS (ops : Array Oper) (n : Nat) (st : St) (R : Prop) : Prop := funAll ops n st = true ∧ R
theorem LateS.mk {n : Nat} {st : St} {R : Prop} (h : funAll ops n st = true) (hr : R) : LateS ops n st R := by unfold LateS; exact ⟨h, hr⟩
theorem LateS.out {n : Nat} {st : St} {R : Prop} (h : LateS ops n st R) : funAll ops n st = true ∧ R := by unfold LateS at h; exact h
end
theorem late_done {X : Ctx} {ops : Array Oper} {n tA : Nat} {s0 : St} {ds : Nat → D} {sts : Nat → St} (hB : LateC ops n tA) (h0 : sts 0 = s0) (hstep : ∀ (i : Nat) (o : Oper), i < n → ops[i]? = some o → PStep X ops (sts i) o (ds i) (sts (i + 1))) :
    (∀ i, i ≤ n → (sts i).nt = s0.nt) ∧ ∀ i, i ≤ n → ∀ (k : Nat) (o : Oper) (t : Nat), k < i → ops[k]? = some o → o.dst = some t → t < s0.nt → look (sts i).env t = ds k := by
  have hsz := hB.size
  have hstepQ : ∀ (i : Nat) (o : Oper), i < n → ops[i]? = some o → StepQ X ops (sts i) o (ds i) (sts (i + 1)) := fun i o hi ho => (hstep i o hi ho).toQ (hB.plain i o ho).1
  have hrest : ∀ i, i ≤ n → (sts i).nt = s0.nt := by
    intro i
    induction i with
    | zero => intro _; rw [h0]
    | succ i ih =>
      intro hi
      have hlt : i < ops.size := by omega
      exact (rest_step (hstepQ i ops[i] (by omega) (Array.getElem?_eq_getElem hlt))).2.2.2.trans (ih (by omega))
  refine ⟨hrest, ?_⟩
  intro i
  induction i with
  | zero => intro _ k o t hk; omega
  | succ i ih =>
    intro hi k o t hk ho hd ht
    have hlt : i < ops.size := by omega
    have hst := hstepQ i ops[i] (by omega) (Array.getElem?_eq_getElem hlt)
    rw [look_step hst]
    by_cases hki : k = i
    · subst hki
      have : ops[k] = o := by rw [Array.getElem?_eq_getElem hlt] at ho; exact Option.some.inj ho
      rw [this, if_pos ⟨hd, by rw [hrest k (by omega)]; exact ht⟩]
    · rw [if_neg]
      · exact ih (by omega) k o t (by omega) ho hd ht
      · intro h
        rcases (hB.dep i k ops[i] o t (by omega) (by omega) (Array.getElem?_eq_getElem hlt) ho hd).1 with h' | h'
        · exact hki h'.symm
        · exact h' h.1
theorem draw_late {P : Program} {w0 : World} {F0 lent : Nat → Prop} {β0 : Nat → Option Value} {ops : Array Oper} {K : St → Prop} {st : St} (n tA : Nat) (hm : P.follows .mixedOrders = true) (hB : lateB ops n tA = true)
    (h : quietD ⟨P, w0, F0, lent, β0⟩ ops (ops.toList.take n) st fun st => LateS ops n st (opsD ⟨P, w0, F0, lent, β0⟩ ops (ops.toList.drop n) st K)) : DrawS ⟨P, w0, F0, lent, β0⟩ ops K st := by
  let X : Ctx := ⟨P, w0, F0, lent, β0⟩
  refine DrawS.mk fun β a w id Q hr hQ => wp_region_any (P := P) hm ?_
  have hC := lateB_spec hB
  have hsz := hC.size
  have hr1 : Rel X st β a { w with drawn := w.drawn + 1 } := hr.drew
  generalize { w with drawn := w.drawn + 1 } = w1 at hr1
  have hpl : ∀ o ∈ ops.toList.take n, o.guard = none ∧ isPure o.op = true := by
    intro o ho
    obtain ⟨i, hi, he⟩ := List.getElem_of_mem ho
    have hin : i < n := by simp at hi; omega
    have ho' : ops[i]? = some o := by
      rw [← Array.getElem?_toList, ← List.getElem?_take_of_lt hin, List.getElem?_eq_getElem hi, he]
    exact ⟨(hC.plain i o ho').1, (hC.pure i o hin ho').1⟩
  obtain ⟨ds, sts, h0, hK, hstep⟩ := pure_extract (X := X) (ops.toList.take n) st _ hpl h ⟨β, a, w1, hr1⟩
  have hlen : (ops.toList.take n).length = n := by simp; omega
  rw [hlen] at hK
  obtain ⟨hall, htl⟩ := hK.out
  have hst : ∀ (i : Nat) (o : Oper), i < n → ops[i]? = some o → PStep X ops (sts i) o (ds i) (sts (i + 1)) := fun i o hi ho => hstep i o (by rw [List.getElem?_take_of_lt hi, Array.getElem?_toList]; exact ho)
  obtain ⟨oA, tT, hA, hop, hAd⟩ := hC.made
  have hS : ops[n + 1]? = some ops[n + 1] := Array.getElem?_eq_getElem (by omega)
  have hdrop : ops.toList.drop n = [oA, ops[n + 1]] := by
    have e1 : ops.toList[n]? = some oA := by rw [Array.getElem?_toList]; exact hA
    have e2 : ops.toList[n + 1]? = some ops[n + 1] := by rw [Array.getElem?_toList]; exact hS
    obtain ⟨k1, k2⟩ := List.getElem?_eq_some_iff.1 e1
    obtain ⟨k3, k4⟩ := List.getElem?_eq_some_iff.1 e2
    rw [List.drop_eq_getElem_cons k1, k2, List.drop_eq_getElem_cons k3, k4, List.drop_of_length_le (by simp; omega)]
  rw [hdrop] at htl
  have htl' : guardD X ops oA (sts n) fun st' => guardD X ops ops[n + 1] st' K := htl
  have hgA : oA.guard = none := (hC.plain n oA hA).1
  have hgS : ops[n + 1].guard = none := (hC.plain _ _ hS).1
  unfold guardD at htl'
  rw [hgA] at htl'
  simp only [hgS] at htl'
  obtain ⟨z, hz⟩ := alloc_runs (X := X) hop (opD_alloc hop htl')
  have hgr : w1.grownBy (w1.alloc (.cells z.cells tT)) none := by
    refine ⟨rfl, rfl, rfl, ?_, fun b hb _ => ?_⟩
    · show w1.heap.size ≤ (w1.heap.push _).size
      rw [Array.size_push]
      omega
    · show (w1.heap.push _)[b]? = w1.heap[b]?
      rw [Array.getElem?_push, if_neg (Nat.ne_of_lt hb)]
  have hdn := late_done (X := X) hC h0 hst
  refine late_run (X := X) (s0 := st) (β := β) (w1 := w1) (w2 := w1.alloc (.cells z.cells tT)) (ptr := .pointer (some ⟨w1.heap.size, 0, none⟩)) hC hA hS hAd h0 hst (fun i o hi ho => ?_) (fun ρ => hz ρ w1) hgr (fun a0 hr0 => ?_) ops.size _ a a _ (by simp) ?_ (by simp) ?_ (.inl ⟨?_, rfl, rfl⟩)
  · have h1 := List.all_eq_true.1 hall i (List.mem_range.2 hi)
    rw [ho] at h1
    simp only [Bool.or_eq_true] at h1
    rcases h1 with h1 | h1
    · exact .inl h1
    · right
      split at h1
      · rename_i t ht
        simp only [Bool.and_eq_true, Nat.blt_eq] at h1
        have h2 := h1.2
        rw [hdn.2 n (Nat.le_refl _) i o t hi ho ht (by rw [← hdn.1 n (Nat.le_refl _)]; exact h1.1)] at h2
        exact h2
      · cases h1
  · have h1 := opD_sound (X := X) (Q := fun _ _ _ => False) htl' hr0
    unfold Oper.wp at h1
    rw [hz] at h1
    obtain ⟨st', β', hk, hr'⟩ := h1
    rw [hAd] at hr'
    exact Oper.wp_mono (fun a w hp => hQ a w hp) (opD_sound hk hr')
  · exact getD_in (by simp; omega) (getD_replicate_false _ _)
  · exact ⟨hr1.toW, hr1.defers, hr1.size, fun i o t _ _ _ _ hl => (by rw [getD_replicate_false] at hl; cases hl), fun t _ => hr1.tmps t⟩
  · exact getD_in (by simp; omega) (getD_replicate_false _ _)
end Go.Eng
