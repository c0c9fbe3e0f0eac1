/-
  The engine, twentieth part. A statement whose order is open, whose first n operations leave the call's own objects alone: one evaluation in the order of the text serves every order.
  No conditions.
-/
import Derived.Test.YthhmhmbdfahkjaaEng19
namespace Go.Eng
open Go Go.RowKit

def drawB (ops : Array Oper) (n : Nat) : Bool :=
  Nat.ble n ops.size &&
  ((List.range ops.size).all fun i => match ops[i]? with
    | some o => o.after.all fun e => !Region.binds .any e || Nat.blt e.on i
    | none => true) &&
  ((List.range n).all fun i => (List.range n).all fun k => match ops[i]?, ops[k]? with
    | some oi, some ok => match ok.dst with
      | some t => (Nat.beq i k || oi.dst != some t) && (!(oi.looksAt ops).contains t || (Nat.blt k i && Region.waitsFor .any ops i k))
      | none => true
    | _, _ => true) &&
  (Nat.beq n ops.size || (Region.sinkB .any ops n && Region.chainB .any ops n)) &&
  Region.seqB .any ops (ops.size - n) n (Array.replicate n true ++ Array.replicate (ops.size - n) false)

section
variable {X : Ctx} {ops : Array Oper}

def Alike (s s' : St) : Prop := s'.objs = s.objs ∧ s'.g = s.g ∧ s'.pin = s.pin ∧ s'.nt = s.nt ∧ ∀ t, look s'.env t = look s.env t

/-- One operation of the text's order. -/
def StepQ (X : Ctx) (ops : Array Oper) (s : St) (o : Oper) (d : D) (s' : St) : Prop :=
  ∃ si, Alike s si ∧ s' = si.put o.dst d ∧
    ((o.guard = none ∧ QYields X o (si.only (o.looksAt ops)) d) ∨
     ∃ j want t, o.guard = some (j, want) ∧ (ops[j]?).bind (·.dst) = some t ∧ ((look s.env t = .bool want ∧ QYields X o (si.only (o.looksAt ops)) d) ∨ ((look s.env t = .bool (!want) ∨ look s.env t = .tup []) ∧ d = .tup [])))

theorem look_put (st : St) (t : Nat) (d : D) (u : Nat) : look (st.put (some t) d).env u = if u = t ∧ t < st.nt then d else look st.env u := by
  unfold St.put
  cases hb : Nat.blt t st.nt with
  | true =>
    have : t < st.nt := by simpa [Nat.blt_eq] using hb
    simp only [hb, cond_true, this, and_true]
    by_cases h : u = t
    · subst h; rw [look_same, if_pos rfl]
    · rw [look_ne _ _ h, if_neg h]
  | false =>
    have : ¬ t < st.nt := by intro h; rw [show Nat.blt t st.nt = true from by simpa [Nat.blt_eq] using h] at hb; cases hb
    simp only [hb, cond_false]
    rw [if_neg (fun h => this h.2)]
theorem put_rest (st : St) (dst : Option Nat) (d : D) : (st.put dst d).objs = st.objs ∧ (st.put dst d).g = st.g ∧ (st.put dst d).pin = st.pin ∧ (st.put dst d).nt = st.nt := by
  cases dst with
  | none => exact ⟨rfl, rfl, rfl, rfl⟩
  | some t =>
    unfold St.put
    cases hb : Nat.blt t st.nt <;> simp [hb]

theorem Rel.alike {s s' : St} {β : Nat → Option Value} {a : Act} {w : World} (h : Rel X s β a w) (e : Alike s s') : Rel X s' β a w := by
  obtain ⟨e1, e2, e3, e4, e5⟩ := e
  have hF := FX.same (X := X) e1 β w
  exact (h.toW.same e1 e2 e3).toRel h.defers (by rw [h.size, e4]) (fun i => by rw [hF, e5]; exact h.tmps i)

/-- Less is known. -/
theorem Rel.less {s s' : St} {β : Nat → Option Value} {a : Act} {w : World} (h : Rel X s β a w) (e1 : s'.objs = s.objs) (e2 : s'.g = s.g) (e3 : s'.pin = s.pin) (e4 : s'.nt = s.nt) (e5 : ∀ t, look s'.env t = .junk ∨ look s'.env t = look s.env t) : Rel X s' β a w := by
  have hF := FX.same (X := X) e1 β w
  refine (h.toW.same e1 e2 e3).toRel h.defers (by rw [h.size, e4]) (fun i => ?_)
  rw [hF]
  rcases e5 i with e | e
  · rw [e]; exact .ro _ _ (.junk _)
  · rw [e]; exact h.tmps i

theorem Rel.only {s : St} {β : Nat → Option Value} {a : Act} {w : World} (h : Rel X s β a w) (ts : List Nat) : Rel X (s.only ts) β a w :=
  h.less rfl rfl rfl rfl (fun t => (look_lookEnv s.env ts t).imp id (fun h => h.2))

theorem wp_exists {P : Program} {o : Oper} {a : Act} {w : World} {K : Act → World → Prop} (h : o.wp P a w K (fun _ _ _ => False)) : ∃ a' w', K a' w' := by
  unfold Oper.wp at h
  generalize (execOp a.eval o).run P w = r at h
  cases r with
  | ok n w' =>
    cases n <;> simp only [Oper.upon] at h <;> try (exact h.elim)
    case value => exact ⟨_, _, h⟩
    case skip => exact ⟨_, _, h⟩
    case enter f args =>
      obtain ⟨e, w'', fr, hR, _⟩ := h []
      cases e with
      | returned v => exact ⟨_, _, hR⟩
      | panicked c => exact hR.elim
      | outgrown => obtain ⟨_, _, h⟩ := hR; exact h.elim
    case defer => exact ⟨_, _, h⟩
    case row r args =>
      obtain ⟨v, w'', hR, _⟩ := h default []
      exact ⟨_, _, hR⟩
  | halt x w' => cases x <;> simp only [Oper.upon] at h

theorem quiet_extract : ∀ (l : List Oper) (st : St) (K : St → Prop), quietD X ops l st K → (∃ β a w, Rel X st β a w) →
    ∃ (ds : Nat → D) (sts : Nat → St), sts 0 = st ∧ K (sts l.length) ∧ ∀ i o, l[i]? = some o → StepQ X ops (sts i) o (ds i) (sts (i + 1))
  | [], st, K, h, _ => ⟨fun _ => .junk, fun _ => st, rfl, h, fun i o hi => by simp at hi⟩
  | o :: r, st, K, h, ⟨β, a, w, hr⟩ => by
    have finish : ∀ (si : St) (d : D), Alike st si → (∃ β a w, Rel X (si.put o.dst d) β a w) → quietD X ops r (si.put o.dst d) K →
        ((o.guard = none ∧ QYields X o (si.only (o.looksAt ops)) d) ∨ ∃ j want t, o.guard = some (j, want) ∧ (ops[j]?).bind (·.dst) = some t ∧ ((look st.env t = .bool want ∧ QYields X o (si.only (o.looksAt ops)) d) ∨ ((look st.env t = .bool (!want) ∨ look st.env t = .tup []) ∧ d = .tup []))) →
        ∃ (ds : Nat → D) (sts : Nat → St), sts 0 = st ∧ K (sts (o :: r).length) ∧ ∀ i o', (o :: r)[i]? = some o' → StepQ X ops (sts i) o' (ds i) (sts (i + 1)) := by
      intro si d hal hex hk hy
      obtain ⟨ds, sts, h0, hK, hst⟩ := quiet_extract r _ K hk hex
      refine ⟨fun i => match i with | 0 => d | i + 1 => ds i, fun i => match i with | 0 => st | i + 1 => sts i, rfl, hK, fun i o' hi => ?_⟩
      cases i with
      | zero =>
        have : o' = o := by simpa using hi.symm
        subst this
        exact ⟨si, hal, h0, hy⟩
      | succ i => exact hst i o' (by simpa using hi)
    have after : ∀ (si : St) (d : D), Rel X si β a w → QYields X o (si.only (o.looksAt ops)) d → ∃ β a w, Rel X (si.put o.dst d) β a w := by
      intro si d hsi hy
      obtain ⟨a', w', v, hg, hrep, ha'⟩ := wp_exists (hy β a w (fun a' w' => ∃ v, w.grownBy w' none ∧ Rep (FX X (si.only (o.looksAt ops)) β w') β w' v d ∧ a' = a.put o.dst v) _ (hsi.only _) (fun v w' hg hrep => ⟨v, hg, hrep, rfl⟩))
      exact ⟨β, _, w', (hsi.grown hg).put o.dst hrep⟩
    rw [quietD_cons] at h
    unfold qstepD at h
    split at h
    · rename_i hg
      obtain ⟨d, hk, hy⟩ := qopD_sound (hr.only _) h
      exact finish st d ⟨rfl, rfl, rfl, rfl, fun _ => rfl⟩ (after st d hr hy) (putK_out (force_out hk)) (.inl ⟨hg, hy⟩)
    · rename_i j want hg
      split at h
      · rename_i t hj
        split at h
        · rename_i c ht
          have hal : ∀ b, c = b → Alike st (st.put (some t) (.bool b)) := by
            intro b hb
            obtain ⟨e1, e2, e3, e4⟩ := put_rest st (some t) (.bool b)
            refine ⟨e1, e2, e3, e4, fun u => ?_⟩
            rw [look_put]
            split
            · rename_i hu; rw [hu.1, ht, hb]
            · rfl
          by_cases hc : c = want
          · have hk := putK_out (h.1 hc)
            have hsi := hr.alike (hal want hc)
            obtain ⟨d, hk, hy⟩ := qopD_sound (hsi.only _) hk
            exact finish _ d (hal want hc) (after _ d hsi hy) (putK_out (force_out hk)) (.inr ⟨j, want, t, hg, hj, .inl ⟨by rw [ht, hc], hy⟩⟩)
          · have hc' : c = !want := by cases c <;> cases want <;> simp_all
            have hk := putK_out (putK_out (h.2 hc'))
            have hsi := hr.alike (hal (!want) hc')
            exact finish _ (.tup []) (hal (!want) hc') ⟨β, _, w, hsi.put o.dst (v := undef) rep_undef⟩ hk (.inr ⟨j, want, t, hg, hj, .inr ⟨.inl (by rw [ht, hc']), rfl⟩⟩)
        · rename_i ht
          exact finish st (.tup []) ⟨rfl, rfl, rfl, rfl, fun _ => rfl⟩ ⟨β, _, w, hr.put o.dst (v := undef) rep_undef⟩ (putK_out h) (.inr ⟨j, want, t, hg, hj, .inr ⟨.inr ht, rfl⟩⟩)
        · exact h.elim
      · exact h.elim

theorem look_step {s s' : St} {o : Oper} {d : D} (h : StepQ X ops s o d s') (t : Nat) : look s'.env t = if o.dst = some t ∧ t < s.nt then d else look s.env t := by
  obtain ⟨si, hal, rfl, _⟩ := h
  obtain ⟨_, _, _, e4, e5⟩ := hal
  cases hd : o.dst with
  | none => simp [St.put, e5]
  | some u =>
    rw [look_put, e4, e5]
    by_cases h : t = u
    · subst h; simp
    · rw [if_neg (fun hh => h hh.1), if_neg (fun hh => h (Option.some.inj hh.1).symm)]
theorem rest_step {s s' : St} {o : Oper} {d : D} (h : StepQ X ops s o d s') : s'.objs = s.objs ∧ s'.g = s.g ∧ s'.pin = s.pin ∧ s'.nt = s.nt := by
  obtain ⟨si, ⟨e1, e2, e3, e4, _⟩, rfl, _⟩ := h
  obtain ⟨f1, f2, f3, f4⟩ := put_rest si o.dst d
  exact ⟨f1.trans e1, f2.trans e2, f3.trans e3, f4.trans e4⟩

/-- What a state of some order is, where those that are listed have come up. -/
structure Mid (X : Ctx) (ops : Array Oper) (n : Nat) (s0 : St) (ds : Nat → D) (listed : Array Bool) (β : Nat → Option Value) (a : Act) (w : World) : Prop where
  heap : WRel X s0 β w
  defers : a.defers = []
  size : a.tmps.size = s0.nt
  done : ∀ i o t, i < n → ops[i]? = some o → o.dst = some t → t < s0.nt → listed.getD i false = true → Rep (FX X s0 β w) β w (a.tmps.getD t undef) (ds i)
  base : ∀ t, (t < s0.nt → ∀ i o, i < n → ops[i]? = some o → o.dst ≠ some t) → Rep (FX X s0 β w) β w (a.tmps.getD t undef) (look s0.env t)

theorem drawB_spec {n : Nat} (h : drawB ops n = true) : n ≤ ops.size ∧ (∀ i o, ops[i]? = some o → ∀ e ∈ o.after, Region.binds .any e = true → e.on < i) ∧
    (∀ i k oi ok t, i < n → k < n → ops[i]? = some oi → ops[k]? = some ok → ok.dst = some t → (i = k ∨ oi.dst ≠ some t) ∧ (t ∈ oi.looksAt ops → k < i ∧ Region.waitsFor .any ops i k = true)) ∧
    (n < ops.size → Region.sinkB .any ops n = true ∧ Region.chainB .any ops n = true) ∧ Region.seqB .any ops (ops.size - n) n (Array.replicate n true ++ Array.replicate (ops.size - n) false) = true := by
  unfold drawB at h
  simp only [Bool.and_eq_true] at h
  obtain ⟨⟨⟨⟨h1, h2⟩, h3⟩, h4⟩, h5⟩ := h
  refine ⟨by simpa using h1, fun i o hi e he hb => ?_, fun i k oi ok t hi hk hoi hok hd => ?_, fun hn => ?_, h5⟩
  · have hlt : i < ops.size := (Array.getElem?_eq_some_iff.1 hi).1
    have := List.all_eq_true.1 h2 i (List.mem_range.2 hlt)
    rw [hi] at this
    have := Array.all_eq_true_iff_forall_mem.1 this e he
    simpa [hb, Nat.blt_eq] using this
  · have := List.all_eq_true.1 (List.all_eq_true.1 h3 i (List.mem_range.2 hi)) k (List.mem_range.2 hk)
    rw [hoi, hok] at this
    simp only [hd] at this
    simp only [Bool.and_eq_true, Bool.or_eq_true, bne_iff_ne, ne_eq, Nat.blt_eq, Bool.not_eq_true', List.contains_eq_mem, decide_eq_false_iff_not] at this
    exact ⟨this.1.imp Nat.eq_of_beq_eq_true id, fun ht => this.2.resolve_left (fun h => h ht)⟩
  · rcases Bool.or_eq_true _ _ ▸ h4 with h | h
    · have := Nat.eq_of_beq_eq_true h
      omega
    · exact and_true' h

theorem mid_run {n : Nat} {s0 : St} {ds : Nat → D} {sts : Nat → St} {Q : Exit → Act → World → Prop} (hB : drawB ops n = true) (h0 : sts 0 = s0)
    (hstep : ∀ i o, i < n → ops[i]? = some o → StepQ X ops (sts i) o (ds i) (sts (i + 1)))
    (htail : ∀ β a w, Rel X (sts n) β a w → wpList X.P ops Q (ops.toList.drop n) a w) :
    ∀ (fuel : Nat) (listed : Array Bool) (β : Nat → Option Value) (a : Act) (w : World), listed.toList.count false = fuel → HeadInv .any ops n listed → Mid X ops n s0 ds listed β a w → wpAny X.P .any ops Q fuel listed a w := by
  obtain ⟨hn, hedge, hdep, htl, hseq⟩ := drawB_spec hB
  have hrest : ∀ i, i ≤ n → (sts i).objs = s0.objs ∧ (sts i).g = s0.g ∧ (sts i).pin = s0.pin ∧ (sts i).nt = s0.nt := by
    intro i
    induction i with
    | zero => intro _; rw [h0]; exact ⟨rfl, rfl, rfl, rfl⟩
    | succ i ih =>
      intro hi
      have hlt : i < ops.size := by omega
      obtain ⟨e1, e2, e3, e4⟩ := rest_step (hstep i ops[i] (by omega) (Array.getElem?_eq_getElem hlt))
      obtain ⟨f1, f2, f3, f4⟩ := ih (by omega)
      exact ⟨e1.trans f1, e2.trans f2, e3.trans f3, e4.trans f4⟩
  have hbase : ∀ i, i ≤ n → ∀ t, (t < s0.nt → ∀ k o, k < i → ops[k]? = some o → o.dst ≠ some t) → look (sts i).env t = look s0.env t := by
    intro i
    induction i with
    | zero => intro _ t _; rw [h0]
    | succ i ih =>
      intro hi t ht
      have hlt : i < ops.size := by omega
      rw [look_step (hstep i ops[i] (by omega) (Array.getElem?_eq_getElem hlt)), if_neg (fun h => ht (by rw [(hrest i (by omega)).2.2.2] at h; exact h.2) i _ (by omega) (Array.getElem?_eq_getElem hlt) h.1)]
      exact ih (by omega) t (fun hnt k o hk ho => ht hnt k o (by omega) ho)
  have hdone : ∀ i, i ≤ n → ∀ k o t, k < i → ops[k]? = some o → o.dst = some t → t < s0.nt → look (sts i).env t = ds k := by
    intro i
    induction i with
    | zero => intro _ k o t hk; omega
    | succ i ih =>
      intro hi k o t hk ho hd ht
      have hlt : i < ops.size := by omega
      have hst := hstep i ops[i] (by omega) (Array.getElem?_eq_getElem hlt)
      rw [look_step hst]
      by_cases hki : k = i
      · subst hki
        have : ops[k] = o := by rw [Array.getElem?_eq_getElem hlt] at ho; exact Option.some.inj ho
        rw [this, if_pos ⟨hd, by rw [(hrest k (by omega)).2.2.2]; exact ht⟩]
      · rw [if_neg]
        · exact ih (by omega) k o t (by omega) ho hd ht
        · intro h
          rcases (hdep i k ops[i] o t (by omega) (by omega) (Array.getElem?_eq_getElem hlt) ho hd).1 with h' | h'
          · exact hki h'.symm
          · exact h' h.1
  -- what is known of a temporary that an operation, or the tail, looks at
  have hknown : ∀ (listed : Array Bool) (β : Nat → Option Value) (a : Act) (w : World), Mid X ops n s0 ds listed β a w → ∀ i, i ≤ n → ∀ t, (t < s0.nt → ∀ k o, k < n → ops[k]? = some o → o.dst = some t → k < i ∧ listed.getD k false = true) →
      Rep (FX X s0 β w) β w (a.tmps.getD t undef) (look (sts i).env t) := by
    intro listed β a w hm i hi t ht
    by_cases hex : t < s0.nt ∧ ∃ k o, k < n ∧ ops[k]? = some o ∧ o.dst = some t
    · obtain ⟨hnt, k, o, hk, ho, hd⟩ := hex
      obtain ⟨hki, hl⟩ := ht hnt k o hk ho hd
      rw [hdone i hi k o t hki ho hd hnt]
      exact hm.done k o t hk ho hd hnt hl
    · rw [hbase i hi t (fun hnt k o hk ho hd => hex ⟨hnt, k, o, by omega, ho, hd⟩)]
      exact hm.base t (fun hnt k o hk ho hd => hex ⟨hnt, k, o, hk, ho, hd⟩)
  have hend : ∀ (listed : Array Bool) (β : Nat → Option Value) (a : Act) (w : World), Mid X ops n s0 ds listed β a w → (∀ i, i < n → listed.getD i false = true) → wpList X.P ops Q (ops.toList.drop n) a w := by
    intro listed β a w hm hall
    obtain ⟨e1, e2, e3, e4⟩ := hrest n (Nat.le_refl _)
    refine htail β a w ((hm.heap.same e1 e2 e3).toRel hm.defers (by rw [hm.size, e4]) (fun t => ?_))
    rw [FX.same (X := X) e1]
    exact hknown listed β a w hm n (Nat.le_refl _) t (fun _ k o hk _ _ => ⟨hk, hall k hk⟩)
  have hin : ∀ (listed : Array Bool) i, i < listed.size → listed.getD i true = listed.getD i false := by
    intro listed i hi; simp [hi]
  intro fuel
  induction fuel with
  | zero =>
    intro listed β a w hc inv hm
    have hall : ∀ i, i < ops.size → listed.getD i true = true := by
      intro i hi
      rcases hb : listed.getD i true with _ | _
      · have hl : i < listed.size := by rw [inv.size]; exact hi
        have : listed.toList[i]'(by simpa using hl) = false := by simpa [hl] using hb
        have hmem : false ∈ listed.toList := by rw [← this]; exact List.getElem_mem _
        have := List.count_pos_iff.2 hmem
        omega
      · rfl
    have hns : n = ops.size := by
      rcases Nat.lt_or_ge n ops.size with h | h
      · have := inv.tail n (Nat.le_refl _) h
        rw [hall n h] at this
        cases this
      · omega
    have hw := hend listed β a w hm (fun i hi => by rw [← hin listed i (by rw [inv.size]; omega)]; exact hall i (by omega))
    rw [List.drop_of_length_le (by simp; omega)] at hw
    refine ⟨?_, hw⟩
    cases hr : Region.ready .any ops listed with
    | nil => rfl
    | cons x xs =>
      have hx : x ∈ Region.ready .any ops listed := by rw [hr]; simp
      obtain ⟨h1, o, h2, _⟩ := mem_ready.1 hx
      rw [hall x (Array.getElem?_eq_some_iff.1 h2).1] at h1
      cases h1
  | succ fuel ih =>
    intro listed β a w hc inv hm
    by_cases hall : ∀ i, i < n → listed.getD i false = true
    · -- the tail
      have hw := hend listed β a w hm hall
      have hlist : listed = Array.replicate n true ++ Array.replicate (ops.size - n) false := by
        apply Array.ext
        · simp [inv.size]; omega
        · intro i h1 h2
          have his : i < ops.size := by rw [← inv.size]; exact h1
          by_cases hi : i < n
          · have := hall i hi
            simp [h1] at this
            rw [this, Array.getElem_append_left (by simpa using hi)]
            simp
          · have := inv.tail i (by omega) his
            simp [h1] at this
            rw [this, Array.getElem_append_right (by simp; omega)]
            simp
      have hfl : fuel + 1 = (ops.toList.drop n).length := by
        rw [← hc, hlist]
        simp [List.count_replicate]
      rw [hfl]
      refine wpAny_of_seq (ops.toList.drop n) n listed a w (fun j => by simp [List.getElem?_drop]) ?_ hw
      rw [← hfl, hlist]
      have : fuel + 1 = ops.size - n := by rw [hfl]; simp
      rw [this]
      exact hseq
    · -- one of the first n
      have hex : ∃ i, i < n ∧ listed.getD i true = false := by
        refine Classical.byContradiction fun hno => hall fun i hi => ?_
        rw [← hin listed i (by rw [inv.size]; omega)]
        cases hb : listed.getD i true with
        | true => rfl
        | false => exact absurd ⟨i, hi, hb⟩ hno
      have hready : ∀ m i, i ≤ m → i < n → listed.getD i true = false → Region.ready .any ops listed ≠ [] := by
        intro m
        induction m with
        | zero =>
          intro i hi hin' hu hr
          have : i = 0 := by omega
          subst this
          have hlt : 0 < ops.size := by omega
          have : 0 ∈ Region.ready .any ops listed := mem_ready.2 ⟨hu, ops[0], Array.getElem?_eq_getElem hlt, fun e he hb => absurd (hedge 0 _ (Array.getElem?_eq_getElem hlt) e he hb) (by omega)⟩
          rw [hr] at this
          cases this
        | succ m ihm =>
          intro i hi hin' hu hr
          by_cases hlow : ∃ j, j < i ∧ listed.getD j true = false
          · obtain ⟨j, hj, hju⟩ := hlow
            exact ihm j (by omega) (by omega) hju hr
          · have hlt : i < ops.size := by omega
            have : i ∈ Region.ready .any ops listed := mem_ready.2 ⟨hu, ops[i], Array.getElem?_eq_getElem hlt, fun e he hb => by
              have := hedge i _ (Array.getElem?_eq_getElem hlt) e he hb
              rw [← hin listed e.on (by rw [inv.size]; omega)]
              cases hbb : listed.getD e.on true with
              | true => rfl
              | false => exact absurd ⟨e.on, this, hbb⟩ hlow⟩
            rw [hr] at this
            cases this
      obtain ⟨i0, hi0, hu0⟩ := hex
      refine ⟨fun h => absurd h (hready i0 i0 (Nat.le_refl _) hi0 hu0), fun j hj => ?_⟩
      obtain ⟨hju, o, hoj, hall'⟩ := mem_ready.1 hj
      have hjs : j < ops.size := (Array.getElem?_eq_some_iff.1 hoj).1
      have hjn : j < n := by
        rcases Nat.lt_or_ge n ops.size with h | h
        · rcases Nat.lt_or_ge j n with h' | h'
          · exact h'
          · exact absurd hj (tail_waits (htl h).1 (htl h).2 h inv _ i0 rfl hi0 hu0 j h')
        · omega
      have hst := hstep j o hjn hoj
      obtain ⟨si, hal, _, hyield⟩ := hst
      obtain ⟨a1, a2, a3, a4, a5⟩ := hal
      obtain ⟨e1, e2, e3, e4⟩ := hrest j (by omega)
      -- the state that the operation sees
      have hsee : Rel X (si.only (o.looksAt ops)) β a w := by
        refine (hm.heap.same (st' := si.only (o.looksAt ops)) (a1.trans e1) (a2.trans e2) (a3.trans e3)).toRel hm.defers (by show a.tmps.size = si.nt; rw [hm.size, a4, e4]) (fun t => ?_)
        have hF : FX X (si.only (o.looksAt ops)) β w = FX X s0 β w := FX.same (X := X) (a1.trans e1) β w
        rw [hF]
        rcases look_lookEnv si.env (o.looksAt ops) t with h | ⟨hin2, h⟩
        · show Rep _ β w _ (look (lookEnv si.env (o.looksAt ops)) t)
          rw [h]; exact .ro _ _ (.junk _)
        · show Rep _ β w _ (look (lookEnv si.env (o.looksAt ops)) t)
          rw [h, a5]
          refine hknown listed β a w hm j (by omega) t (fun hnt k ok hk hok hd => ?_)
          obtain ⟨h1, h2⟩ := (hdep j k o ok t hjn hk hoj hok hd).2 hin2
          obtain ⟨o', ho', e, he, hb, hon⟩ := Region.waitsFor_spec h2
          have : o' = o := Option.some.inj (ho'.symm.trans hoj)
          subst this
          exact ⟨h1, by rw [← hon]; exact hall' e he hb⟩
      have hcount : (listed.setIfInBounds j true).toList.count false = fuel := by
        have hl : j < listed.toList.length := by simp [inv.size]; exact hjs
        have hv : listed.toList[j] = false := by
          have hl' : j < listed.size := by simpa using hl
          simpa [hl'] using hju
        rw [Array.toList_setIfInBounds, List.count_set hl, hv, hc]
        simp
      have hnext : ∀ v w', w.grownBy w' none → Rep (FX X s0 β w') β w' v (ds j) → wpAny X.P .any ops Q fuel (listed.setIfInBounds j true) (a.put o.dst v) w' := by
        intro v w' hg hrep
        refine ih _ β _ w' hcount (inv.set hj hjn) ?_
        have hrel0 : Rel X ⟨[], s0.nt, s0.objs, s0.g, s0.pin⟩ β a w := (hm.heap.same (st' := ⟨[], s0.nt, s0.objs, s0.g, s0.pin⟩) rfl rfl rfl).toRel hm.defers hm.size (fun t => .ro _ _ (.junk _))
        have hgrow := hrel0.grown hg
        have hup : ∀ {v d}, Rep (FX X s0 β w) β w v d → Rep (FX X s0 β w') β w' v d := fun h => grown_rep hrel0 hg h
        have hsame : ∀ t, (o.dst = some t → ¬ t < s0.nt) → (a.put o.dst v).tmps.getD t undef = a.tmps.getD t undef := by
          intro t ht
          cases hd : o.dst with
          | none => rfl
          | some u =>
            by_cases hut : u = t
            · subst hut
              have hnt := ht hd
              have : ¬ u < a.tmps.size := by rw [hm.size]; exact hnt
              simp [Act.put, this]
            · simp [Act.put, Array.getElem?_setIfInBounds_ne hut]
        refine ⟨hgrow.toW.same rfl rfl rfl, by cases o.dst <;> exact hm.defers, ?_, fun i oi t hi hoi hd hnt hl => ?_, fun t ht => ?_⟩
        · cases hd : o.dst <;> simp [Act.put, hm.size]
        · by_cases hij : i = j
          · subst hij
            have : oi = o := Option.some.inj (hoi.symm.trans hoj)
            subst this
            have hts : t < a.tmps.size := by rw [hm.size]; exact hnt
            have : (a.put oi.dst v).tmps.getD t undef = v := by simp [Act.put, hd, hts]
            rw [this]
            exact hrep
          · rw [hsame t (fun hod => by
              rcases (hdep j i o oi t hjn hi hoj hoi hd).1 with h | h
              · exact absurd h.symm hij
              · exact absurd hod h)]
            rw [getD_set_ne false (Ne.symm hij)] at hl
            exact hup (hm.done i oi t hi hoi hd hnt hl)
        · rw [hsame t (fun hod hnt => ht hnt j o hjn hoj hod)]
          exact hup (hm.base t ht)
      have hFX : ∀ w', FX X (si.only (o.looksAt ops)) β w' = FX X s0 β w' := fun w' => FX.same (X := X) (a1.trans e1) β w'
      unfold wpOp
      simp only [hoj]
      rcases hyield with ⟨hg, hy⟩ | ⟨jg, want, t, hg, hjt, hcase⟩
      · rw [if_pos (by simp [Region.wanted, hg])]
        exact .inl (hy β a w _ _ hsee (fun v w' hgr hrep => hnext v w' hgr (by rw [← hFX]; exact hrep)))
      · have htl2 : t ∈ o.looksAt ops := by
          unfold Oper.looksAt
          rw [hg]
          exact List.mem_append_right _ (by simp [hjt])
        have hl2 : look (si.only (o.looksAt ops)).env t = look (sts j).env t := by
          show look (lookEnv si.env (o.looksAt ops)) t = _
          have : ∀ (ts : List Nat), t ∈ ts → look (lookEnv si.env ts) t = look si.env t := by
            intro ts
            induction ts with
            | nil => intro h; cases h
            | cons u r ihr =>
              intro h
              simp only [lookEnv, look]
              cases hb : Nat.beq t u with
              | true => have := Nat.eq_of_beq_eq_true hb; subst this; rfl
              | false =>
                refine ihr ?_
                rcases List.mem_cons.1 h with h | h
                · subst h; simp at hb
                · exact h
          rw [this _ htl2, a5]
        rcases hcase with ⟨hc1, hyy⟩ | ⟨hc1 | hc1, hjunk⟩
        · have hy := yielded_of (ops := ops) hsee hjt (hl2.trans hc1)
          rw [if_pos (by simp [Region.wanted, hg, hy])]
          exact .inl (hyy β a w _ _ hsee (fun v w' hgr hrep => hnext v w' hgr (by rw [← hFX]; exact hrep)))
        · have hy := yielded_of (ops := ops) hsee hjt (hl2.trans hc1)
          rw [if_neg (by simp [Region.wanted, hg, hy])]
          exact hnext undef w (grownBy_refl w) (by rw [hjunk]; exact rep_undef)
        · have hy := unyielded_of (ops := ops) hsee hjt (hl2.trans hc1)
          rw [if_neg (by simp [Region.wanted, hg, hy])]
          exact hnext undef w (grownBy_refl w) (by rw [hjunk]; exact rep_undef)
end
end Go.Eng
