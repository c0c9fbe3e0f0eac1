/-
  The engine: append into a part, copy, clear, cap, nil tests as operations on states.
  No conditions.
-/
import Derived.Test.YthhmhmbdfahkjaaEngJ
namespace Go.Eng
open Go Go.RowKit

/-- The elements that are read of a slice, by value. -/
theorem elemsR_out {X : Ctx} {st : St} {s : Nat} {d : D} {K : List (List D) → Prop} (h : elemsD st s d K) (hs0 : 0 < s) :
    ∃ xs, K xs ∧ ∀ β a w v, Rel X st β a w → Rep (FX X st β w) β w v d → NewsAt (FX X st β w) w s v xs := by
  unfold elemsD at h
  split at h
  · rename_i s' es
    cases hb : Nat.beq s' s with
    | false => rw [hb] at h; exact h.elim
    | true =>
      rw [hb] at h
      have := Nat.eq_of_beq_eq_true hb
      subst this
      exact ⟨_, h, fun β a w v hr he => news_sl hs0 he.sl_inv⟩
  · rename_i o
    split at h
    · rename_i e' s' es ho
      cases hb : Nat.beq s' s with
      | false => rw [hb] at h; exact h.elim
      | true =>
        rw [hb] at h
        have := Nat.eq_of_beq_eq_true hb
        subst this
        exact ⟨_, h, fun β a w v hr he => news_row (hr.row ho he.h_inv)⟩
    · exact h.elim
  · rename_i o s2 lo hi
    split at h
    · rename_i e' s' es ho
      cases hb : (Nat.beq s' s && Nat.beq s2 s) with
      | false => rw [hb] at h; exact h.elim
      | true =>
        rw [hb] at h
        obtain ⟨hb3, h⟩ := NeedS.out h
        obtain ⟨hb1, hb2⟩ := and_true' hb
        have := Nat.eq_of_beq_eq_true hb1
        subst this
        have := Nat.eq_of_beq_eq_true hb2
        subst this
        refine ⟨_, h, fun β a w v hr he => ?_⟩
        obtain ⟨y, hy, hsub⟩ := he.hs_inv
        exact news_sub hs0 (hr.row ho hy) hsub hb3
    · rename_i e' s' es c ho
      cases hb : (Nat.beq s' s && Nat.beq s2 s) with
      | false => rw [hb] at h; exact h.elim
      | true =>
        rw [hb] at h
        obtain ⟨hb3, h⟩ := NeedS.out h
        obtain ⟨hb1, hb2⟩ := and_true' hb
        have := Nat.eq_of_beq_eq_true hb1
        subst this
        have := Nat.eq_of_beq_eq_true hb2
        subst this
        refine ⟨_, h, fun β a w v hr he => ?_⟩
        obtain ⟨y, hy, hsub⟩ := he.hs_inv
        exact news_blk hs0 (hr.ownBlk ho hy) hsub hb3
    · exact h.elim
  · exact ⟨_, h, fun β a w v hr he => .inl ⟨0, he.v_inv, rfl⟩⟩
  · exact h.elim

/-! ### append -/
def appPartD (P : Program) (st : St) (dst : Option Nat) (t : TypeId) (b x : D) (K : St → Prop) : Prop :=
  match P.underlying t with
  | some (.slice e) => match b with
    | .hs o s2 a p => match st.obj o with
      | .row e' s es => bif Nat.beq e e' && Nat.beq s (P.cellsOf e) && Nat.beq s2 s && Nat.beq a 0 && Nat.blt 0 s then
          elemsD st s x fun xs => NeedS (p + xs.length ≤ es.length) (setK st o (.row e' s (es.take p ++ (xs ++ es.drop (p + xs.length)))) fun st => putK st dst (.hs o s 0 (p + xs.length)) K) else False
      | _ => False
    | _ => False
  | _ => False

section
variable {X : Ctx} {st : St} {β : Nat → Option Value} {a : Act} {w : World} {K : St → Prop} {Q : Exit → Act → World → Prop}

theorem and5 {a b c d e : Bool} (h : (a && b && c && d && e) = true) : a = true ∧ b = true ∧ c = true ∧ d = true ∧ e = true := by
  simp only [Bool.and_eq_true] at h
  exact ⟨h.1.1.1.1, h.1.1.1.2, h.1.1.2, h.1.2, h.2⟩

theorem run_append_op {P : Program} {o : Oper} {a : Act} {w : World} {t u : TypeId} {s x : Operand} (ho : o.op = .call { callee := .builtin .append, args := #[s, x], argTypes := #[t, u] }) {r : Result Value} (hr : (Builtin.append_ #[t, u] o.type #[a.eval s, a.eval x]).run P w = r) :
    (execOp a.eval o).run P w = r.andThen fun v w' => .ok (.value v) w' := by
  simp only [execOp, ho, resolve, invoke, builtin, Sem.run_bind, Sem.run_pure, Result.andThen_ok, List.map_toArray, List.map_cons, List.map_nil, hr]

theorem appPart_sound {o : Oper} {t : TypeId} {s x : Operand} (ho : o.op = .call { callee := .builtin .append, args := #[s, x], argTypes := #[t, t] }) (h : appPartD X.P st o.dst t (st.ev s) (st.ev x) K) (hr : Rel X st β a w) :
    o.wp X.P a w (PostR X K) Q := by
  unfold appPartD at h
  split at h
  · rename_i e ht
    split at h
    · rename_i oo s2 a0 p hs
      split at h
      · rename_i e' sz es hob
        cases hb : (Nat.beq e e' && Nat.beq sz (X.P.cellsOf e) && Nat.beq s2 sz && Nat.beq a0 0 && Nat.blt 0 sz) with
        | false => rw [hb] at h; exact h.elim
        | true =>
          rw [hb] at h
          obtain ⟨g1, g2, g3, g4, g5⟩ := and5 hb
          have g1 := Nat.eq_of_beq_eq_true g1
          have g2 := Nat.eq_of_beq_eq_true g2
          have g3 := Nat.eq_of_beq_eq_true g3
          have g4 := Nat.eq_of_beq_eq_true g4
          have g5 : 0 < sz := by simpa [Nat.blt_eq] using g5
          subst g1 g3 g4
          simp only [cond_true] at h
          obtain ⟨xs, hk, hnews⟩ := elemsR_out (X := X) h g5
          obtain ⟨hroom, hk⟩ := NeedS.out hk
          have hk := putK_out (setK_out hk)
          have hes := hr.ev s
          rw [hs] at hes
          obtain ⟨y, hy, hsub⟩ := hes.hs_inv
          cases hi : X.P.info? e with
          | none => simp [Program.cellsOf, hi] at g2; omega
          | some i =>
            have hsz : i.size = s2 := by rw [g2]; simp [Program.cellsOf, hi]
            obtain ⟨v', w', hrun, hg, hsub', hown⟩ := append_part (ty := o.type) ht hi hsz g5 (hr.row hob hy) hsub (hnews β a w _ hr (hr.ev x)) hroom
            have hn := hr.store hy hg (.row e s2 (es.take p ++ (xs ++ es.drop (p + xs.length)))) trivial (fun F' hF => hown F' hF)
            exact wp_value (v := v') (w' := w') (by rw [run_append_op ho hrun]; rfl) ⟨_, _, hk, hn.put _ (.hs _ _ _ _ _ _ hy hsub')⟩
      · exact h.elim
    · exact h.elim
  · exact h.elim

/-- append of zeros to a part of a row whose capacity is known: a new row. -/
def appZeroD (P : Program) (st : St) (dst : Option Nat) (t u : TypeId) (b x : D) (K : St → Prop) : Prop :=
  match P.underlying t, P.underlying u with
  | some (.slice e), some (.int _) => zeroD P e fun z => match b, x with
    | .hs o s2 a p, .int _ n => match st.obj o with
      | .blk e' s es c => bif Nat.beq e e' && Nat.beq s (P.cellsOf e) && Nat.beq s2 s && Nat.beq a 0 && Nat.blt 0 s && (Nat.beq z.length (P.cellsOf e) && Nat.blt 0 (P.bytesOf e) && z.all noH0) then
          NeedS (0 < n ∧ p ≤ es.length ∧ (c : Int) < p + n ∧ 0 < c) (AskS ((p + n.toNat) * P.bytesOf e ≤ 140737488355328) (pushK st (.row e' s (es.take p ++ List.replicate n.toNat z)) fun m st => putK st dst (.h m) K)) else False
      | _ => False
    | _, _ => False
  | _, _ => False

theorem appZero_sound {o : Oper} {t u : TypeId} {s x : Operand} (ho : o.op = .call { callee := .builtin .append, args := #[s, x], argTypes := #[t, u] }) (h : appZeroD X.P st o.dst t u (st.ev s) (st.ev x) K) (hr : Rel X st β a w) :
    o.wp X.P a w (PostR X K) Q := by
  unfold appZeroD at h
  split at h
  · rename_i e kn ht hu
    obtain ⟨z, i, hi, hz, hf, hk, hzr⟩ := zeroD_sound h
    clear h
    split at hk
    · rename_i oo s2 a0 p kk n hs hx
      split at hk
      · rename_i e' sz es c hob
        cases hb : (Nat.beq e e' && Nat.beq sz (X.P.cellsOf e) && Nat.beq s2 sz && Nat.beq a0 0 && Nat.blt 0 sz && (Nat.beq (ofV z).cells.length (X.P.cellsOf e) && Nat.blt 0 (X.P.bytesOf e) && (ofV z).cells.all noH0)) with
        | false => rw [hb] at hk; exact hk.elim
        | true =>
          rw [hb] at hk
          obtain ⟨hb1, hb2⟩ := and_true' hb
          obtain ⟨g1, g2, g3, g4, g5⟩ := and5 hb1
          simp only [Bool.and_eq_true] at hb2
          obtain ⟨⟨g6, g7⟩, g8⟩ := hb2
          have g1 := Nat.eq_of_beq_eq_true g1
          have g2 := Nat.eq_of_beq_eq_true g2
          have g3 := Nat.eq_of_beq_eq_true g3
          have g4 := Nat.eq_of_beq_eq_true g4
          have g5 : 0 < sz := by simpa [Nat.blt_eq] using g5
          have g6 := Nat.eq_of_beq_eq_true g6
          have g7 : 0 < X.P.bytesOf e := by simpa [Nat.blt_eq] using g7
          subst g1 g3 g4
          simp only [cond_true] at hk
          obtain ⟨⟨n0, n1, n2, n3⟩, hk⟩ := NeedS.out hk
          obtain ⟨hbytes, hk⟩ := AskS.out hk
          have hk := putK_out (pushK_out hk)
          have hes := hr.ev s
          rw [hs] at hes
          obtain ⟨y, hy, hsub⟩ := hes.hs_inv
          have hex := hr.ev x
          rw [hx] at hex
          have hxv := hex.int_inv
          have hnn : n = ((n.toNat : Nat) : Int) := by omega
          rw [hnn] at hxv
          have hsz : i.size = s2 := by rw [g2]; simp [Program.cellsOf, hi]
          have hby : i.bytes = X.P.bytesOf e := by simp [Program.bytesOf, hi]
          have hzc : CellsRep (fun _ => False) (fun _ => none) w z.cells.toList (ofV z).cells := flat_cells hf
          have hzs : z.cells.size = s2 := by have := hzc.1; simp at this; omega
          obtain ⟨v', w', hrun, hg, hwh, hown⟩ := append_zeros (ty := o.type) (kk := kk) (n := n.toNat) ht hu hi hz hsz hzc hzs g8 g5 (hr.ownBlk hob hy) hsub n1 (by omega) n3 (by omega) (by rw [hby]; exact hbytes) (by rw [hby]; exact g7)
          rw [← hxv] at hrun
          have hn := hr.newRow' (w' := w') (e := e) (s := s2) (es := es.take p ++ List.replicate n.toNat (ofV z).cells) (x := v') hg hwh (fun F' hF => hown F' hF)
          exact wp_value (v := v') (w' := w') (by rw [run_append_op ho hrun]; rfl) ⟨_, _, hk, hn.put _ (rep_newh hr (.row e s2 (es.take p ++ List.replicate n.toNat (ofV z).cells)) _ _ _)⟩
      · exact hk.elim
    · exact hk.elim
  · exact h.elim

/-! ### copy, clear -/
/-- A slice of which no more than k elements are read. -/
def short (k : Nat) : D → D
  | .hs o s a b => .hs o s a (min b (a + k))
  | d => d
def copyD (P : Program) (st : St) (dst : Option Nat) (t : TypeId) (b x : D) (K : St → Prop) : Prop :=
  match P.underlying t with
  | some (.slice e) => match b with
    | .hs o s2 a p => match st.obj o with
      | .row e' s es => bif Nat.beq e e' && Nat.beq s (P.cellsOf e) && Nat.beq s2 s && true && Nat.blt 0 s then
          elemsD st s (short (p - a) x) fun xs => NeedS (p ≤ es.length) (setK st o (.row e' s (es.take a ++ (xs.take (p - a) ++ es.drop (a + (xs.take (p - a)).length)))) fun st => putK st dst .junk K) else False
      | .blk e' s es c => bif Nat.beq e e' && Nat.beq s (P.cellsOf e) && Nat.beq s2 s && true && Nat.blt 0 s then
          elemsD st s (short (p - a) x) fun xs => NeedS (p ≤ c ∧ a ≤ es.length) (setK st o (.blk e' s (es.take a ++ (xs.take (p - a) ++ es.drop (a + (xs.take (p - a)).length))) c) fun st => putK st dst .junk K) else False
      | _ => False
    | _ => False
  | _ => False

theorem short_run {P : Program} {F : Nat → Prop} {w : World} {t u ty e : TypeId} {i : TypeInfo} (ht : P.underlying t = some (.slice e)) (hi : P.info? e = some i) {q : Option Addr} {dl dc : Nat} {d : D} {v : Value} (hv : Rep F β w v d) :
    ∃ v', Rep F β w v' (short dl d) ∧ (Builtin.copy_ #[t, u] ty #[.slice q dl dc, v]).run P w = (Builtin.copy_ #[t, u] ty #[.slice q dl dc, v']).run P w := by
  cases d with
  | hs o s a b =>
    obtain ⟨y, hy, p, len, cap, q2, hyv, hab, hb, hlc, rfl, hq⟩ := hv.hs_inv
    refine ⟨.slice q2 (min b (a + dl) - a) (cap - a), .hs _ _ _ _ _ _ hy ⟨p, len, cap, q2, hyv, by omega, by omega, hlc, rfl, hq⟩, ?_⟩
    have e1 : Nat.min (b - a) dl = Nat.min (min b (a + dl) - a) dl := by
      show min (b - a) dl = min (min b (a + dl) - a) dl
      omega
    have e2 : ∀ n m c, Builtin.firstCells i.size n (.slice q2 m c) = Builtin.firstCells i.size n (.slice q2 (b - a) (cap - a)) := by
      intro n m c
      cases q2 <;> rfl
    simp [Builtin.copy_, run_underlying ht, sizeOf, typeInfo, hi, Builtin.lenOf, e1, e2]
  | _ => exact ⟨v, hv, rfl⟩

theorem run_copy_op {P : Program} {o : Oper} {a : Act} {w : World} {t u : TypeId} {s x : Operand} (ho : o.op = .call { callee := .builtin .copy, args := #[s, x], argTypes := #[t, u] }) {r : Result Value} (hr : (Builtin.copy_ #[t, u] o.type #[a.eval s, a.eval x]).run P w = r) :
    (execOp a.eval o).run P w = r.andThen fun v w' => .ok (.value v) w' := by
  simp only [execOp, ho, resolve, invoke, builtin, Sem.run_bind, Sem.run_pure, Result.andThen_ok, List.map_toArray, List.map_cons, List.map_nil, hr]

theorem copy_sound {o : Oper} {t u : TypeId} {s x : Operand} (ho : o.op = .call { callee := .builtin .copy, args := #[s, x], argTypes := #[t, u] }) (h : copyD X.P st o.dst t (st.ev s) (st.ev x) K) (hr : Rel X st β a w) :
    o.wp X.P a w (PostR X K) Q := by
  unfold copyD at h
  split at h
  · rename_i e ht
    split at h
    · rename_i oo s2 a0 p hs
      have hes := hr.ev s
      rw [hs] at hes
      obtain ⟨y, hy, hsub⟩ := hes.hs_inv
      have hsub0 := hsub
      obtain ⟨p0, len, cap, q, hyv, hab, hbc, hlc, hsv, hq⟩ := hsub0
      have hrunx : ∀ i, X.P.info? e = some i → ∃ v', Rep (FX X st β w) β w v' (short (p - a0) (st.ev x)) ∧ ∀ r, (Builtin.copy_ #[t, u] o.type #[a.eval s, v']).run X.P w = r → (execOp a.eval o).run X.P w = r.andThen fun v w' => .ok (.value v) w' := by
        intro i hi
        obtain ⟨v', hv', e1⟩ := short_run (P := X.P) (u := u) (ty := o.type) (q := q) (dl := p - a0) (dc := cap - a0) ht hi (hr.ev x)
        refine ⟨v', hv', fun r hrr => run_copy_op ho ?_⟩
        rw [hsv] at hrr ⊢
        rw [e1]
        exact hrr
      split at h
      · rename_i e' sz es hob
        cases hb : (Nat.beq e e' && Nat.beq sz (X.P.cellsOf e) && Nat.beq s2 sz && true && Nat.blt 0 sz) with
        | false => rw [hb] at h; exact h.elim
        | true =>
          rw [hb] at h
          obtain ⟨g1, g2, g3, _, g5⟩ := and5 hb
          have g1 := Nat.eq_of_beq_eq_true g1
          have g2 := Nat.eq_of_beq_eq_true g2
          have g3 := Nat.eq_of_beq_eq_true g3
          have g5 : 0 < sz := by simpa [Nat.blt_eq] using g5
          subst g1 g3
          simp only [cond_true] at h
          obtain ⟨xs, hk, hnews⟩ := elemsR_out (X := X) h g5
          obtain ⟨hroom, hk⟩ := NeedS.out hk
          have hk := putK_out (setK_out hk)
          cases hi : X.P.info? e with
          | none => simp [Program.cellsOf, hi] at g2; omega
          | some i =>
            have hsz : i.size = s2 := by rw [g2]; simp [Program.cellsOf, hi]
            obtain ⟨v', hv', hx'⟩ := hrunx i hi
            obtain ⟨y', w', hrun, hg, hown⟩ := copy_row (ty := o.type) (u := u) ht hi hsz g5 (hr.row hob hy) hsub (hnews β a w _ hr hv') hroom
            have hn := hr.store hy hg (.row e s2 (es.take a0 ++ (xs.take (p - a0) ++ es.drop (a0 + (xs.take (p - a0)).length)))) trivial (fun F' hF => hown F' hF)
            exact wp_value (v := y') (w' := w') (by rw [hx' _ hrun]; rfl) ⟨_, _, hk, hn.put _ (.ro _ _ (.junk _))⟩
      · rename_i e' sz es c hob
        cases hb : (Nat.beq e e' && Nat.beq sz (X.P.cellsOf e) && Nat.beq s2 sz && true && Nat.blt 0 sz) with
        | false => rw [hb] at h; exact h.elim
        | true =>
          rw [hb] at h
          obtain ⟨g1, g2, g3, _, g5⟩ := and5 hb
          have g1 := Nat.eq_of_beq_eq_true g1
          have g2 := Nat.eq_of_beq_eq_true g2
          have g3 := Nat.eq_of_beq_eq_true g3
          have g5 : 0 < sz := by simpa [Nat.blt_eq] using g5
          subst g1 g3
          simp only [cond_true] at h
          obtain ⟨xs, hk, hnews⟩ := elemsR_out (X := X) h g5
          obtain ⟨⟨hroom, hroom2⟩, hk⟩ := NeedS.out hk
          have hk := putK_out (setK_out hk)
          cases hi : X.P.info? e with
          | none => simp [Program.cellsOf, hi] at g2; omega
          | some i =>
            have hsz : i.size = s2 := by rw [g2]; simp [Program.cellsOf, hi]
            obtain ⟨v', hv', hx'⟩ := hrunx i hi
            obtain ⟨y', w', hrun, hg, hown⟩ := copy_blk (ty := o.type) (u := u) ht hi hsz (hr.ownBlk hob hy) hsub (hnews β a w _ hr hv') hroom hroom2
            have hn := hr.store hy hg (.blk e s2 (es.take a0 ++ (xs.take (p - a0) ++ es.drop (a0 + (xs.take (p - a0)).length))) c) trivial (fun F' hF => hown F' hF)
            exact wp_value (v := y') (w' := w') (by rw [hx' _ hrun]; rfl) ⟨_, _, hk, hn.put _ (.ro _ _ (.junk _))⟩
      · exact h.elim
    · exact h.elim
  · exact h.elim

def clearD (P : Program) (st : St) (dst : Option Nat) (t : TypeId) (b : D) (K : St → Prop) : Prop :=
  match P.underlying t with
  | some (.slice e) => zeroD P e fun z => match b with
    | .hs o s2 a p => match st.obj o with
      | .row e' s es => bif Nat.beq e e' && Nat.beq s (P.cellsOf e) && Nat.beq s2 s && z.all noH0 && Nat.blt 0 s && Nat.beq z.length (P.cellsOf e) then
          NeedS (p ≤ es.length) (setK st o (.row e' s (es.take a ++ (List.replicate (p - a) z ++ es.drop (a + (List.replicate (p - a) z).length)))) fun st => putK st dst .junk K) else False
      | _ => False
    | _ => False
  | _ => False

theorem clear_sound {o : Oper} {t : TypeId} {s : Operand} (ho : o.op = .call { callee := .builtin .clear, args := #[s], argTypes := #[t] }) (h : clearD X.P st o.dst t (st.ev s) K) (hr : Rel X st β a w) :
    o.wp X.P a w (PostR X K) Q := by
  unfold clearD at h
  split at h
  · rename_i e ht
    obtain ⟨z, i, hi, hz, hf, hk, hzr⟩ := zeroD_sound h
    clear h
    split at hk
    · rename_i oo s2 a0 p hs
      have hes := hr.ev s
      rw [hs] at hes
      obtain ⟨y, hy, hsub⟩ := hes.hs_inv
      split at hk
      · rename_i e' sz es hob
        cases hb : (Nat.beq e e' && Nat.beq sz (X.P.cellsOf e) && Nat.beq s2 sz && (ofV z).cells.all noH0 && Nat.blt 0 sz && Nat.beq (ofV z).cells.length (X.P.cellsOf e)) with
        | false => rw [hb] at hk; exact hk.elim
        | true =>
          rw [hb] at hk
          obtain ⟨hb, g6⟩ := and_true' hb
          obtain ⟨g1, g2, g3, g4, g5⟩ := and5 hb
          have g1 := Nat.eq_of_beq_eq_true g1
          have g2 := Nat.eq_of_beq_eq_true g2
          have g3 := Nat.eq_of_beq_eq_true g3
          have g5 : 0 < sz := by simpa [Nat.blt_eq] using g5
          have g6 := Nat.eq_of_beq_eq_true g6
          subst g1 g3
          simp only [cond_true] at hk
          obtain ⟨hroom, hk⟩ := NeedS.out hk
          have hk := putK_out (setK_out hk)
          have hzc : CellsRep (fun _ => False) (fun _ => none) w z.cells.toList (ofV z).cells := flat_cells hf
          have hzs : z.cells.size = s2 := by have := hzc.1; simp at this; omega
          obtain ⟨y', w', hrun, hg, hown⟩ := clear_row (ty := o.type) ht hzr hzc hzs g4 g5 (hr.row hob hy) hsub hroom
          have hn := hr.store hy hg (.row e s2 (es.take a0 ++ (List.replicate (p - a0) (ofV z).cells ++ es.drop (a0 + (List.replicate (p - a0) (ofV z).cells).length)))) trivial (fun F' hF => hown F' hF)
          refine wp_value (v := y') (w' := w') ?_ ⟨_, _, hk, hn.put _ (.ro _ _ (.junk _))⟩
          simp only [execOp, ho, resolve, invoke, builtin, Sem.run_bind, Sem.run_pure, Result.andThen_ok, List.map_toArray, List.map_cons, List.map_nil, hrun]
      · exact hk.elim
    · exact hk.elim
  · exact h.elim
end
end Go.Eng
