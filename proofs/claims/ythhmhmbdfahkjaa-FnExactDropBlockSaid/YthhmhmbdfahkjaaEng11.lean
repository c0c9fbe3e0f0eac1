/-
  The engine, eleventh part. The model follows the rules of the pure operations: composite values, len, min, max; all pure operations together.
  No conditions.
-/
import Derived.Test.YthhmhmbdfahkjaaEng10
namespace Go.Eng
open Go Go.RowKit

theorem setL_spec {α : Type} : ∀ (l : List α) (k : Nat) (ds : List α), k + ds.length ≤ l.length →
    (setL l k ds).length = l.length ∧ ∀ i, (setL l k ds)[i]? = if k ≤ i ∧ i < k + ds.length then ds[i - k]? else l[i]?
  | l, 0, [], _ => by
    have : setL l 0 ([] : List α) = l := by cases l <;> rfl
    rw [this]
    refine ⟨rfl, fun i => ?_⟩
    rw [if_neg (by simp)]
  | [], 0, _ :: _, h => by simp at h
  | c :: r, 0, d :: ds, h => by
    obtain ⟨h1, h2⟩ := setL_spec r 0 ds (by simp at h ⊢; omega)
    refine ⟨by simp [setL, h1], fun i => ?_⟩
    cases i with
    | zero => simp [setL]
    | succ i =>
      have := h2 i
      simp only [setL, List.getElem?_cons_succ, List.length_cons, Nat.zero_add, Nat.zero_le, true_and, Nat.sub_zero] at this ⊢
      rw [this]
      by_cases hi : i < ds.length
      · rw [if_pos hi, if_pos (by omega)]
      · rw [if_neg hi, if_neg (by omega)]
  | [], k + 1, ds, h => by simp at h
  | c :: r, k + 1, ds, h => by
    obtain ⟨h1, h2⟩ := setL_spec r k ds (by simp at h ⊢; omega)
    have e : setL (c :: r) (k + 1) ds = c :: setL r k ds := by cases ds <;> rfl
    rw [e]
    refine ⟨by simp [h1], fun i => ?_⟩
    cases i with
    | zero => simp
    | succ i =>
      rw [List.getElem?_cons_succ, h2 i, List.getElem?_cons_succ]
      by_cases hi : k ≤ i ∧ i < k + ds.length
      · rw [if_pos hi, if_pos (by omega)]; congr 1; omega
      · rw [if_neg hi, if_neg (by omega)]

theorem foldl_set (off : Nat) : ∀ (vs : List Value) (n : Nat) (c : Array Value), off + n + vs.length ≤ c.size →
    ((vs.zipIdx n).foldl (fun cs p => cs.setIfInBounds (off + p.2) p.1) c).toList = setL c.toList (off + n) vs
  | [], n, c, _ => by
    apply List.ext_getElem?
    intro i
    by_cases h : off + n ≤ c.toList.length
    · rw [(setL_spec c.toList (off + n) [] (by simpa using h)).2 i, if_neg (by simp only [List.length_nil]; omega)]
      simp
    · simp at h; omega
  | v :: vs, n, c, h => by
    simp only [List.zipIdx_cons, List.foldl_cons]
    have hl : off + (n + 1) + vs.length ≤ (c.setIfInBounds (off + n) v).size := by simp at h ⊢; omega
    rw [foldl_set off vs (n + 1) _ hl]
    have h2 : off + n + (v :: vs).length ≤ c.toList.length := by simp at h ⊢; omega
    have h3 : off + (n + 1) + vs.length ≤ (c.setIfInBounds (off + n) v).toList.length := by simp at h ⊢; omega
    apply List.ext_getElem?
    intro i
    rw [(setL_spec _ _ _ h2).2 i, (setL_spec _ _ _ h3).2 i]
    simp only [Array.toList_setIfInBounds, List.length_cons]
    by_cases h4 : off + (n + 1) ≤ i ∧ i < off + (n + 1) + vs.length
    · rw [if_pos h4, if_pos (by omega)]
      have : i - (off + n) = (i - (off + (n + 1))) + 1 := by omega
      rw [this, List.getElem?_cons_succ]
    · rw [if_neg h4]
      by_cases h5 : i = off + n
      · subst h5
        have : off + n < c.toList.length := by simp at h2 ⊢; omega
        rw [if_pos (by omega), List.getElem?_set_self this]
        simp
      · rw [if_neg (by omega), List.getElem?_set_ne (by omega)]

section
variable {X : Ctx} {st : St}

/-- The cells of a value, and of its data. -/
def CellsRep (F : Nat → Prop) (β : Nat → Option Value) (w : World) (vs : List Value) (ds : List D) : Prop :=
  vs.length = ds.length ∧ (∀ u ∈ vs, u.oneCell' = true) ∧ ∀ j, j < ds.length → Rep F β w (vs.getD j undef) (ds.getD j .junk)

theorem CellsRep.setL {F : Nat → Prop} {β : Nat → Option Value} {w : World} {vs us : List Value} {ds es : List D} {k : Nat} (h : CellsRep F β w vs ds) (g : CellsRep F β w us es) (hk : k + es.length ≤ ds.length) :
    CellsRep F β w (Eng.setL vs k us) (Eng.setL ds k es) := by
  obtain ⟨h1, h2, h3⟩ := h
  obtain ⟨g1, g2, g3⟩ := g
  have hv := setL_spec vs k us (by omega)
  have hd := setL_spec ds k es hk
  refine ⟨by rw [hv.1, hd.1, h1], fun u hu => ?_, fun j hj => ?_⟩
  · obtain ⟨i, hi⟩ := List.mem_iff_getElem?.1 hu
    rw [hv.2 i] at hi
    split at hi
    · exact g2 u (List.mem_iff_getElem?.2 ⟨_, hi⟩)
    · exact h2 u (List.mem_iff_getElem?.2 ⟨_, hi⟩)
  · rw [hd.1] at hj
    rw [List.getD_eq_getElem?_getD, List.getD_eq_getElem?_getD, hv.2 j, hd.2 j, g1]
    by_cases hc : k ≤ j ∧ j < k + es.length
    · rw [if_pos hc, if_pos hc, ← List.getD_eq_getElem?_getD, ← List.getD_eq_getElem?_getD]
      exact g3 _ (by omega)
    · rw [if_neg hc, if_neg hc, ← List.getD_eq_getElem?_getD, ← List.getD_eq_getElem?_getD]
      exact h3 j hj

theorem Rel.cellsRep {β : Nat → Option Value} {a : Act} {w : World} (h : Rel X st β a w) {v : Value} {d : D} (hd : okCells d = true) (hv : Rep (FX X st β w) β w v d) :
    CellsRep (FX X st β w) β w v.cells.toList d.cells := by
  obtain ⟨h1, h2, h3⟩ := h.cells hd hv
  exact ⟨by simpa using h1, h2, h3⟩

theorem fill_sound (place : Nat → Option (Nat × Nat)) : ∀ (ps : List (Nat × Operand)) (cells : List D) (K : List D → Prop), fillD place cells (ps.map fun p => (p.1, st.ev p.2)) K →
    ∃ cs, K cs ∧ ∀ β a w, Rel X st β a w → ∀ vc : Array Value, CellsRep (FX X st β w) β w vc.toList cells →
      ∃ vc', Instr.fill place vc (ps.map fun p => (p.1, a.eval p.2)) = some vc' ∧ CellsRep (FX X st β w) β w vc'.toList cs
  | [], cells, K, h => ⟨cells, h, fun β a w _ vc hc => ⟨vc, rfl, hc⟩⟩
  | (i, x) :: ps, cells, K, h => by
    simp only [List.map_cons, fillD] at h
    cases hp : place i with
    | none => rw [hp] at h; exact h.elim
    | some os =>
      obtain ⟨off, size⟩ := os
      rw [hp] at h
      simp only at h
      cases hb : (Nat.beq (st.ev x).cells.length size && Nat.ble (off + size) cells.length && okCells (st.ev x)) with
      | false => rw [hb] at h; exact h.elim
      | true =>
        rw [hb] at h
        simp only [Bool.and_eq_true] at hb
        obtain ⟨⟨h1, h2⟩, h3⟩ := hb
        have h1 := Nat.eq_of_beq_eq_true h1
        have h2 : off + size ≤ cells.length := by simpa using h2
        obtain ⟨cs, hk, hcs⟩ := fill_sound place ps _ K h
        refine ⟨cs, hk, fun β a w hr vc hc => ?_⟩
        have hx := hr.cellsRep h3 (hr.ev x)
        have hsz : (a.eval x).cells.size = size := by have := hx.1; simp at this; omega
        have hvc : vc.size = cells.length := by have := hc.1; simpa using this
        have hset : (((a.eval x).cells.zipIdx.foldl (fun cs p => cs.setIfInBounds (off + p.2) p.1) vc)).toList = setL vc.toList off (a.eval x).cells.toList := by
          have := foldl_set off (a.eval x).cells.toList 0 vc (by simp; omega)
          rw [Nat.add_zero] at this
          rw [← this]
          congr 1
          rw [← Array.foldl_toList]
          simp
        obtain ⟨vc', hf, hr'⟩ := hcs β a w hr _ (by rw [hset]; exact hc.setL hx (by omega))
        refine ⟨vc', ?_, hr'⟩
        simp only [List.map_cons, Instr.fill, hp]
        rw [if_neg (by simp; omega)]
        exact hf

theorem flat_cells {F : Nat → Prop} {β : Nat → Option Value} {w : World} {z : Value} (h : flatV z = true) : CellsRep F β w z.cells.toList (ofV z).cells := by
  by_cases hz : ∃ cs, z = .agg cs
  · obtain ⟨cs, rfl⟩ := hz
    simp only [flatV] at h
    have e : ofV (.agg cs) = .agg (cs.toList.map ofV0) := by simp only [ofV, h, cond_true]
    rw [e]
    refine ⟨by simp [Value.cells, D.cells], fun u hu => List.all_eq_true.1 h u hu, fun j hj => ?_⟩
    have hj' : j < cs.size := by simpa [D.cells] using hj
    simp only [Value.cells, D.cells, List.getD_eq_getElem?_getD, List.getElem?_map]
    simp [hj']
    exact .ro _ _ (RO.ofV0 _ _ _)
  · have h1 : z.cells = #[z] := by cases z <;> simp_all [Value.cells]
    have h2 : ofV z = ofV0 z := by cases z <;> simp_all [ofV]
    have h3 : (ofV z).cells = [ofV z] := by
      rw [h2]
      cases z with
      | string s => simp only [ofV0]; cases Nat.ble s.data.toList.length 9223372036854775807 <;> rfl
      | agg cs => exact absurd ⟨cs, rfl⟩ hz
      | _ => rfl
    have h4 : z.oneCell' = true := by cases z <;> simp_all [flatV]
    rw [h1, h3]
    refine ⟨rfl, by simpa using h4, fun j hj => ?_⟩
    have : j = 0 := by simpa using hj
    subst this
    exact .ro _ _ (RO.ofV _ _ _)

theorem zeroD_sound {P : Program} {t : TypeId} {K : List D → Prop} (h : zeroD P t K) : ∃ z i, P.info? t = some i ∧ i.zero = some z ∧ flatV z = true ∧ K (ofV z).cells ∧ ∀ w : World, (zeroValue t).run P w = .ok z w := by
  unfold zeroD at h
  split at h
  · rename_i i hi
    split at h
    · rename_i z hz
      cases hf : flatV z with
      | false => rw [hf] at h; exact h.elim
      | true =>
        rw [hf] at h
        exact ⟨z, i, hi, hz, hf, h, fun w => by simp [zeroValue, typeInfo, hi, hz]⟩
    · exact h.elim
  · exact h.elim

theorem run_mapM_list {α β : Type} {P : Program} {w : World} (f : α → Sem β) (g : α → β) : ∀ (l : List α), (∀ x ∈ l, (f x).run P w = .ok (g x) w) → (l.mapM f).run P w = .ok (l.map g) w
  | [], _ => by simp
  | x :: r, h => by
    have h1 := h x (by simp)
    have h2 := run_mapM_list f g r (fun y hy => h y (by simp [hy]))
    simp [List.mapM_cons, h1, h2]

theorem run_places {P : Program} {w : World} {fields : Array Field} (h : fields.toList.all (fun f => (P.info? f.type).isSome) = true) :
    ∃ places : Array (Nat × Nat), (fields.mapM fun f => do pure (f.offset, ← sizeOf f.type) : Sem (Array (Nat × Nat))).run P w = .ok places w ∧ (fun i => places[i]?) = placeD P fields := by
  refine ⟨(fields.toList.map fun f => (f.offset, P.cellsOf f.type)).toArray, ?_, ?_⟩
  · have := run_mapM_list (P := P) (w := w) (fun f : Field => (do pure (f.offset, ← sizeOf f.type) : Sem (Nat × Nat))) (fun f => (f.offset, P.cellsOf f.type)) fields.toList (fun f hf => by
      have hs := List.all_eq_true.1 h f hf
      obtain ⟨i, hi⟩ := Option.isSome_iff_exists.1 hs
      simp [sizeOf, typeInfo, hi, Program.cellsOf])
    rw [Array.mapM_eq_mapM_toList, Sem.run_map, this]
    rfl
  · funext i
    simp only [placeD]
    cases hi : fields[i]? <;> simp [hi]

theorem buildD_sound {K : D → Prop} {t : TypeId} {parts : Array (Nat × Operand)} (h : buildD X.P t (parts.toList.map fun p => (p.1, st.ev p.2)) K) :
    ∃ d, K d ∧ Gives X st (fun ρ => Instr.build t (parts.map fun (i, x) => (i, ρ x))) d := by
  unfold buildD at h
  obtain ⟨z, i, hi, hz, hf, hk, hzr⟩ := zeroD_sound h
  clear h
  have hmap : ∀ ρ : Operand → Value, (parts.map fun (i, x) => (i, ρ x)).toList = parts.toList.map fun p => (p.1, ρ p.2) := by intro ρ; simp
  split at hk
  · rename_i fields ht
    cases hb : fields.toList.all (fun f => (X.P.info? f.type).isSome) with
    | false => rw [hb] at hk; exact hk.elim
    | true =>
      rw [hb] at hk
      obtain ⟨cs, hk, hcs⟩ := fill_sound (X := X) (placeD X.P fields) parts.toList _ _ hk
      refine ⟨_, hk, fun β a w hr => ?_⟩
      obtain ⟨vc, hfill, hrep⟩ := hcs β a w hr z.cells (flat_cells hf)
      obtain ⟨places, hp, hpl⟩ := run_places (P := X.P) (w := w) hb
      refine ⟨.agg vc, ?_, ?_⟩
      · simp only [Instr.build, Sem.run_bind, hzr, Result.andThen_ok, run_underlying ht, hp]
        have hpl' : (fun x => places[x]?) = placeD X.P fields := hpl
        rw [hpl', hmap, hfill]
        rfl
      · have := Rep.agg (F := FX X st β w) (β := β) (w := w) vc.toList cs hrep.1 hrep.2.1 hrep.2.2
        simpa using this
  · rename_i n e ht
    split at hk
    · rename_i ie hie
      obtain ⟨cs, hk, hcs⟩ := fill_sound (X := X) (fun i => some (i * X.P.cellsOf e, X.P.cellsOf e)) parts.toList _ _ hk
      refine ⟨_, hk, fun β a w hr => ?_⟩
      obtain ⟨vc, hfill, hrep⟩ := hcs β a w hr z.cells (flat_cells hf)
      refine ⟨.agg vc, ?_, ?_⟩
      · have hsz : (sizeOf e).run X.P w = .ok (X.P.cellsOf e) w := by simp [sizeOf, typeInfo, hie, Program.cellsOf]
        simp only [Instr.build, Sem.run_bind, hzr, Result.andThen_ok, run_underlying ht, hsz]
        rw [hmap, hfill]
        rfl
      · have := Rep.agg (F := FX X st β w) (β := β) (w := w) vc.toList cs hrep.1 hrep.2.1 hrep.2.2
        simpa using this
    · exact hk.elim
  · exact hk.elim

theorem run_len_string {P : Program} {t ty : TypeId} (ht : P.underlying t = some .string) (s : ByteArray) (w : World) : (Builtin.len_ #[t] ty #[.string s]).run P w = .ok (.int .i64 s.size) w := by
  unfold Builtin.len_
  simp [run_underlying ht, goInt, -ByteArray.size_data]
theorem run_len_slice {P : Program} {t ty e : TypeId} (ht : P.underlying t = some (.slice e)) (a : Option Addr) (n c : Nat) (w : World) : (Builtin.len_ #[t] ty #[.slice a n c]).run P w = .ok (.int .i64 n) w := by
  unfold Builtin.len_
  simp [run_underlying ht, goInt]
theorem run_len_array {P : Program} {t ty e : TypeId} {n : Nat} (ht : P.underlying t = some (.array n e)) (x : Value) (w : World) : (Builtin.len_ #[t] ty #[x]).run P w = .ok (.int .i64 n) w := by
  unfold Builtin.len_
  cases x <;> simp [run_underlying ht, goInt]

theorem lenD_sound {K : D → Prop} {t : TypeId} {x : Operand} {β0 : Nat → Option Value} {a0 : Act} {w0 : World} (hr0 : Rel X st β0 a0 w0) (h : lenD X.P st t (st.ev x) K) :
    ∃ d, K d ∧ ∀ ty, Gives X st (fun ρ => Builtin.len_ #[t] ty #[ρ x]) d := by
  unfold lenD at h
  have he0 := hr0.ev x
  split at h
  · rename_i ht
    split at h
    · rename_i l hx
      rw [hx] at he0
      refine ⟨_, LenS.out h he0.str_len, fun ty β a w hr => ⟨_, ?_, .ro _ _ (.int _ _)⟩⟩
      have he := hr.ev x
      rw [hx] at he
      have hsz : (⟨l.toArray⟩ : ByteArray).size = l.length := by simp [ByteArray.size]
      simp only [he.str_inv]
      rw [run_len_string ht, hsz]
    · exact h.elim
  · rename_i e ht
    split at h
    · rename_i s es hx
      rw [hx] at he0
      refine ⟨_, LenS.out h (sl_len he0.sl_inv).1, fun ty β a w hr => ⟨_, ?_, .ro _ _ (.int _ _)⟩⟩
      have he := hr.ev x
      rw [hx] at he
      rcases he.sl_inv.sl_cases with ⟨rfl, ax, cx, hv⟩ | ⟨b, off, cap, c, hv, _⟩
      · simp only [hv]; rw [run_len_slice ht]; rfl
      · simp only [hv]; rw [run_len_slice ht]
    · rename_i o hx
      split at h
      · rename_i e' s es ho
        rw [hx] at he0
        refine ⟨_, LenS.out h (row_len (hr0.row ho he0.h_inv)).1, fun ty β a w hr => ⟨_, ?_, .ro _ _ (.int _ _)⟩⟩
        have he := hr.ev x
        rw [hx] at he
        obtain ⟨_, ax, cx, hv⟩ := row_len (hr.row ho he.h_inv)
        simp only [hv]; rw [run_len_slice ht]
      · exact h.elim
    · rename_i o s a' b' hx
      rw [hx] at he0
      have hm : b' - a' ≤ maxLen := by
        obtain ⟨y, hy, p, len, cap, q, hyv, _, hbl, _, _, _⟩ := he0.hs_inv
        obtain ⟨z, hz, hoz⟩ := hr0.own o (hr0.dom o y hy).1 (hr0.dom o y hy).2
        rw [hy] at hz
        cases hz
        have hl : cap ≤ maxLen := by
          cases hob : st.obj o with
          | dead => have := (hr0.dom o y hy).2; rw [hob] at this; exact this.elim
          | row e2 s2 es2 =>
            rw [hob] at hoz
            obtain ⟨_, _, xs, how, _⟩ := hoz
            rcases how.2 with ⟨hv, hn⟩ | ⟨g, cap', cur, hv, _, hg, hnc, hcm, _⟩
            · rw [hyv] at hv
              cases hv
              exact Nat.zero_le _
            · rw [hyv] at hv
              cases hv
              exact hcm
          | box cs => rw [hob] at hoz; obtain ⟨_, _, _, h1, _⟩ := hoz; rw [hyv] at h1; cases h1
          | frame vs e => rw [hob] at hoz; have h1 := hoz.1; rw [hyv] at h1; cases h1
          | blk e2 s2 cs2 c2 =>
            rw [hob] at hoz
            obtain ⟨g2, cur2, hv, _, _, hm2, _⟩ := hoz
            rw [hyv] at hv
            cases hv
            exact hm2
        omega
      refine ⟨_, LenS.out h hm, fun ty β a w hr => ⟨_, ?_, .ro _ _ (.int _ _)⟩⟩
      have he := hr.ev x
      rw [hx] at he
      obtain ⟨y, hy, p, len, cap, q, hyv, _, hbl, _, hv, _⟩ := he.hs_inv
      simp only [hv]; rw [run_len_slice ht]
    · rename_i hx
      refine ⟨_, h, fun ty β a w hr => ⟨_, ?_, .ro _ _ (.int _ _)⟩⟩
      have he := hr.ev x
      rw [hx] at he
      simp only [he.v_inv]; rw [run_len_slice ht]; rfl
    · exact h.elim
  · rename_i n e ht
    exact ⟨_, h, fun ty β a w hr => ⟨_, run_len_array ht _ _, .ro _ _ (.int _ _)⟩⟩
  · exact h.elim

theorem minmaxD_sound {K : D → Prop} {mx : Bool} {args : List Operand} (h : minmaxD mx (args.map st.ev) K) :
    ∃ d, K d ∧ ∀ ts ty, Gives X st (fun ρ => if mx then Builtin.max_ ts ty (args.map ρ).toArray else Builtin.min_ ts ty (args.map ρ).toArray) d := by
  match args with
  | [] => exact h.elim
  | [_] => simp only [List.map_cons, List.map_nil] at h; cases hx : st.ev ‹_› <;> rw [hx] at h <;> exact h.elim
  | [x, y] =>
    simp only [List.map_cons, List.map_nil] at h
    cases hx : st.ev x <;> cases hy : st.ev y <;> simp only [hx, hy, minmaxD] at h
    rename_i k p k' q
    refine ⟨_, h, fun ts ty β a w hr => ⟨_, ?_, .ro _ _ (.int _ _)⟩⟩
    have he := hr.ev x
    rw [hx] at he
    have he' := hr.ev y
    rw [hy] at he'
    cases mx
    · simp [Builtin.min_, Builtin.min2, he.int_inv, he'.int_inv]
    · simp [Builtin.max_, Builtin.max2, he.int_inv, he'.int_inv]
  | x :: y :: z :: r =>
    simp only [List.map_cons] at h
    cases hx : st.ev x <;> cases hy : st.ev y <;> simp only [hx, hy, minmaxD] at h

theorem gives_yields {o : Oper} {d : D} {s : (Operand → Value) → Sem Value} (hs : ∀ ρ, execOp ρ o = (do pure (.value (← s ρ)))) (h : Gives X st s d) : Yields X o st d := by
  intro β a w hr
  obtain ⟨v, hv, hrep⟩ := h β a w hr
  exact ⟨v, by rw [hs]; simp [hv], hrep⟩

/-- The model follows the rules of the pure operations. -/
theorem pure_sound {o : Oper} {K : D → Prop} {β0 : Nat → Option Value} {a0 : Act} {w0 : World} (hr0 : Rel X st β0 a0 w0) (h : pureD X.P o st K) : ∃ d, K d ∧ Yields X o st d := by
  obtain ⟨dst, op, type, pos, after, guard⟩ := o
  unfold pureD at h
  cases op <;> simp only at h <;> try (exact h.elim)
  case move x => exact ⟨_, h, fun β a w hr => ⟨_, rfl, hr.ev x⟩⟩
  case assign x => exact ⟨_, h, fun β a w hr => ⟨_, rfl, hr.ev x⟩⟩
  case pick c x y =>
    obtain ⟨d, hk, hd⟩ := pickD_sound (X := X) h
    refine ⟨d, hk, fun β a w hr => ?_⟩
    obtain ⟨v, hv, hrep⟩ := hd β a w hr
    refine ⟨v, ?_, hrep⟩
    simp only [execOp]
    simp only [Sem.run_bind] at hv ⊢
    cases hb : (asBool (a.eval c)).run X.P w with
    | ok b w' => rw [hb] at hv; simp only [Result.andThen_ok, Sem.run_pure, Result.ok.injEq] at hv ⊢; exact ⟨congrArg Next.value hv.1, hv.2⟩
    | halt x w' => rw [hb] at hv; simp only [Result.andThen_halt] at hv; cases hv
  case load t x =>
    obtain ⟨d, hk, hd⟩ := ptrLoad_sound h
    exact ⟨d, hk, gives_yields (s := fun ρ => Instr.loadAt t (ρ x)) (fun ρ => rfl) hd⟩
  case nilCheck x =>
    obtain ⟨d, hk, hd⟩ := nilD_sound (X := X) h
    refine ⟨d, hk, fun β a w hr => ?_⟩
    obtain ⟨hm, hrep⟩ := hd β a w hr
    refine ⟨_, ?_, hrep⟩
    simp only [execOp]
    split at hm <;> simp_all
  case binOp op t x y yt =>
    obtain ⟨d, hk, hd⟩ := binD_sound (x := x) (y := y) h
    exact ⟨d, hk, gives_yields (s := fun ρ => do eqGuard op t x y (ρ x) (ρ y); binOp op t (ρ x) (ρ y)) (fun ρ => rfl) (fun β a w hr => hd w _ β _ _ (hr.ev x) (hr.ev y))⟩
  case unOp op t x =>
    obtain ⟨d, hk, hd⟩ := unD_sound (X := X) h
    exact ⟨d, hk, gives_yields (s := fun ρ => Op.unary op (ρ x)) (fun ρ => rfl) hd⟩
  case convert s t x =>
    obtain ⟨d, hk, hd⟩ := convD_sound h
    exact ⟨d, hk, gives_yields (s := fun ρ => convert s t (ρ x)) (fun ρ => rfl) hd⟩
  case fieldAddr s x f =>
    obtain ⟨d, hk, hd⟩ := fieldAddrD_sound h
    exact ⟨d, hk, gives_yields (s := fun ρ => Instr.fieldAt s (ρ x) f) (fun ρ => rfl) hd⟩
  case field t x f =>
    obtain ⟨d, hk, hd⟩ := fieldD_sound h
    exact ⟨d, hk, gives_yields (s := fun ρ => Instr.field t (ρ x) f) (fun ρ => rfl) hd⟩
  case indexAddr t x i =>
    obtain ⟨d, hk, hd⟩ := indexAddrD_sound h
    exact ⟨d, hk, gives_yields (s := fun ρ => Instr.indexAt t (ρ x) (ρ i)) (fun ρ => rfl) hd⟩
  case index t x i =>
    obtain ⟨d, hk, hd⟩ := indexD_sound h
    exact ⟨d, hk, gives_yields (s := fun ρ => Instr.index t (ρ x) (ρ i)) (fun ρ => rfl) hd⟩
  case slice t x lo hi mx =>
    have hne : (∀ n e, X.P.underlying t ≠ some (.array n e)) ∧ sliceD X.P st t (st.ev x) (lo.map st.ev) (hi.map st.ev) (mx.map st.ev) K := by
      split at h
      · exact h.elim
      · rename_i hne; exact ⟨fun n e he => hne n e he, h⟩
    obtain ⟨d, hk, hd⟩ := sliceD_sound hne.1 hne.2
    exact ⟨d, hk, gives_yields (s := fun ρ => Instr.sliceAt t (ρ x) (lo.map ρ) (hi.map ρ) (mx.map ρ)) (fun ρ => rfl) hd⟩
  case build t parts =>
    obtain ⟨d, hk, hd⟩ := buildD_sound h
    exact ⟨d, hk, gives_yields (s := fun ρ => Instr.build t (parts.map fun (i, x) => (i, ρ x))) (fun ρ => rfl) hd⟩
  case extract x i =>
    split at h
    · rename_i ds hx
      obtain ⟨hl, hk⟩ := nthK_out h
      refine ⟨_, hk, fun β a w hr => ?_⟩
      have he := hr.ev x
      rw [hx] at he
      obtain ⟨cs, hv, hlen, hrep⟩ := he.tup_inv
      refine ⟨_, ?_, hrep i hl⟩
      simp only [execOp, hv, Instr.extract, getD_toArray (cs := cs) (i := i) (by omega)]
      rfl
    · exact h.elim
  case makeFunc fn first captured =>
    split at h
    · rename_i hf
      have hf' : first = #[] := by cases first; simp_all
      refine ⟨_, h, fun β a w hr => ?_⟩
      refine ⟨.func fn #[] (captured.toList.map a.eval).toArray, ?_, .clo _ _ _ (by simp) (fun i hi => ?_)⟩
      · simp [execOp, Instr.makeFunc, hf']
        cases captured; simp
      · have hi' : i < captured.toList.length := by simpa using hi
        simp only [List.getD_eq_getElem?_getD, List.getElem?_map, List.getElem?_eq_getElem hi', Option.map_some, Option.getD_some]
        exact hr.ev _
    · exact h.elim
  case call c =>
    obtain ⟨callee, args, argTypes⟩ := c
    cases callee with
    | value f => exact h.elim
    | invoke r m => exact h.elim
    | builtin b =>
      simp only at h
      obtain ⟨args⟩ := args
      obtain ⟨argTypes⟩ := argTypes
      unfold builtinD at h
      split at h
      · rename_i b' a' ts' x t hargs hts
        match args, hargs with
        | [y], hargs =>
          simp only [List.map_cons, List.map_nil, List.cons.injEq, and_true] at hargs
          have hts : argTypes = [t] := hts
          subst hts
          rw [← hargs] at h
          obtain ⟨d, hk, hd⟩ := lenD_sound hr0 h
          refine ⟨d, hk, fun β a w hr => ?_⟩
          obtain ⟨v, hv, hrep⟩ := hd type β a w hr
          refine ⟨v, ?_, hrep⟩
          simp only [execOp, resolve, invoke, builtin, Sem.run_bind, Sem.run_pure, Result.andThen_ok, List.map_toArray, List.map_cons, List.map_nil, hv]
      · obtain ⟨d, hk, hd⟩ := minmaxD_sound (X := X) h
        refine ⟨d, hk, fun β a w hr => ?_⟩
        obtain ⟨v, hv, hrep⟩ := hd argTypes.toArray type β a w hr
        refine ⟨v, ?_, hrep⟩
        simp only [Bool.false_eq_true, if_false] at hv
        simp only [execOp, resolve, invoke, builtin, Sem.run_bind, Sem.run_pure, Result.andThen_ok, List.map_toArray, hv]
      · obtain ⟨d, hk, hd⟩ := minmaxD_sound (X := X) h
        refine ⟨d, hk, fun β a w hr => ?_⟩
        obtain ⟨v, hv, hrep⟩ := hd argTypes.toArray type β a w hr
        refine ⟨v, ?_, hrep⟩
        simp only [if_true] at hv
        simp only [execOp, resolve, invoke, builtin, Sem.run_bind, Sem.run_pure, Result.andThen_ok, List.map_toArray, hv]
      · exact h.elim
end
end Go.Eng
