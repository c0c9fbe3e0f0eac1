/-
  The engine, sixteenth part. The model follows the rules of make, of slice literals and of append.
  No conditions.
-/
import Derived.Test.YthhmhmbdfahkjaaEng15
namespace Go.Eng
open Go Go.RowKit

section
variable {X : Ctx} {st : St} {β : Nat → Option Value} {a : Act} {w : World} {K : St → Prop} {Q : Exit → Act → World → Prop}

/-- A new row. -/
theorem Rel.newRow' (h : Rel X st β a w) {w' : World} {e : TypeId} {s : Nat} {es : List (List D)} {x : Value} (hg : w.grownBy w' none) (hx : ∀ b, blk x = some b → w.heap.size ≤ b)
    (hown : ∀ F', (∀ b, FX X st β w b → F' b ∧ w'.heap[b]? = w.heap[b]?) → OwnRow F' w' e s es x) : Rel X (st.push (.row e s es)) (OneDef β st.n x) a w' :=
  h.newObj hg (.row e s es) trivial x hx (fun F' _ hF _ => hown F' hF)

theorem make_sound {o : Oper} {t : TypeId} {l c : Operand} (ho : o.op = .makeSlice t l c) (h : makeD X.P st o.dst t (st.ev l) (st.ev c) K) (hr : Rel X st β a w) : o.wp X.P a w (PostR X K) Q := by
  unfold makeD at h
  split at h
  · rename_i e ht
    obtain ⟨z, i, hi, hz, hf, hk, hzr⟩ := zeroD_sound h
    clear h
    cases hb : (Nat.beq (ofV z).cells.length (X.P.cellsOf e) && (ofV z).cells.all noH0 && Nat.blt 0 (X.P.cellsOf e)) with
    | false => rw [hb] at hk; exact hk.elim
    | true =>
      rw [hb] at hk
      simp only [Bool.and_eq_true] at hb
      obtain ⟨⟨h1, h2⟩, h3⟩ := hb
      have h1 := Nat.eq_of_beq_eq_true h1
      have h3 : 0 < X.P.cellsOf e := by simpa [Nat.blt_eq] using h3
      simp only [cond_true] at hk
      split at hk
      · rename_i kl li kc ci hl hc
        obtain ⟨g0, g1, g2, g3, hk⟩ := MakeS.out hk
        have hk := putK_out (pushK_out hk)
        have hel := hr.ev l
        rw [hl] at hel
        have hec := hr.ev c
        rw [hc] at hec
        have hsz : i.size = X.P.cellsOf e := by simp [Program.cellsOf, hi]
        have hby : i.bytes = X.P.bytesOf e := by simp [Program.bytesOf, hi]
        have hrun := run_make (P := X.P) w t e i z ht hi hz kl kc li ci g0 g1 (by rw [hby]; exact g2) g3
        have hzc : CellsRep (fun _ => False) (fun _ => none) w z.cells.toList (ofV z).cells := flat_cells hf
        have hzs : z.cells.size = X.P.cellsOf e := by have := hzc.1; simp at this; omega
        have hcells : ∀ j, j < ci.toNat * i.size → (madeCells z.cells (ci.toNat * i.size))[j]? = some (z.cells.toList.getD (j % X.P.cellsOf e) undef) := by
          intro j hj
          have hm : j % X.P.cellsOf e < z.cells.size := by rw [hzs]; exact Nat.mod_lt _ h3
          simp [madeCells, hj, hzs]
          rw [hzs] at hm
          have hm' : j % X.P.cellsOf e < z.cells.size := by omega
          simp [hm']
        have hn := hr.newRow' (e := e) (s := X.P.cellsOf e) (es := List.replicate li.toNat (ofV z).cells) (x := .slice (some ⟨w.heap.size, 0, none⟩) li.toNat ci.toNat) (World.grownBy_alloc w (.cells (madeCells z.cells (ci.toNat * i.size)) e) none)
          (fun b hb => by simp [blk] at hb; omega) (fun F' hF => ?_)
        · refine wp_value ?_ ⟨_, _, hk, hn.put _ (rep_newh hr (.row e (X.P.cellsOf e) (List.replicate li.toNat (ofV z).cells)) _ _ _)⟩
          simp [execOp, ho, hel.int_inv, hec.int_inv, hrun]
        · have hgd : ∀ j, j < li.toNat → (List.replicate li.toNat (ofV z).cells).getD j [] = (ofV z).cells := by
            intro j hj; simp [List.getD_eq_getElem?_getD, hj]
          have hle : li.toNat ≤ ci.toNat := by omega
          have hmul : li.toNat * X.P.cellsOf e ≤ ci.toNat * i.size := by rw [hsz]; exact Nat.mul_le_mul_right _ hle
          refine ⟨by simp [maxLen]; omega, fun j hj => by rw [hgd j (by simpa using hj)]; exact h1, ((madeCells z.cells (ci.toNat * i.size)).toList.take (li.toNat * X.P.cellsOf e)), ⟨?_, .inr ⟨w.heap.size, ci.toNat, _, by simp, Nat.zero_le _, heap_new w _, by simpa using hle, by simp [maxLen]; omega, by rw [size_madeCells, hsz], by simp⟩⟩, fun u hu => ?_, fun j m hj hm => ?_⟩
          · simp [size_madeCells]; omega
          · have hu' := List.mem_of_mem_take hu
            obtain ⟨q, hq⟩ := List.mem_iff_getElem?.1 hu'
            have hql : q < ci.toNat * i.size := by
              have := (List.getElem?_eq_some_iff.1 hq).1
              simpa [size_madeCells] using this
            rw [Array.getElem?_toList, hcells q hql] at hq
            cases hq
            exact hzc.2.1 _ (getD_mem (by simp; rw [hzs]; exact Nat.mod_lt _ h3))
          · have hj' : j < li.toNat := by simpa using hj
            rw [hgd j hj']
            have hjm : j * X.P.cellsOf e + m < li.toNat * X.P.cellsOf e := by
              have : (j + 1) * X.P.cellsOf e ≤ li.toNat * X.P.cellsOf e := Nat.mul_le_mul_right _ hj'
              rw [Nat.add_mul, Nat.one_mul] at this
              omega
            rw [List.getD_eq_getElem?_getD, List.getElem?_take_of_lt hjm, Array.getElem?_toList, hcells _ (by omega)]
            have hmod : (j * X.P.cellsOf e + m) % X.P.cellsOf e = m := by rw [Nat.mul_comm, Nat.mul_add_mod, Nat.mod_eq_of_lt hm]
            rw [hmod]
            have hm2 : m < (ofV z).cells.length := by omega
            have := (flat_cells (F := F') (β := fun _ => none) (w := w.alloc (.cells (madeCells z.cells (ci.toNat * i.size)) e)) hf).2.2 m hm2
            exact this.noH0 (List.all_eq_true.1 h2 _ (getD_mem hm2))
      · exact hk.elim
  · exact h.elim

theorem rowsK_out (s : Nat) (β : Nat → Option Value) : ∀ {ps : List (Nat × Operand)} {i : Nat} {K : List (List D) → Prop}, rowsK s i (ps.map fun p => (p.1, st.ev p.2)) K →
    ∃ es, K es ∧ es.length = ps.length ∧ (∀ j, j < es.length → (es.getD j []).length = s) ∧ (∀ j, (h : j < ps.length) → (ps[j]).1 = i + j ∧ es.getD j [] = (st.ev (ps[j]).2).cells ∧ okCells (st.ev (ps[j]).2) = true ∧ (st.ev (ps[j]).2).cells.all noH0 = true)
  | [], i, K, h => ⟨[], h, rfl, fun j hj => by simp at hj, fun j hj => by simp at hj⟩
  | (j0, x) :: ps, i, K, h => by
    simp only [List.map_cons, rowsK] at h
    cases hb : (Nat.beq i j0 && Nat.beq (st.ev x).cells.length s && okCells (st.ev x) && (st.ev x).cells.all noH0) with
    | false => rw [hb] at h; exact h.elim
    | true =>
      rw [hb] at h
      simp only [Bool.and_eq_true] at hb
      obtain ⟨⟨⟨h1, h2⟩, h3⟩, h4⟩ := hb
      have h1 := Nat.eq_of_beq_eq_true h1
      have h2 := Nat.eq_of_beq_eq_true h2
      simp only [cond_true] at h
      obtain ⟨es, hk, hl, hs, hp⟩ := rowsK_out s β (forceL_out h)
      refine ⟨_, hk, by simp [hl], fun j hj => ?_, fun j hj => ?_⟩
      · cases j with
        | zero => exact h2
        | succ j => exact hs j (by simpa using hj)
      · cases j with
        | zero => exact ⟨by simp [h1], rfl, h3, h4⟩
        | succ j =>
          have := hp j (by simpa using hj)
          refine ⟨by simp only [List.getElem_cons_succ]; omega, this.2.1, this.2.2.1, this.2.2.2⟩

theorem fill_rows {P : Program} {s : Nat} {ρ : Operand → Value} : ∀ (ps : List (Nat × Operand)) (i : Nat) (vc : Array Value), (∀ j, (h : j < ps.length) → (ps[j]).1 = i + j ∧ (ρ (ps[j]).2).cells.size = s) → i * s + ps.length * s = vc.size →
    ∃ vc', Instr.fill (fun i => some (i * s, s)) vc (ps.map fun p => (p.1, ρ p.2)) = some vc' ∧ vc'.size = vc.size ∧ (∀ q, q < i * s → vc'[q]? = vc[q]?) ∧
      ∀ j, (h : j < ps.length) → ∀ m, m < s → vc'[(i + j) * s + m]? = (ρ (ps[j]).2).cells[m]?
  | [], i, vc, _, _ => ⟨vc, rfl, rfl, fun _ _ => rfl, fun j hj => by simp at hj⟩
  | (j0, x) :: ps, i, vc, hp, hl => by
    obtain ⟨h1, h2⟩ := hp 0 (by simp)
    simp only [List.getElem_cons_zero, Nat.add_zero] at h1 h2
    subst h1
    have hl' : j0 * s + (ps.length * s + s) = vc.size := by
      rw [← hl, List.length_cons, Nat.add_mul, Nat.one_mul]
    have hset := foldl_set (j0 * s) (ρ x).cells.toList 0 vc (by simp; omega)
    rw [Nat.add_zero] at hset
    have hfit : j0 * s + (ρ x).cells.toList.length ≤ vc.toList.length := by simp; omega
    have hspec := setL_spec vc.toList (j0 * s) (ρ x).cells.toList hfit
    let vc1 := (ρ x).cells.zipIdx.foldl (fun cs p => cs.setIfInBounds (j0 * s + p.2) p.1) vc
    have hvc1 : vc1.toList = setL vc.toList (j0 * s) (ρ x).cells.toList := by
      rw [← hset]
      congr 1
      simp only [vc1]
      rw [← Array.foldl_toList]
      simp
    have hsz1 : vc1.size = vc.size := by
      have := congrArg List.length hvc1
      rw [hspec.1] at this
      simpa using this
    have hget1 : ∀ q, vc1[q]? = if j0 * s ≤ q ∧ q < j0 * s + s then (ρ x).cells[q - j0 * s]? else vc[q]? := by
      intro q
      rw [← Array.getElem?_toList, hvc1, hspec.2 q]
      simp [h2]
    obtain ⟨vc', hf, hs', hlow, hnew⟩ := fill_rows (P := P) (s := s) (ρ := ρ) ps (j0 + 1) vc1 (fun j hj => by
      have := hp (j + 1) (by simpa using hj)
      simp only [List.getElem_cons_succ] at this
      exact ⟨by omega, this.2⟩) (by rw [hsz1, Nat.add_mul, Nat.one_mul]; omega)
    refine ⟨vc', ?_, by rw [hs', hsz1], fun q hq => ?_, fun j hj m hm => ?_⟩
    · simp only [List.map_cons, Instr.fill]
      rw [if_neg (by simp; omega)]
      exact hf
    · rw [hlow q (by rw [Nat.add_mul, Nat.one_mul]; omega), hget1, if_neg (by omega)]
    · cases j with
      | zero =>
        rw [hlow _ (by rw [Nat.add_zero, Nat.add_mul, Nat.one_mul]; omega), hget1, if_pos (by rw [Nat.add_zero]; omega)]
        simp only [Nat.add_zero, List.getElem_cons_zero]
        congr 1
        omega
      | succ j =>
        have := hnew j (by simpa using hj) m hm
        simp only [List.getElem_cons_succ]
        rw [← this]
        congr 3
        omega

theorem buildSlice_sound {o : Oper} {t : TypeId} {len : Nat} {parts : Array (Nat × Operand)} (ho : o.op = .buildSlice t len parts) (h : buildSliceD X.P st o.dst t len (parts.toList.map fun p => (p.1, st.ev p.2)) K) (hr : Rel X st β a w) :
    o.wp X.P a w (PostR X K) Q := by
  unfold buildSliceD at h
  split at h
  · rename_i e ht
    obtain ⟨z, i, hi, hz, hf, hk, hzr⟩ := zeroD_sound h
    clear h
    cases hb : (Nat.beq (ofV z).cells.length (X.P.cellsOf e) && Nat.blt 0 (X.P.cellsOf e) && Nat.beq (parts.toList.map fun p => (p.1, st.ev p.2)).length len && Nat.ble (len * X.P.cellsOf e) 16777216) with
    | false => rw [hb] at hk; exact hk.elim
    | true =>
      rw [hb] at hk
      simp only [Bool.and_eq_true] at hb
      obtain ⟨⟨⟨h1, h2⟩, h3⟩, h4⟩ := hb
      have h1 := Nat.eq_of_beq_eq_true h1
      have h2 : 0 < X.P.cellsOf e := by simpa [Nat.blt_eq] using h2
      have h3 := Nat.eq_of_beq_eq_true h3
      have h4 : len * X.P.cellsOf e ≤ 16777216 := by simpa using h4
      have h3 : parts.toList.length = len := by simpa using h3
      simp only [cond_true] at hk
      obtain ⟨es, hk, hl, hs, hp⟩ := rowsK_out _ β hk
      have hk := putK_out (pushK_out hk)
      have hsz : (sizeOf e).run X.P w = .ok (X.P.cellsOf e) w := run_sizeOf_pos (beq_ne (by omega)) w
      let zc : Array Value := if len * X.P.cellsOf e = 0 then #[] else z.cells
      let vc0 : Array Value := (Array.range (len * X.P.cellsOf e)).map (zc[· % zc.size]!)
      have hcr : ∀ j, (hj : j < parts.toList.length) → CellsRep (FX X st β w) β w (a.eval (parts.toList[j]).2).cells.toList (st.ev (parts.toList[j]).2).cells := fun j hj => hr.cellsRep (hp j hj).2.2.1 (hr.ev _)
      have hcs : ∀ j, (hj : j < parts.toList.length) → (a.eval (parts.toList[j]).2).cells.size = X.P.cellsOf e := by
        intro j hj
        have g1 := (hcr j hj).1
        have g2 := hs j (by omega)
        rw [(hp j hj).2.1] at g2
        simp only [Array.length_toList] at g1
        omega
      obtain ⟨vc, hfill, hvs, _, hvn⟩ := fill_rows (P := X.P) (s := X.P.cellsOf e) (ρ := a.eval) parts.toList 0 vc0 (fun j hj => ⟨by have := (hp j hj).1; omega, hcs j hj⟩) (by simp [vc0, ← h3])
      have hvsz : vc.size = len * X.P.cellsOf e := by rw [hvs]; simp [vc0]
      have hrun : (Instr.buildSlice t len (parts.map fun (i, x) => (i, a.eval x))).run X.P w = .ok (.slice (some ⟨w.heap.size, 0, none⟩) len len) (w.alloc (.cells vc e)) := by
        have hmap : (parts.map fun (i, x) => (i, a.eval x)).toList = parts.toList.map fun p => (p.1, a.eval p.2) := by simp
        have hn : ¬ (len * X.P.cellsOf e > 2 ^ 24) := by omega
        by_cases h0 : len * X.P.cellsOf e = 0
        · have e0 : zc = #[] := by simp [zc, h0]
          simp only [Instr.buildSlice, Sem.run_bind, run_underlying ht, Result.andThen_ok, hsz, if_neg hn, if_pos h0, Sem.run_pure, hmap]
          have : Instr.fill (fun i => some (i * X.P.cellsOf e, X.P.cellsOf e)) (Array.map (fun x => (#[] : Array Value)[x % (#[] : Array Value).size]!) (Array.range (len * X.P.cellsOf e))) (parts.toList.map fun p => (p.1, a.eval p.2)) = some vc := by
            rw [← hfill]; simp only [vc0, e0]
          rw [this]
          simp [newRow]
        · have e0 : zc = z.cells := by simp [zc, h0]
          simp only [Instr.buildSlice, Sem.run_bind, run_underlying ht, Result.andThen_ok, hsz, if_neg hn, if_neg h0, Sem.run_pure, hzr, hmap]
          have : Instr.fill (fun i => some (i * X.P.cellsOf e, X.P.cellsOf e)) (Array.map (fun x => z.cells[x % z.cells.size]!) (Array.range (len * X.P.cellsOf e))) (parts.toList.map fun p => (p.1, a.eval p.2)) = some vc := by
            rw [← hfill]; simp only [vc0, e0]
          rw [this]
          simp [newRow]
      have hesl : es.length = len := by omega
      have hn := hr.newRow' (e := e) (s := X.P.cellsOf e) (es := es) (x := .slice (some ⟨w.heap.size, 0, none⟩) len len) (World.grownBy_alloc w (.cells vc e) none) (fun b hb => by simp [blk] at hb; omega) (fun F' hF => ?_)
      · refine wp_value ?_ ⟨_, _, hk, hn.put _ (rep_newh hr (.row e (X.P.cellsOf e) es) _ _ _)⟩
        simp [execOp, ho]
        rw [hrun]
        simp
      · have hlm : len ≤ maxLen := by
          have : len * 1 ≤ len * X.P.cellsOf e := Nat.mul_le_mul_left _ h2
          simp only [maxLen]; omega
        refine ⟨by omega, hs, vc.toList, ⟨by rw [hesl]; simpa using hvsz, .inr ⟨w.heap.size, len, vc, by rw [hesl], Nat.zero_le _, heap_new w _, by omega, hlm, hvsz, by rw [hesl]; exact List.take_of_length_le (by simp [hvsz])⟩⟩, fun u hu => ?_, fun j m hj hm => ?_⟩
        · obtain ⟨q, hq⟩ := List.mem_iff_getElem?.1 hu
          have hql : q < len * X.P.cellsOf e := by have := (List.getElem?_eq_some_iff.1 hq).1; simpa [hvsz] using this
          have hj : q / X.P.cellsOf e < parts.toList.length := by rw [h3]; exact Nat.div_lt_of_lt_mul (by rwa [Nat.mul_comm])
          have hm := Nat.mod_lt q h2
          have := hvn (q / X.P.cellsOf e) hj (q % X.P.cellsOf e) hm
          rw [Nat.zero_add, Nat.mul_comm, Nat.div_add_mod] at this
          rw [Array.getElem?_toList, this] at hq
          exact (hcr _ hj).2.1 u (List.mem_iff_getElem?.2 ⟨_, by rw [Array.getElem?_toList]; exact hq⟩)
        · have hj' : j < parts.toList.length := by omega
          have := hvn j hj' m hm
          rw [Nat.zero_add] at this
          rw [List.getD_eq_getElem?_getD, Array.getElem?_toList, this, ← Array.getElem?_toList, ← List.getD_eq_getElem?_getD, (hp j hj').2.1]
          have hm2 : m < (st.ev (parts.toList[j]).2).cells.length := by have := hs j hj; rw [(hp j hj').2.1] at this; omega
          exact (((hcr j hj').2.2 m hm2).noH0 (List.all_eq_true.1 (hp j hj').2.2.2 _ (getD_mem hm2))).mono hF
  · exact h.elim
end
end Go.Eng
