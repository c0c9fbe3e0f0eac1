/-
  The engine: a slice literal that is only read.
  No conditions.
-/
import Derived.Test.YthhmhmbdfahkjaaEngF
namespace Go.Eng
open Go Go.RowKit

def qbuildD (P : Program) (t : TypeId) (len : Nat) (parts : List (Nat × D)) (K : D → Prop) : Prop :=
  match P.underlying t with
  | some (.slice e) => zeroD P e fun z => bif Nat.beq z.length (P.cellsOf e) && Nat.blt 0 (P.cellsOf e) && Nat.beq parts.length len && Nat.ble (len * P.cellsOf e) 16777216 then
    rowsK (P.cellsOf e) 0 parts fun es => K (.sl (P.cellsOf e) es) else False
  | _ => False
section
variable {X : Ctx} {st : St} {K : D → Prop}
theorem qbuild_sound {o : Oper} {t : TypeId} {len : Nat} {parts : Array (Nat × Operand)} (ho : o.op = .buildSlice t len parts) (h : qbuildD X.P t len (parts.toList.map fun p => (p.1, st.ev p.2)) K) :
    ∃ d, K d ∧ ∀ β a w, Rel X st β a w → ∃ v w', (execOp a.eval o).run X.P w = .ok (.value v) w' ∧ w.grownBy w' none ∧ Rep (FX X st β w') β w' v d := by
  unfold qbuildD at h
  split at h
  · rename_i e ht
    obtain ⟨z, i, hi, hz, hf, hk, hzr⟩ := zeroD_sound h
    clear h
    cases hb : (Nat.beq (ofV z).cells.length (X.P.cellsOf e) && Nat.blt 0 (X.P.cellsOf e) && Nat.beq (parts.toList.map fun p => (p.1, st.ev p.2)).length len && Nat.ble (len * X.P.cellsOf e) 16777216) with
    | false => rw [hb] at hk; exact hk.elim
    | true =>
      rw [hb] at hk
      simp only [Bool.and_eq_true] at hb
      obtain ⟨⟨⟨h1, h2⟩, h3⟩, h4⟩ := hb
      have h1 := Nat.eq_of_beq_eq_true h1
      have h2 : 0 < X.P.cellsOf e := by simpa [Nat.blt_eq] using h2
      have h3 := Nat.eq_of_beq_eq_true h3
      have h4 : len * X.P.cellsOf e ≤ 16777216 := by simpa using h4
      have h3 : parts.toList.length = len := by simpa using h3
      simp only [cond_true] at hk
      obtain ⟨es, hk, hl, hs, hp⟩ := rowsK_out _ (fun _ => none) hk
      refine ⟨_, hk, fun β a w hr => ?_⟩
      have hsz : (sizeOf e).run X.P w = .ok (X.P.cellsOf e) w := run_sizeOf_pos (beq_ne (by omega)) w
      let zc : Array Value := if len * X.P.cellsOf e = 0 then #[] else z.cells
      let vc0 : Array Value := (Array.range (len * X.P.cellsOf e)).map (zc[· % zc.size]!)
      have hcr : ∀ j, (hj : j < parts.toList.length) → CellsRep (FX X st β w) β w (a.eval (parts.toList[j]).2).cells.toList (st.ev (parts.toList[j]).2).cells := fun j hj => hr.cellsRep (hp j hj).2.2.1 (hr.ev _)
      have hcs : ∀ j, (hj : j < parts.toList.length) → (a.eval (parts.toList[j]).2).cells.size = X.P.cellsOf e := by
        intro j hj
        have g1 := (hcr j hj).1
        have g2 := hs j (by omega)
        rw [(hp j hj).2.1] at g2
        simp only [Array.length_toList] at g1
        omega
      obtain ⟨vc, hfill, hvs, _, hvn⟩ := fill_rows (P := X.P) (s := X.P.cellsOf e) (ρ := a.eval) parts.toList 0 vc0 (fun j hj => ⟨by have := (hp j hj).1; omega, hcs j hj⟩) (by simp [vc0, ← h3])
      have hvsz : vc.size = len * X.P.cellsOf e := by rw [hvs]; simp [vc0]
      have hrun : (Instr.buildSlice t len (parts.map fun (i, x) => (i, a.eval x))).run X.P w = .ok (.slice (some ⟨w.heap.size, 0, none⟩) len len) (w.alloc (.cells vc e)) := by
        have hmap : (parts.map fun (i, x) => (i, a.eval x)).toList = parts.toList.map fun p => (p.1, a.eval p.2) := by simp
        have hn : ¬ (len * X.P.cellsOf e > 2 ^ 24) := by omega
        by_cases h0 : len * X.P.cellsOf e = 0
        · have e0 : zc = #[] := by simp [zc, h0]
          simp only [Instr.buildSlice, Sem.run_bind, run_underlying ht, Result.andThen_ok, hsz, if_neg hn, if_pos h0, Sem.run_pure, hmap]
          have : Instr.fill (fun i => some (i * X.P.cellsOf e, X.P.cellsOf e)) (Array.map (fun x => (#[] : Array Value)[x % (#[] : Array Value).size]!) (Array.range (len * X.P.cellsOf e))) (parts.toList.map fun p => (p.1, a.eval p.2)) = some vc := by
            rw [← hfill]; simp only [vc0, e0]
          rw [this]
          simp [newRow]
        · have e0 : zc = z.cells := by simp [zc, h0]
          simp only [Instr.buildSlice, Sem.run_bind, run_underlying ht, Result.andThen_ok, hsz, if_neg hn, if_neg h0, Sem.run_pure, hzr, hmap]
          have : Instr.fill (fun i => some (i * X.P.cellsOf e, X.P.cellsOf e)) (Array.map (fun x => z.cells[x % z.cells.size]!) (Array.range (len * X.P.cellsOf e))) (parts.toList.map fun p => (p.1, a.eval p.2)) = some vc := by
            rw [← hfill]; simp only [vc0, e0]
          rw [this]
          simp [newRow]
      have hesl : es.length = len := by omega
      have hown : OwnRow (FX X st β w) (w.alloc (.cells vc e)) e (X.P.cellsOf e) es (.slice (some ⟨w.heap.size, 0, none⟩) len len) := by
        have hF : ∀ b, FX X st β w b → FX X st β w b ∧ (w.alloc (.cells vc e)).heap[b]? = w.heap[b]? := fun b hb => ⟨hb, (World.grownBy_alloc w (.cells vc e) none).block b hb.1 (by simp)⟩
        have hlm : len ≤ maxLen := by
          have : len * 1 ≤ len * X.P.cellsOf e := Nat.mul_le_mul_left _ h2
          simp only [maxLen]; omega
        refine ⟨by omega, hs, vc.toList, ⟨by rw [hesl]; simpa using hvsz, .inr ⟨w.heap.size, len, vc, by rw [hesl], Nat.zero_le _, heap_new w _, by omega, hlm, hvsz, by rw [hesl]; exact List.take_of_length_le (by simp [hvsz])⟩⟩, fun u hu => ?_, fun j m hj hm => ?_⟩
        · obtain ⟨q, hq⟩ := List.mem_iff_getElem?.1 hu
          have hql : q < len * X.P.cellsOf e := by have := (List.getElem?_eq_some_iff.1 hq).1; simpa [hvsz] using this
          have hj : q / X.P.cellsOf e < parts.toList.length := by rw [h3]; exact Nat.div_lt_of_lt_mul (by rwa [Nat.mul_comm])
          have hm := Nat.mod_lt q h2
          have := hvn (q / X.P.cellsOf e) hj (q % X.P.cellsOf e) hm
          rw [Nat.zero_add, Nat.mul_comm, Nat.div_add_mod] at this
          rw [Array.getElem?_toList, this] at hq
          exact (hcr _ hj).2.1 u (List.mem_iff_getElem?.2 ⟨_, by rw [Array.getElem?_toList]; exact hq⟩)
        · have hj' : j < parts.toList.length := by omega
          have := hvn j hj' m hm
          rw [Nat.zero_add] at this
          rw [List.getD_eq_getElem?_getD, Array.getElem?_toList, this, ← Array.getElem?_toList, ← List.getD_eq_getElem?_getD, (hp j hj').2.1]
          have hm2 : m < (st.ev (parts.toList[j]).2).cells.length := by have := hs j hj; rw [(hp j hj').2.1] at this; omega
          exact (((hcr j hj').2.2 m hm2).noH0 (List.all_eq_true.1 (hp j hj').2.2.2 _ (getD_mem hm2))).mono hF
      have hg := World.grownBy_alloc w (.cells vc e) none
      have hF : ∀ b, FX X st β w b → FX X st β (w.alloc (.cells vc e)) b := fun b hb => ⟨Nat.lt_of_lt_of_le hb.1 hg.size, hb.2.1, hb.2.2⟩
      have hx : ∀ b, blk (.slice (some ⟨w.heap.size, 0, none⟩) len len) = some b → FX X st β (w.alloc (.cells vc e)) b := by
        intro b hb
        simp only [blk, Option.some.injEq] at hb
        subst hb
        refine ⟨by simp, .inr (.inl hr.kept.size), fun o _ _ y hy hyb => ?_⟩
        have := hr.lt' hy hyb
        omega
      refine ⟨.slice (some ⟨w.heap.size, 0, none⟩) len len, w.alloc (.cells vc e), ?_, hg, .ro _ _ (row_ro hown hF hx)⟩
      simp [execOp, ho]
      rw [hrun]
      simp
  · exact h.elim
end
end Go.Eng
