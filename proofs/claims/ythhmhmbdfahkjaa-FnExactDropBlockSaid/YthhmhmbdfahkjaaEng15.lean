/-
  The engine, fifteenth part. The model follows the rules of the operations that make or write memory of the call's own.
  No conditions.
-/
import Derived.Test.YthhmhmbdfahkjaaEng14
namespace Go.Eng
open Go Go.RowKit

def PostR (X : Ctx) (K : St → Prop) (a : Act) (w : World) : Prop := ∃ st β, K st ∧ Rel X st β a w

theorem wp_value {P : Program} {o : Oper} {a : Act} {w w' : World} {K : Act → World → Prop} {Q : Exit → Act → World → Prop} {v : Value}
    (h : (execOp a.eval o).run P w = .ok (.value v) w') (hk : K (a.put o.dst v) w') : o.wp P a w K Q := by
  unfold Oper.wp; rw [h]; exact hk
theorem wp_skipv {P : Program} {o : Oper} {a : Act} {w w' : World} {K : Act → World → Prop} {Q : Exit → Act → World → Prop}
    (h : (execOp a.eval o).run P w = .ok .skip w') (hk : K (a.put o.dst undef) w') : o.wp P a w K Q := by
  unfold Oper.wp; rw [h]; exact hk

theorem CellsRep.mono {F F' : Nat → Prop} {β β' : Nat → Option Value} {w w' : World} {vs : List Value} {ds : List D} (hF : ∀ b, F b → F' b ∧ w'.heap[b]? = w.heap[b]?)
    (hβ : ∀ o x, β o = some x → β' o = some x) (h : CellsRep F β w vs ds) : CellsRep F' β' w' vs ds :=
  ⟨h.1, h.2.1, fun j hj => (h.2.2 j hj).mono hF hβ⟩

theorem heap_new (w : World) (o : Go.Obj) : (w.alloc o).heap[w.heap.size]? = some o := heap_alloc_new w o

section
variable {X : Ctx} {st : St} {β : Nat → Option Value} {a : Act} {w : World} {K : St → Prop} {Q : Exit → Act → World → Prop}

theorem Rel.newBox (h : Rel X st β a w) {cs : List D} {vs : Array Value} (T : TypeId) (hc : CellsRep (FX X st β w) β w vs.toList cs) :
    Rel X (st.push (.box cs)) (OneDef β st.n (.pointer (some ⟨w.heap.size, 0, none⟩))) a (w.alloc (.cells vs T)) := by
  refine h.newObj (World.grownBy_alloc w _ none) (.box cs) trivial _ (fun b hb => by simp [blk] at hb; omega) (fun F' β' hF hβ => ?_)
  have hc' := hc.mono hF hβ
  exact ⟨w.heap.size, vs, T, rfl, heap_new _ _, by simpa using hc'.1, hc'.2.1, hc'.2.2⟩

theorem rep_newh (h : Rel X st β a w) (ob : Obj) (x : Value) (F : Nat → Prop) (w' : World) : Rep F (OneDef β st.n x) w' x (.h st.n) := .h _ _ (by simp [OneDef])
theorem rep_newhp (β : Nat → Option Value) (n b k : Nat) (F : Nat → Prop) (w' : World) : Rep F (OneDef β n (.pointer (some ⟨b, 0, none⟩))) w' (.pointer (some ⟨b, k, none⟩)) (.hp n k) :=
  .hp n k b (.pointer (some ⟨b, 0, none⟩)) (by simp [OneDef]) rfl

theorem alloc_sound {o : Oper} {t : TypeId} (ho : o.op = .alloc t) (h : allocD X.P st o.dst t K) (hr : Rel X st β a w) : o.wp X.P a w (PostR X K) Q := by
  unfold allocD at h
  obtain ⟨z, i, hi, hz, hf, hk, hzr⟩ := zeroD_sound h
  have hk := putK_out (pushK_out hk)
  have hn := hr.newBox t (flat_cells (F := FX X st β w) (β := β) (w := w) hf)
  refine wp_value (v := .pointer (some ⟨w.heap.size, 0, none⟩)) (w' := w.alloc (.cells z.cells t)) ?_ ⟨_, _, hk, hn.put _ (rep_newhp _ _ _ _ _ _)⟩
  simp [execOp, ho, Instr.alloc, hzr, newVar, newRow]

theorem box_sound {o : Oper} {t : TypeId} {x : Operand} (ho : o.op = .box t x) (h : boxD st o.dst (st.ev x) K) (hr : Rel X st β a w) : o.wp X.P a w (PostR X K) Q := by
  unfold boxD at h
  cases hb : okCells (st.ev x) with
  | false => rw [hb] at h; exact h.elim
  | true =>
    rw [hb] at h
    simp only [cond_true] at h
    have hk := putK_out (pushK_out h)
    have hn := hr.newBox t (hr.cellsRep hb (hr.ev x))
    refine wp_value (v := .pointer (some ⟨w.heap.size, 0, none⟩)) (w' := w.alloc (.cells (a.eval x).cells t)) ?_ ⟨_, _, hk, hn.put _ (rep_newhp _ _ _ _ _ _)⟩
    simp [execOp, ho, Instr.box, newVar, newRow]

theorem setL_eq {α : Type} (l : List α) (k : Nat) (ds : List α) (h : k + ds.length ≤ l.length) : setL l k ds = l.take k ++ ds ++ l.drop (k + ds.length) := by
  apply List.ext_getElem?
  intro i
  rw [(setL_spec l k ds h).2 i]
  rw [List.append_assoc, List.getElem?_append]
  simp only [List.length_take, Nat.min_eq_left (show k ≤ l.length by omega)]
  by_cases h1 : i < k
  · rw [if_neg (by omega), if_pos h1, List.getElem?_take_of_lt h1]
  · rw [if_neg h1, List.getElem?_append]
    by_cases h2 : i - k < ds.length
    · rw [if_pos (by omega), if_pos h2]
    · rw [if_neg (by omega), if_neg h2, List.getElem?_drop]
      congr 1
      omega

theorem run_storeVar_at {P : Program} {t : TypeId} {g off : Nat} {cur : Array Value} {T : TypeId} {w : World} {v : Value} (hg : w.heap[g]? = some (.cells cur T (0, 0))) (hs : v.cells.size = P.cellsOf t) (h0 : Nat.beq (P.cellsOf t) 0 = false)
    (hl : off + v.cells.size ≤ cur.size) (h1 : ∀ u ∈ v.cells.toList, u.oneCell' = true) :
    (storeVar t ⟨g, off, none⟩ v).run P w = .ok () (w.setRow g (setL cur.toList off v.cells.toList).toArray) := by
  have := run_storeCells_at P g off T v.cells.toList 0 cur w hg (by simpa using hl) h1
  simp only [storeVar, Sem.run_bind, run_sizeOf_pos h0, Result.andThen_ok]
  rw [if_neg (by simpa using hs), this, setL_eq _ _ _ (by simpa using hl)]
  simp

theorem grownBy_setRow (w : World) (g : Nat) (cs : Array Value) : w.grownBy (w.setRow g cs) (some g) :=
  ⟨rfl, rfl, rfl, by simp, fun k _ hk => setRow_other w g k _ (fun e => hk (by rw [e]))⟩

theorem store_sound {o : Oper} {t : TypeId} {p x : Operand} (ho : o.op = .store t p x) (hd : o.dst = none) (h : storeD X.P st t (st.ev p) (st.ev x) K) (hr : Rel X st β a w) : o.wp X.P a w (PostR X K) Q := by
  unfold storeD at h
  split at h
  · rename_i hb
    simp only [Bool.and_eq_true] at hb
    obtain ⟨⟨h1, h2⟩, h3⟩ := hb
    have h1 := Nat.eq_of_beq_eq_true h1
    have h2 : 0 < X.P.cellsOf t := by simpa [Nat.blt_eq] using h2
    have h0 : Nat.beq (X.P.cellsOf t) 0 = false := beq_ne (by omega)
    have hx := hr.cellsRep h3 (hr.ev x)
    have hxs : (a.eval x).cells.size = (st.ev x).cells.length := by have := hx.1; simpa using this
    have hep := hr.ev p
    have main : ∀ (g off : Nat) (cur : Array Value) (T : TypeId), a.eval p = .pointer (some ⟨g, off, none⟩) → w.heap[g]? = some (.cells cur T (0, 0)) → off + (st.ev x).cells.length ≤ cur.size →
        PostR X K a (w.setRow g (setL cur.toList off (a.eval x).cells.toList).toArray) → o.wp X.P a w (PostR X K) Q := by
      intro g off cur T hv hg hl hk
      refine wp_skipv (w' := w.setRow g (setL cur.toList off (a.eval x).cells.toList).toArray) ?_ (by rw [hd]; exact hk)
      have := run_storeVar_at (P := X.P) (t := t) (off := off) (v := a.eval x) hg (by omega) h0 (by omega) hx.2.1
      simp [execOp, ho, hv, Instr.storeAt, Instr.sureAddr, this]
    split at h
    · rename_i oo k hp
      rw [hp] at hep
      split at h
      · rename_i cs hob
        cases hb2 : Nat.ble (k + (st.ev x).cells.length) cs.length with
        | false => rw [hb2] at h; exact h.elim
        | true =>
          rw [hb2] at h
          have hkl : k + (st.ev x).cells.length ≤ cs.length := by simpa using hb2
          have hk := setK_out (setLK_out h)
          obtain ⟨b, y, hy, hyb, hv⟩ := hep.hp_inv
          obtain ⟨b', c, T, rfl, hg, hs, hone, hrep⟩ := hr.box hob hy
          simp [blk] at hyb
          subst hyb
          refine main b' k c T hv hg (by omega) ⟨_, β, hk, hr.store hy (grownBy_setRow w b' _) _ trivial (fun F' hF => ?_)⟩
          have hc0 : CellsRep (FX X st β w) β w c.toList cs := ⟨by simpa using hs, hone, hrep⟩
          have hc := (hc0.setL hx hkl).mono hF (fun _ _ h => h)
          exact ⟨b', _, T, rfl, setRow_heap w b' c _ T _ hg, by simpa using hc.1, by simpa using hc.2.1, by simpa using hc.2.2⟩
      · exact h.elim
    · rename_i oo s i k hp
      rw [hp] at hep
      split at h
      · rename_i e s' es hob
        cases hb2 : (Nat.beq s s' && Nat.ble (k + (st.ev x).cells.length) s && (st.ev x).cells.all noH0) with
        | false => rw [hb2] at h; exact h.elim
        | true =>
          rw [hb2] at h
          simp only [Bool.and_eq_true] at hb2
          obtain ⟨⟨g1, g2⟩, g3⟩ := hb2
          have g1 := Nat.eq_of_beq_eq_true g1
          subst g1
          have g2 : k + (st.ev x).cells.length ≤ s := by simpa using g2
          obtain ⟨i', hi', hlt, hk⟩ := ElemS.out h
          have hii : i = i' := by omega
          subst hii
          have hk := setK_out (setLK_out hk)
          obtain ⟨b, y, hy, hyb, hv⟩ := hep.hr_inv
          obtain ⟨hm, hls, xs, how, hone, hro⟩ := hr.row hob hy
          rcases how.2 with ⟨rfl, hn⟩ | ⟨g, cap, cur, rfl, hbase, hg, hnc, hcm, hcs, htk⟩
          · omega
          · simp [blk] at hyb
            subst hyb
            have hxl : xs.length = es.length * s := how.1
            have hle : (i + 1) * s ≤ es.length * s := Nat.mul_le_mul_right s hlt
            rw [Nat.add_mul, Nat.one_mul] at hle
            have hcl : es.length * s ≤ cap * s := Nat.mul_le_mul_right s hnc
            have hfit : i * s + k + (st.ev x).cells.length ≤ cur.size := by omega
            have hvl : (a.eval x).cells.toList.length = (st.ev x).cells.length := hx.1
            refine main g (i * s + k) cur e hv hg hfit ⟨_, β, hk, hr.store hy (grownBy_setRow w g _) _ trivial (fun F' hF => ?_)⟩
            have hfit2 : i * s + k + (a.eval x).cells.toList.length ≤ cur.toList.length := by rw [hvl]; simpa using hfit
            have hfit3 : i * s + k + (a.eval x).cells.toList.length ≤ xs.length := by omega
            have hspec := setL_spec cur.toList (i * s + k) (a.eval x).cells.toList hfit2
            have hspecx := setL_spec xs (i * s + k) (a.eval x).cells.toList hfit3
            have hei : (es.getD i []).length = s := hls i hlt
            have hfitd : k + (st.ev x).cells.length ≤ (es.getD i []).length := by omega
            have hspecd := setL_spec (es.getD i []) k (st.ev x).cells hfitd
            have htake : (setL cur.toList (i * s + k) (a.eval x).cells.toList).take (es.length * s) = setL xs (i * s + k) (a.eval x).cells.toList := by
              apply List.ext_getElem?
              intro j
              rw [List.getElem?_take, hspec.2 j, hspecx.2 j, ← htk, List.getElem?_take]
              by_cases hj : j < es.length * s
              · simp [hj]
              · simp only [hj, if_false]
                rw [if_neg (by omega)]
            have hgetD : ∀ j, (es.set i (setL (es.getD i []) k (st.ev x).cells)).getD j [] = if j = i then setL (es.getD i []) k (st.ev x).cells else es.getD j [] := by
              intro j
              simp only [List.getD_eq_getElem?_getD]
              by_cases hj : j = i
              · subst hj; rw [if_pos rfl, List.getElem?_set_self hlt]; rfl
              · rw [if_neg hj, List.getElem?_set_ne (Ne.symm hj)]
            refine ⟨by simpa using hm, fun j hj => ?_, setL xs (i * s + k) (a.eval x).cells.toList, ⟨by rw [hspecx.1, List.length_set]; exact hxl, .inr ⟨g, cap, _, by rw [List.length_set], hbase, setRow_heap w g cur _ e _ hg, by rw [List.length_set]; exact hnc, hcm, by simp [hspec.1, hcs], by rw [List.length_set]; simpa using htake⟩⟩, fun u hu => ?_, fun j m hj hmm => ?_⟩
            · rw [hgetD]
              split
              · rw [hspecd.1]; exact hei
              · exact hls j (by simpa using hj)
            · obtain ⟨q, hq⟩ := List.mem_iff_getElem?.1 hu
              rw [hspecx.2 q] at hq
              split at hq
              · exact hx.2.1 u (List.mem_iff_getElem?.2 ⟨_, hq⟩)
              · exact hone u (List.mem_iff_getElem?.2 ⟨_, hq⟩)
            · have hj' : j < es.length := by simpa using hj
              rw [hgetD, List.getD_eq_getElem?_getD, hspecx.2]
              by_cases hji : j = i
              · subst hji
                rw [if_pos rfl, List.getD_eq_getElem?_getD, hspecd.2]
                by_cases hin : k ≤ m ∧ m < k + (st.ev x).cells.length
                · rw [if_pos hin, if_pos (by omega)]
                  have e1 : j * s + m - (j * s + k) = m - k := by omega
                  rw [e1, ← List.getD_eq_getElem?_getD, ← List.getD_eq_getElem?_getD]
                  have hmk : m - k < (st.ev x).cells.length := by omega
                  exact ((hx.2.2 (m - k) hmk).noH0 (List.all_eq_true.1 g3 _ (getD_mem hmk))).mono hF
                · rw [if_neg hin, if_neg (by omega), ← List.getD_eq_getElem?_getD, ← List.getD_eq_getElem?_getD]
                  exact (hro j m hj' hmm).mono hF
              · rw [if_neg hji, if_neg, ← List.getD_eq_getElem?_getD]
                · exact (hro j m hj' hmm).mono hF
                · intro hc
                  rcases Nat.lt_or_ge j i with hlt' | hge
                  · have : (j + 1) * s ≤ i * s := Nat.mul_le_mul_right s hlt'
                    rw [Nat.add_mul, Nat.one_mul] at this
                    omega
                  · have : (i + 1) * s ≤ j * s := Nat.mul_le_mul_right s (by omega)
                    rw [Nat.add_mul, Nat.one_mul] at this
                    omega
      · exact h.elim
    · exact h.elim
  · exact h.elim
end
end Go.Eng
