/-
  The engine, ninth part. The model follows the rules of the pure operations: indexes, parts, slices of slices, composite values, len.
  No conditions.
-/
import Derived.Test.YthhmhmbdfahkjaaEng8
namespace Go.Eng
open Go Go.RowKit

section
variable {X : Ctx} {st : St} {K : D → Prop}

theorem getD_toArray {cs : List Value} {i : Nat} (h : i < cs.length) : cs.toArray[i]? = some (cs.getD i undef) := by
  simp [List.getD_eq_getElem?_getD, h]

/-- A part of a value that is laid out in cells. -/
theorem loadD_part {P : Program} {t : TypeId} {ds : List D} {k : Nat} {K : D → Prop} (h : loadD P t ds k K) :
    ∃ d, K d ∧ ∀ (F : Nat → Prop) (β : Nat → Option Value) (w : World) (cs : List Value), cs.length = ds.length → (∀ u ∈ cs, u.oneCell' = true) → (∀ i, i < ds.length → Rep F β w (cs.getD i undef) (ds.getD i .junk)) →
      ∃ v, (part t cs.toArray k).run P w = .ok v w ∧ Rep F β w v d := by
  unfold loadD at h
  split at h
  · rename_i u hu
    split at h
    · rename_i ha
      obtain ⟨hl, hk⟩ := cutK_out h
      refine ⟨_, hk, fun F β w cs hlen h1 hr => ⟨.agg ((cs.drop k).take (P.cellsOf t)).toArray, ?_, .agg _ _ ?_ ?_ ?_⟩⟩
      · simp only [part, Sem.run_bind, run_isAgg hu, ha, Result.andThen_ok, if_true, run_sizeOf hu, Sem.run_pure]
        congr 2
        rw [List.extract_toArray, List.extract_eq_take_drop]
        congr 2
        omega
      · simp; omega
      · intro x hx; exact h1 x (List.mem_of_mem_drop (List.mem_of_mem_take hx))
      · intro i hi
        have hi' : i < P.cellsOf t := by simp at hi; omega
        have := hr (k + i) (by omega)
        simp only [List.getD_eq_getElem?_getD, List.getElem?_take_of_lt hi', List.getElem?_drop]
        simpa [List.getD_eq_getElem?_getD] using this
    · rename_i ha
      obtain ⟨hl, hk⟩ := nthK_out h
      refine ⟨_, hk, fun F β w cs hlen h1 hr => ⟨cs.getD k undef, ?_, hr k hl⟩⟩
      simp only [part, Sem.run_bind, run_isAgg hu, ha, Result.andThen_ok, getD_toArray (cs := cs) (i := k) (by omega)]
      rfl
  · exact h.elim

theorem fieldD_sound {t : TypeId} {x : Operand} {f : Nat} (h : fieldD X.P t (st.ev x) f K) : ∃ d, K d ∧ Gives X st (fun ρ => Instr.field t (ρ x) f) d := by
  unfold fieldD at h
  split at h
  · rename_i fields hs
    split at h
    · rename_i fd hf
      split at h
      · rename_i ds hx
        obtain ⟨d, hk, hd⟩ := loadD_part h
        refine ⟨d, hk, fun β a w hr => ?_⟩
        have he := hr.ev x
        rw [hx] at he
        obtain ⟨cs, hv, hl, h1, hr'⟩ := he.agg_inv
        obtain ⟨v, hv1, hv2⟩ := hd _ β w cs hl h1 hr'
        refine ⟨v, ?_, hv2⟩
        simp only [hv, Instr.field, Sem.run_bind, run_underlying hs, Result.andThen_ok, hf, asAgg, Sem.run_pure]
        exact hv1
      · exact h.elim
    · exact h.elim
  · exact h.elim

theorem chunk_length (s : Nat) : ∀ (n : Nat) (cs : List D), (chunk s n cs).length = n
  | 0, _ => rfl
  | n + 1, cs => by simp [chunk, chunk_length s n]
theorem chunk_getD (s : Nat) : ∀ (n : Nat) (cs : List D) (i : Nat), i < n → (chunk s n cs).getD i [] = (cs.drop (i * s)).take s
  | n + 1, cs, 0, _ => by simp [chunk]
  | n + 1, cs, i + 1, h => by
    have := chunk_getD s n (cs.drop s) i (by omega)
    simp only [chunk, List.getD_cons_succ, this, List.drop_drop]
    congr 2
    rw [Nat.add_mul]; omega

theorem dropK_in : ∀ {l : List D} {k : Nat} {K : List D → Prop}, k ≤ l.length → K (l.drop k) → dropK l k K
  | _, 0, _, _, h => by simpa [dropK] using h
  | [], k + 1, _, h, _ => by simp at h
  | d :: r, k + 1, K, h, h2 => dropK_in (l := r) (k := k) (by simpa using h) (by simpa using h2)
theorem takeK_in : ∀ {l : List D} {n : Nat} {K : List D → Prop}, n ≤ l.length → K (l.take n) → takeK l n K
  | _, 0, _, _, h => by simpa [takeK] using h
  | [], n + 1, _, h, _ => by simp at h
  | d :: r, n + 1, K, h, h2 => takeK_in (l := r) (n := n) (by simpa using h) (by simpa using h2)
theorem cutK_in {l : List D} {k n : Nat} {K : List D → Prop} (hl : k + n ≤ l.length) (h : K ((l.drop k).take n)) : cutK l k n K :=
  dropK_in (by omega) (takeK_in (by rw [List.length_drop]; omega) h)
theorem nthK_in : ∀ {l : List D} {n : Nat} {K : D → Prop}, n < l.length → K (l.getD n .junk) → nthK l n K
  | [], _, _, h, _ => by simp at h
  | d :: r, 0, _, _, h => h
  | d :: r, n + 1, K, h, h2 => nthK_in (l := r) (n := n) (by simpa using h) (by simpa using h2)

theorem and_true' {a b : Bool} (h : (a && b) = true) : a = true ∧ b = true := by simpa using h

theorem indexAddrD_sound {t : TypeId} {x i : Operand} (h : indexAddrD X.P st t (st.ev x) (st.ev i) K) : ∃ d, K d ∧ Gives X st (fun ρ => Instr.indexAt t (ρ x) (ρ i)) d := by
  unfold indexAddrD at h
  split at h
  · rename_i e ht
    have hrun : ∀ (w : World) (b off l c : Nat) (k : IntKind) (n : Nat), n < l → X.P.cellsOf e ≠ 0 → (Instr.indexAt t (.slice (some ⟨b, off, none⟩) l c) (.int k n)).run X.P w = .ok (.pointer (some ⟨b, off + n * X.P.cellsOf e, none⟩)) w := by
      intro w b off l c k n hn hne
      have h0 : Nat.beq (X.P.cellsOf e) 0 = false := beq_ne hne
      have hin : (0 : Int) ≤ (n : Int) ∧ (n : Int) < (l : Int) := ⟨by omega, by omega⟩
      simp only [Instr.indexAt, Sem.run_bind, asIntOf, Sem.run_pure, Result.andThen_ok, run_underlying ht, if_pos hin, run_sizeOf_pos h0, Int.toNat_natCast, add_lit]
    split at h
    · rename_i s es k n hx hi
      cases hb : (Nat.beq s (X.P.cellsOf e) && Nat.blt 0 s) with
      | false => rw [hb] at h; exact h.elim
      | true =>
        rw [hb] at h
        obtain ⟨h1, h2⟩ := and_true' hb
        have h1 := Nat.eq_of_beq_eq_true h1
        have h2 : 0 < s := by simpa [Nat.blt_eq] using h2
        obtain ⟨j, rfl, hj, hk⟩ := ElemS.out h
        refine ⟨_, hk, fun β a w hr => ?_⟩
        have he := hr.ev x
        rw [hx] at he
        have hei := hr.ev i
        rw [hi] at hei
        obtain ⟨b, off, l, c, hv, hl, _, hro⟩ := cellsAt_sl he.sl_inv hj
        refine ⟨_, ?_, .ro _ _ hro⟩
        simp only [hv, hei.int_inv]
        rw [hrun w b off l c k j (by omega) (by omega), h1]
    · rename_i o k n hx hi
      split at h
      · rename_i e' s es ho
        cases hb : (Nat.beq s (X.P.cellsOf e) && Nat.blt 0 s) with
        | false => rw [hb] at h; exact h.elim
        | true =>
          rw [hb] at h
          obtain ⟨h1, h2⟩ := and_true' hb
          have h1 := Nat.eq_of_beq_eq_true h1
          have h2 : 0 < s := by simpa [Nat.blt_eq] using h2
          obtain ⟨j, rfl, hj, hk⟩ := InS.out h
          refine ⟨_, hk, fun β a w hr => ?_⟩
          have he := hr.ev x
          rw [hx] at he
          have hei := hr.ev i
          rw [hi] at hei
          have hrow := hr.row ho he.h_inv
          obtain ⟨b, l, c, hv, _⟩ := cellsAt_row (β := β) hrow hj
          obtain ⟨_, ax, cx, hvx⟩ := row_len hrow
          rw [hv] at hvx
          cases hvx
          refine ⟨.pointer (some ⟨b, j * s + 0, none⟩), ?_, .hr _ _ _ _ _ _ he.h_inv (by rw [hv]; rfl)⟩
          simp only [hv, hei.int_inv]
          rw [hrun w b 0 _ _ k j hj (by omega), h1, Nat.zero_add, Nat.add_zero]
      · exact h.elim
    · rename_i o s' lo hi k n hx hi'
      split at h
      · rename_i e' s es ho
        cases hb : (Nat.beq s s' && Nat.beq s (X.P.cellsOf e) && Nat.blt 0 s) with
        | false => rw [hb] at h; exact h.elim
        | true =>
          rw [hb] at h
          obtain ⟨h01, h2⟩ := and_true' hb
          obtain ⟨h0, h1⟩ := and_true' h01
          have h0 := Nat.eq_of_beq_eq_true h0
          subst h0
          have h1 := Nat.eq_of_beq_eq_true h1
          have h2 : 0 < s := by simpa [Nat.blt_eq] using h2
          obtain ⟨j, rfl, hj, hk⟩ := InS.out h
          refine ⟨_, hk, fun β a w hr => ?_⟩
          have he := hr.ev x
          rw [hx] at he
          have hei := hr.ev i
          rw [hi'] at hei
          obtain ⟨y, hy, p, len, cap, q, hyv, hle, hbl, hlc, hv, hq⟩ := he.hs_inv
          have hrow := hr.row ho hy
          have hp : ∃ b, p = some ⟨b, 0, none⟩ := by
            obtain ⟨_, _, xs, how, _⟩ := hrow
            rcases how.2 with ⟨hv', hn⟩ | ⟨g, cap', cur, hv', _⟩
            · rw [hyv] at hv'
              cases hv'
              omega
            · rw [hyv] at hv'
              cases hv'
              exact ⟨g, rfl⟩
          obtain ⟨b, rfl⟩ := hp
          refine ⟨.pointer (some ⟨b, (lo + j) * s + 0, none⟩), ?_, .hr _ _ _ _ _ _ hy (by rw [hyv]; rfl)⟩
          simp only [hv, hq (by omega), Option.map_some, add_lit, hei.int_inv]
          rw [hrun w b _ _ _ k j hj (by omega), h1, Nat.zero_add, Nat.add_zero, Nat.add_mul]
      · exact h.elim
    · exact h.elim
  · rename_i len e ht
    have hrun : ∀ (w : World) (b off : Nat) (k : IntKind) (n : Nat), n < len → X.P.cellsOf e ≠ 0 → (Instr.indexAt t (.pointer (some ⟨b, off, none⟩)) (.int k n)).run X.P w = .ok (.pointer (some ⟨b, off + n * X.P.cellsOf e, none⟩)) w := by
      intro w b off k n hn hne
      have h0 : Nat.beq (X.P.cellsOf e) 0 = false := beq_ne hne
      have hin : (0 : Int) ≤ (n : Int) ∧ (n : Int) < (len : Int) := ⟨by omega, by omega⟩
      simp only [Instr.indexAt, Sem.run_bind, asIntOf, Sem.run_pure, Result.andThen_ok, run_underlying ht, Instr.sureAddr, if_pos hin, run_sizeOf_pos h0, Int.toNat_natCast, add_lit]
    split at h
    · rename_i cs k n hx hi
      cases hb : (Nat.blt 0 (X.P.cellsOf e) && Nat.ble (len * X.P.cellsOf e) cs.length) with
      | false => rw [hb] at h; exact h.elim
      | true =>
        rw [hb] at h
        obtain ⟨h1, h2⟩ := and_true' hb
        have h1 : 0 < X.P.cellsOf e := by simpa [Nat.blt_eq] using h1
        have h2 : len * X.P.cellsOf e ≤ cs.length := by simpa using h2
        obtain ⟨j, rfl, hj, hk⟩ := ElemS.out h
        rw [chunk_length] at hj
        rw [chunk_getD _ _ _ _ hj] at hk
        refine ⟨_, hk, fun β a w hr => ?_⟩
        have he := hr.ev x
        rw [hx] at he
        have hei := hr.ev i
        rw [hi] at hei
        obtain ⟨b, off, c, hv, hF, hc, hr'⟩ := he.rp_inv.rp_cases
        have hle : (j + 1) * X.P.cellsOf e ≤ len * X.P.cellsOf e := Nat.mul_le_mul_right _ hj
        rw [Nat.add_mul] at hle
        refine ⟨_, by simp only [hv, hei.int_inv]; exact hrun w b off k j hj (by omega), ?_⟩
        refine .ro _ _ (.rp _ b _ (fun m => c (j * X.P.cellsOf e + m)) hF (fun m hm => ?_) (fun m hm => ?_))
        · rw [List.length_take, List.length_drop] at hm
          rw [Nat.add_assoc]
          exact hc _ (by omega)
        · rw [List.length_take, List.length_drop] at hm
          have := hr' (j * X.P.cellsOf e + m) (by omega)
          simp only [List.getD_eq_getElem?_getD, List.getElem?_take_of_lt (show m < X.P.cellsOf e by omega), List.getElem?_drop]
          simpa [List.getD_eq_getElem?_getD] using this
    · rename_i o k0 k n hx hi
      cases hb : Nat.blt 0 (X.P.cellsOf e) with
      | false => rw [hb] at h; exact h.elim
      | true =>
        rw [hb] at h
        have h1 : 0 < X.P.cellsOf e := by simpa [Nat.blt_eq] using hb
        obtain ⟨j, rfl, hj, hk⟩ := InS.out h
        refine ⟨_, hk, fun β a w hr => ?_⟩
        have he := hr.ev x
        rw [hx] at he
        have hei := hr.ev i
        rw [hi] at hei
        obtain ⟨b, y, hy, hb, hv⟩ := he.hp_inv
        exact ⟨_, by simp only [hv, hei.int_inv]; exact hrun w b k0 k j hj (by omega), .hp _ _ _ _ hy hb⟩
    · exact h.elim
  · exact h.elim

theorem indexD_sound {t : TypeId} {x i : Operand} (h : indexD X.P t (st.ev x) (st.ev i) K) : ∃ d, K d ∧ Gives X st (fun ρ => Instr.index t (ρ x) (ρ i)) d := by
  unfold indexD at h
  split at h
  · rename_i ht
    split at h
    · rename_i l k n hx hi
      obtain ⟨j, hj, rfl, hk⟩ := ByteS.out h
      refine ⟨_, hk, fun β a w hr => ?_⟩
      have he := hr.ev x
      rw [hx] at he
      have hei := hr.ev i
      rw [hi] at hei
      refine ⟨_, ?_, .ro _ _ (.int _ _)⟩
      have hb : (⟨l.toArray⟩ : ByteArray)[j]? = some l[j] := by
        have hsz : j < (⟨l.toArray⟩ : ByteArray).size := by simpa [ByteArray.size] using hj
        rw [getElem?_pos (⟨l.toArray⟩ : ByteArray) j hsz]
        rfl
      have h0 : (0 : Int) ≤ (j : Int) := by omega
      simp only [he.str_inv, hei.int_inv, Instr.index, Sem.run_bind, asIntOf, Sem.run_pure, Result.andThen_ok, run_underlying ht, if_pos h0, Int.toNat_natCast, hb]
    · exact h.elim
  · rename_i len e ht
    split at h
    · rename_i ds k n hx hi
      cases hb : (Nat.blt 0 (X.P.cellsOf e) && Nat.ble (len * X.P.cellsOf e) ds.length) with
      | false => rw [hb] at h; exact h.elim
      | true =>
        rw [hb] at h
        obtain ⟨h1, h2⟩ := and_true' hb
        have h1 : 0 < X.P.cellsOf e := by simpa [Nat.blt_eq] using h1
        have h2 : len * X.P.cellsOf e ≤ ds.length := by simpa using h2
        obtain ⟨j, rfl, hj, hk⟩ := ElemS.out h
        rw [chunk_length] at hj
        rw [chunk_getD _ _ _ _ hj] at hk
        unfold partD at hk
        have hle : (j + 1) * X.P.cellsOf e ≤ len * X.P.cellsOf e := Nat.mul_le_mul_right _ hj
        rw [Nat.add_mul] at hle
        have hk2 : loadD X.P e ds (j * X.P.cellsOf e) K := by
          unfold loadD at hk ⊢
          cases hu : X.P.underlying e with
          | none => simp only [hu] at hk
          | some u =>
            simp only [hu] at hk ⊢
            cases ha : isAggD u with
            | true =>
              simp only [ha] at hk ⊢
              have := cutK_out hk
              have e1 : List.take (X.P.cellsOf e) (List.drop 0 (List.take (X.P.cellsOf e) (List.drop (j * X.P.cellsOf e) ds))) = (ds.drop (j * X.P.cellsOf e)).take (X.P.cellsOf e) := by simp [List.take_take]
              rw [e1] at this
              exact cutK_in (by omega) this.2
            | false =>
              simp only [ha] at hk ⊢
              have := nthK_out hk
              refine nthK_in (by omega) ?_
              have := this.2
              simp only [List.getD_eq_getElem?_getD, List.getElem?_take_of_lt h1, List.getElem?_drop, Nat.add_zero] at this
              simpa [List.getD_eq_getElem?_getD] using this
        obtain ⟨d, hkd, hd⟩ := loadD_part hk2
        refine ⟨d, hkd, fun β a w hr => ?_⟩
        have he := hr.ev x
        rw [hx] at he
        have hei := hr.ev i
        rw [hi] at hei
        obtain ⟨cs, hv, hl, hone, hr'⟩ := he.agg_inv
        obtain ⟨v, hv1, hv2⟩ := hd _ β w cs hl hone hr'
        refine ⟨v, ?_, hv2⟩
        have hin : (0 : Int) ≤ (j : Int) ∧ (j : Int) < (len : Int) := ⟨by omega, by omega⟩
        have h0 : Nat.beq (X.P.cellsOf e) 0 = false := beq_ne (by omega)
        simp only [hv, hei.int_inv, Instr.index, Sem.run_bind, asIntOf, Sem.run_pure, Result.andThen_ok, run_underlying ht, if_pos hin, run_sizeOf_pos h0, Int.toNat_natCast]
        exact hv1
    · exact h.elim
  · exact h.elim
end
end Go.Eng
