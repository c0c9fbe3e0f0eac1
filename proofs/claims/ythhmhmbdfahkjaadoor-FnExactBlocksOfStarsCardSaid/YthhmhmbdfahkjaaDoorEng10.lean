/-
  The engine, tenth part. The model follows the rules of the pure operations: slices of slices, composite values, len, min, max; all of them together.
  No conditions.
-/
import Derived.Test.YthhmhmbdfahkjaaDoorEng9
namespace Go.Eng
open Go Go.RowKit

section
variable {X : Ctx} {st : St}

/-- The bounds of a slice expression, read. -/
theorem cutD_sound {lo hi : Option Operand} {n : Nat} {K : Option Nat → Option Nat → Prop} (h : cutD (lo.map st.ev) (hi.map st.ev) n K) :
    ∃ a b : Option Nat, K a b ∧ (a.getD 0 ≤ b.getD n ∧ b.getD n ≤ n) ∧ ∀ β ac w, Rel X st β ac w → ∀ (isSlice : Bool) (cap : Nat), n ≤ cap →
      (Instr.sliceBounds isSlice n cap (lo.map ac.eval) (hi.map ac.eval) none).run X.P w = .ok (a.getD 0, b.getD n, cap) w := by
  have bound : ∀ (w : World) (k : IntKind) (i y : Nat) (c : BoundsCode), i ≤ y → (Instr.sliceBound (.int k i) y c).run X.P w = .ok i w := by
    intro w k i y c hi
    have : (0 : Int) ≤ (i : Int) ∧ (i : Int) ≤ (y : Int) := ⟨by omega, by omega⟩
    simp only [Instr.sliceBound, Sem.run_bind, asIntOf, Sem.run_pure, Result.andThen_ok, if_pos this, Int.toNat_natCast]
  cases lo with
  | none =>
    cases hi with
    | none =>
      refine ⟨none, none, h, ⟨Nat.zero_le _, Nat.le_refl _⟩, fun β ac w hr isS cap hc => ?_⟩
      simp [Instr.sliceBounds]
    | some y =>
      cases hy : st.ev y <;> simp only [Option.map_none, Option.map_some, hy, cutD] at h
      rename_i k b
      obtain ⟨p, q, hp, rfl, h1, h2, hk⟩ := CutS.out h
      refine ⟨none, some q, hk, ⟨Nat.zero_le _, h2⟩, fun β ac w hr isS cap hc => ?_⟩
      have he := hr.ev y
      rw [hy] at he
      simp only [Instr.sliceBounds, Option.map_none, Option.map_some, Sem.run_bind, Sem.run_pure, Result.andThen_ok, he.int_inv, bound w k q cap _ (by omega), Option.getD_some, Option.getD_none]
  | some x =>
    cases hi with
    | none =>
      cases hx : st.ev x <;> simp only [Option.map_none, Option.map_some, hx, cutD] at h
      rename_i k b
      obtain ⟨p, q, rfl, hq, h1, h2, hk⟩ := CutS.out h
      refine ⟨some p, none, hk, ⟨by simp; omega, Nat.le_refl _⟩, fun β ac w hr isS cap hc => ?_⟩
      have he := hr.ev x
      rw [hx] at he
      simp only [Instr.sliceBounds, Option.map_none, Option.map_some, Sem.run_bind, Sem.run_pure, Result.andThen_ok, he.int_inv, bound w k p n _ (show p ≤ n by omega), Option.getD_some, Option.getD_none, Option.isSome_none]
    | some y =>
      cases hx : st.ev x <;> cases hy : st.ev y <;> simp only [Option.map_some, hx, hy, cutD] at h
      rename_i k a k' b
      obtain ⟨p, q, rfl, rfl, h1, h2, hk⟩ := CutS.out h
      refine ⟨some p, some q, hk, ⟨h1, h2⟩, fun β ac w hr isS cap hc => ?_⟩
      have he := hr.ev x
      rw [hx] at he
      have he' := hr.ev y
      rw [hy] at he'
      simp only [Instr.sliceBounds, Option.map_some, Sem.run_bind, Sem.run_pure, Result.andThen_ok, he.int_inv, he'.int_inv, bound w k' q cap _ (by omega), Option.getD_some]
      simp [bound w k p q _ h1]

theorem cutL_length {α : Type} (l : List α) {a b : Option Nat} (h1 : a.getD 0 ≤ b.getD l.length) (h2 : b.getD l.length ≤ l.length) : (cutL l a b).length = b.getD l.length - a.getD 0 := by
  cases a <;> cases b <;> simp_all [cutL]
  omega
theorem cutL_getElem? {α : Type} (l : List α) {a b : Option Nat} (h2 : b.getD l.length ≤ l.length) {i : Nat} (hi : i < b.getD l.length - a.getD 0) : (cutL l a b)[i]? = l[a.getD 0 + i]? := by
  cases a <;> cases b <;> simp_all [cutL, List.getElem?_take_of_lt]

theorem RO.cut {F : Nat → Prop} {w : World} {s : Nat} {es : List (List D)} {b off cap : Nat} {c : Nat → Nat → Value} (hF : F b) (hcap : es.length ≤ cap) (hm : cap ≤ maxLen) (hs : ∀ i, i < es.length → (es.getD i []).length = s)
    (hc : ∀ i j, i < es.length → j < s → w.cell? ⟨b, off + i * s + j, none⟩ = some (c i j) ∧ (c i j).oneCell' = true) (hr : ∀ i j, i < es.length → j < s → RO F w (c i j) ((es.getD i []).getD j .junk))
    {x y : Option Nat} (h1 : x.getD 0 ≤ y.getD es.length) (h2 : y.getD es.length ≤ es.length) :
    RO F w (.slice (if cap = x.getD 0 then some ⟨b, off, none⟩ else some ⟨b, off + x.getD 0 * s, none⟩) (y.getD es.length - x.getD 0) (cap - x.getD 0)) (.sl s (cutL es x y)) := by
  have hl := cutL_length es h1 h2
  by_cases h0 : y.getD es.length - x.getD 0 = 0
  · rw [h0] at hl ⊢
    rw [List.eq_nil_of_length_eq_zero hl]
    exact .slnil _ _ _
  · have hne : ¬ cap = x.getD 0 := by omega
    rw [if_neg hne]
    have hg : ∀ i, i < (cutL es x y).length → (cutL es x y).getD i [] = es.getD (x.getD 0 + i) [] := by
      intro i hi
      rw [hl] at hi
      simp [List.getD_eq_getElem?_getD, cutL_getElem? es h2 hi]
    refine .sl s _ b _ _ _ (fun i j => c (x.getD 0 + i) j) hl.symm hF (by omega) (by omega) (fun i hi => ?_) (fun i j hi hj => ?_) (fun i j hi hj => ?_)
    · rw [hg i hi]; exact hs _ (by omega)
    · have := hc (x.getD 0 + i) j (by omega) hj
      rw [Nat.add_mul, ← Nat.add_assoc] at this
      exact this
    · rw [hg i hi]; exact hr _ j (by omega) hj

theorem sliceD_sound {K : D → Prop} {t : TypeId} {x : Operand} {lo hi mx : Option Operand} (ht0 : ∀ n e, X.P.underlying t ≠ some (.array n e)) (h : sliceD X.P st t (st.ev x) (lo.map st.ev) (hi.map st.ev) (mx.map st.ev) K) :
    ∃ d, K d ∧ Gives X st (fun ρ => Instr.sliceAt t (ρ x) (lo.map ρ) (hi.map ρ) (mx.map ρ)) d := by
  unfold sliceD at h
  cases mx with
  | some m => exact h.elim
  | none =>
    simp only [Option.map_none] at h
    split at h
    · rename_i ht
      split at h
      · rename_i l hx
        obtain ⟨p, q, hk, ⟨h1, h2⟩, hrun⟩ := cutD_sound h
        refine ⟨_, hk, fun β a w hr => ?_⟩
        have he := hr.ev x
        rw [hx] at he
        have hsz : (⟨l.toArray⟩ : ByteArray).size = l.length := by simp [ByteArray.size]
        have hb := hrun β a w hr false l.length (Nat.le_refl _)
        have hlm : (cutL l p q).length ≤ maxLen := by rw [cutL_length l h1 h2]; have := he.str_len; omega
        refine ⟨.string ⟨(cutL l p q).toArray⟩, ?_, .ro _ _ (.str _ hlm)⟩
        have hx : (⟨l.toArray⟩ : ByteArray).extract (p.getD 0) (q.getD l.length) = ⟨(cutL l p q).toArray⟩ := by
          apply ByteArray.ext
          apply Array.ext'
          simp only [ByteArray.data_extract, Array.toList_extract, List.extract_eq_take_drop]
          cases p <;> cases q <;> simp [cutL]
          rw [List.take_of_length_le (by simp)]
        simp only [he.str_inv, Instr.sliceAt, Instr.slice, Sem.run_bind, run_underlying ht, Result.andThen_ok, Option.map_none, Option.isSome_none, hsz]
        simp [hb, hx]
      · exact h.elim
    · rename_i e ht
      split at h
      · rename_i s es hx
        cases hb : (Nat.beq s (X.P.cellsOf e) && Nat.blt 0 s) with
        | false => rw [hb] at h; exact h.elim
        | true =>
          rw [hb] at h
          obtain ⟨g1, g2⟩ := and_true' hb
          have hse := Nat.eq_of_beq_eq_true g1
          have g2 : 0 < s := by simpa [Nat.blt_eq] using g2
          simp only [cond_true] at h
          obtain ⟨p, q, hk, ⟨h1, h2⟩, hrun⟩ := cutD_sound h
          refine ⟨_, hk, fun β a w hr => ?_⟩
          have he := hr.ev x
          rw [hx] at he
          have h0 : Nat.beq (X.P.cellsOf e) 0 = false := beq_ne (by omega)
          rcases he.sl_inv.sl_cases with ⟨rfl, ax, cx, hv⟩ | ⟨b, off, cap, c, hv, hF, hcap, hm, hs, hc, hr'⟩
          · have hb := hrun β a w hr true cx (Nat.zero_le _)
            have hz : q.getD 0 - p.getD 0 = 0 := by simp at h1 h2; omega
            refine ⟨.slice (if cx = p.getD 0 then ax else ax.map (·.add (p.getD 0 * s))) 0 (cx - p.getD 0), ?_, ?_⟩
            · simp only [hv, Instr.sliceAt, Instr.slice, Sem.run_bind, run_underlying ht, Result.andThen_ok, Option.map_none, run_sizeOf_pos h0, Sem.run_pure, ← hse]
              simp only [List.length_nil] at hb
              simp only [hb, Result.andThen_ok, hz]
            · have : cutL ([] : List (List D)) p q = [] := by cases p <;> cases q <;> simp [cutL]
              rw [this]
              exact .ro _ _ (.slnil _ _ _)
          · have hb := hrun β a w hr true cap hcap
            refine ⟨_, ?_, .ro _ _ (RO.cut hF hcap hm hs hc hr' h1 h2)⟩
            simp only [hv, Instr.sliceAt, Instr.slice, Sem.run_bind, run_underlying ht, Result.andThen_ok, Option.map_none, run_sizeOf_pos h0, Sem.run_pure, ← hse, hb, Option.map_some, add_lit]
      · rename_i o hx
        split at h
        · rename_i e' s es ho
          cases hb : (Nat.beq s (X.P.cellsOf e) && Nat.blt 0 s) with
          | false => rw [hb] at h; exact h.elim
          | true =>
            rw [hb] at h
            obtain ⟨g1, g2⟩ := and_true' hb
            have hse := Nat.eq_of_beq_eq_true g1
            have g2 : 0 < s := by simpa [Nat.blt_eq] using g2
            simp only [cond_true] at h
            obtain ⟨p, q, hk, ⟨h1, h2⟩, hrun⟩ := cutD_sound h
            refine ⟨_, hk, fun β a w hr => ?_⟩
            have he := hr.ev x
            rw [hx] at he
            have h0 : Nat.beq (X.P.cellsOf e) 0 = false := beq_ne (by omega)
            have hrow := hr.row ho he.h_inv
            obtain ⟨_, hs, xs, how, _, hro⟩ := hrow
            rcases how.2 with ⟨hv, hn⟩ | ⟨g, cap, cur, hv, _, hg, hnc, hcm, hcs, htk⟩
            · have hb := hrun β a w hr true 0 (by omega)
              have hq : q.getD es.length = 0 := by omega
              have hp : p.getD 0 = 0 := by omega
              refine ⟨.slice none 0 0, ?_, .hs _ _ _ _ _ _ he.h_inv ⟨none, 0, 0, hv, h1, by omega, Nat.le_refl _, by rw [hq, hp]; rfl⟩⟩
              simp only [hv, Instr.sliceAt, Instr.slice, Sem.run_bind, run_underlying ht, Result.andThen_ok, Option.map_none, run_sizeOf_pos h0, Sem.run_pure, ← hse]
              rw [hn] at hb
              simp only [hb, Result.andThen_ok, hp]
              rw [hn] at hq
              rw [hq]
              rfl
            · have hb := hrun β a w hr true cap hnc
              refine ⟨_, ?_, .hs _ _ _ _ _ _ he.h_inv ⟨_, _, _, hv, h1, h2, hnc, rfl⟩⟩
              simp only [hv, Instr.sliceAt, Instr.slice, Sem.run_bind, run_underlying ht, Result.andThen_ok, Option.map_none, run_sizeOf_pos h0, Sem.run_pure, ← hse, hb, Option.map_some, add_lit]
        · exact h.elim
      · exact h.elim
    · exact h.elim
end
end Go.Eng
