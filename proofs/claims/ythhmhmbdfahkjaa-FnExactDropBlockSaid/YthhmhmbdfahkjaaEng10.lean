/-
  The engine, tenth part. The model follows the rules of the pure operations: slices of slices, composite values, len, min, max; all of them together.
  No conditions.
-/
import Derived.Test.YthhmhmbdfahkjaaEng9
namespace Go.Eng
open Go Go.RowKit

section
variable {X : Ctx} {st : St}

/-- The bounds of a slice expression, read. -/
theorem cutD_sound {lo hi : Option Operand} {n : Nat} {K : Option Nat → Option Nat → Prop} (h : cutD (lo.map st.ev) (hi.map st.ev) n K) :
    ∃ a b : Option Nat, K a b ∧ (a.getD 0 ≤ b.getD n ∧ b.getD n ≤ n) ∧ ∀ β ac w, Rel X st β ac w → ∀ (isSlice : Bool) (cap : Nat), n ≤ cap →
      (Instr.sliceBounds isSlice n cap (lo.map ac.eval) (hi.map ac.eval) none).run X.P w = .ok (a.getD 0, b.getD n, cap) w := by
  have bound : ∀ (w : World) (k : IntKind) (i y : Nat) (c : BoundsCode), i ≤ y → (Instr.sliceBound (.int k i) y c).run X.P w = .ok i w := by
    intro w k i y c hi
    have : (0 : Int) ≤ (i : Int) ∧ (i : Int) ≤ (y : Int) := ⟨by omega, by omega⟩
    simp only [Instr.sliceBound, Sem.run_bind, asIntOf, Sem.run_pure, Result.andThen_ok, if_pos this, Int.toNat_natCast]
  cases lo with
  | none =>
    cases hi with
    | none =>
      refine ⟨none, none, h, ⟨Nat.zero_le _, Nat.le_refl _⟩, fun β ac w hr isS cap hc => ?_⟩
      simp [Instr.sliceBounds]
    | some y =>
      cases hy : st.ev y <;> simp only [Option.map_none, Option.map_some, hy, cutD] at h
      rename_i k b
      obtain ⟨p, q, hp, rfl, h1, h2, hk⟩ := CutS.out h
      refine ⟨none, some q, hk, ⟨Nat.zero_le _, h2⟩, fun β ac w hr isS cap hc => ?_⟩
      have he := hr.ev y
      rw [hy] at he
      simp only [Instr.sliceBounds, Option.map_none, Option.map_some, Sem.run_bind, Sem.run_pure, Result.andThen_ok, he.int_inv, bound w k q cap _ (by omega), Option.getD_some, Option.getD_none]
  | some x =>
    cases hi with
    | none =>
      cases hx : st.ev x <;> simp only [Option.map_none, Option.map_some, hx, cutD] at h
      rename_i k b
      obtain ⟨p, q, rfl, hq, h1, h2, hk⟩ := CutS.out h
      refine ⟨some p, none, hk, ⟨by simp; omega, Nat.le_refl _⟩, fun β ac w hr isS cap hc => ?_⟩
      have he := hr.ev x
      rw [hx] at he
      simp only [Instr.sliceBounds, Option.map_none, Option.map_some, Sem.run_bind, Sem.run_pure, Result.andThen_ok, he.int_inv, bound w k p n _ (show p ≤ n by omega), Option.getD_some, Option.getD_none, Option.isSome_none]
    | some y =>
      cases hx : st.ev x <;> cases hy : st.ev y <;> simp only [Option.map_some, hx, hy, cutD] at h
      rename_i k a k' b
      obtain ⟨p, q, rfl, rfl, h1, h2, hk⟩ := CutS.out h
      refine ⟨some p, some q, hk, ⟨h1, h2⟩, fun β ac w hr isS cap hc => ?_⟩
      have he := hr.ev x
      rw [hx] at he
      have he' := hr.ev y
      rw [hy] at he'
      simp only [Instr.sliceBounds, Option.map_some, Sem.run_bind, Sem.run_pure, Result.andThen_ok, he.int_inv, he'.int_inv, bound w k' q cap _ (by omega), Option.getD_some]
      simp [bound w k p q _ h1]

theorem cutL_length {α : Type} (l : List α) {a b : Option Nat} (h1 : a.getD 0 ≤ b.getD l.length) (h2 : b.getD l.length ≤ l.length) : (cutL l a b).length = b.getD l.length - a.getD 0 := by
  cases a <;> cases b <;> simp_all [cutL]
  omega
theorem cutL_getElem? {α : Type} (l : List α) {a b : Option Nat} (h2 : b.getD l.length ≤ l.length) {i : Nat} (hi : i < b.getD l.length - a.getD 0) : (cutL l a b)[i]? = l[a.getD 0 + i]? := by
  cases a <;> cases b <;> simp_all [cutL, List.getElem?_take_of_lt]

theorem RO.cut {F : Nat → Prop} {w : World} {s : Nat} {es : List (List D)} {b off cap : Nat} {c : Nat → Nat → Value} (hF : F b) (hcap : es.length ≤ cap) (hm : cap ≤ maxLen) (hs : ∀ i, i < es.length → (es.getD i []).length = s)
    (hc : ∀ i j, i < es.length → j < s → w.cell? ⟨b, off + i * s + j, none⟩ = some (c i j) ∧ (c i j).oneCell' = true) (hr : ∀ i j, i < es.length → j < s → RO F w (c i j) ((es.getD i []).getD j .junk))
    {x y : Option Nat} (h1 : x.getD 0 ≤ y.getD es.length) (h2 : y.getD es.length ≤ es.length) :
    RO F w (.slice (if cap = x.getD 0 then some ⟨b, off, none⟩ else some ⟨b, off + x.getD 0 * s, none⟩) (y.getD es.length - x.getD 0) (cap - x.getD 0)) (.sl s (cutL es x y)) := by
  have hl := cutL_length es h1 h2
  by_cases h0 : y.getD es.length - x.getD 0 = 0
  · rw [h0] at hl ⊢
    rw [List.eq_nil_of_length_eq_zero hl]
    exact .slnil _ _ _
  · have hne : ¬ cap = x.getD 0 := by omega
    rw [if_neg hne]
    have hg : ∀ i, i < (cutL es x y).length → (cutL es x y).getD i [] = es.getD (x.getD 0 + i) [] := by
      intro i hi
      rw [hl] at hi
      simp [List.getD_eq_getElem?_getD, cutL_getElem? es h2 hi]
    refine .sl s _ b _ _ _ (fun i j => c (x.getD 0 + i) j) hl.symm hF (by omega) (by omega) (fun i hi => ?_) (fun i j hi hj => ?_) (fun i j hi hj => ?_)
    · rw [hg i hi]; exact hs _ (by omega)
    · have := hc (x.getD 0 + i) j (by omega) hj
      rw [Nat.add_mul, ← Nat.add_assoc] at this
      exact this
    · rw [hg i hi]; exact hr _ j (by omega) hj

/-- The bounds, beyond the length. -/
theorem cutC_sound {lo hi : Option Operand} {n c : Nat} {K : Nat → Nat → Prop} (h : cutC (lo.map st.ev) (hi.map st.ev) n c K) (hnc : n ≤ c) :
    ∃ a b : Nat, K a b ∧ a ≤ b ∧ b ≤ c ∧ ∀ β ac w, Rel X st β ac w → ∀ (cap : Nat), c ≤ cap →
      (Instr.sliceBounds true n cap (lo.map ac.eval) (hi.map ac.eval) none).run X.P w = .ok (a, b, cap) w := by
  have bound : ∀ (w : World) (k : IntKind) (i y : Nat) (c : BoundsCode), i ≤ y → (Instr.sliceBound (.int k i) y c).run X.P w = .ok i w := by
    intro w k i y c hi
    have : (0 : Int) ≤ (i : Int) ∧ (i : Int) ≤ (y : Int) := ⟨by omega, by omega⟩
    simp only [Instr.sliceBound, Sem.run_bind, asIntOf, Sem.run_pure, Result.andThen_ok, if_pos this, Int.toNat_natCast]
  cases lo with
  | none =>
    cases hi with
    | none =>
      refine ⟨0, n, h, Nat.zero_le _, hnc, fun β ac w hr cap hc => ?_⟩
      simp [Instr.sliceBounds]
    | some y =>
      cases hy : st.ev y <;> simp only [Option.map_none, Option.map_some, hy, cutC] at h
      rename_i k b
      obtain ⟨p, q, hp, rfl, h1, h2, hk⟩ := CutS.out h
      refine ⟨0, q, hk, Nat.zero_le _, h2, fun β ac w hr cap hc => ?_⟩
      have he := hr.ev y
      rw [hy] at he
      simp only [Instr.sliceBounds, Option.map_none, Option.map_some, Sem.run_bind, Sem.run_pure, Result.andThen_ok, he.int_inv, bound w k q cap _ (by omega)]
  | some x =>
    cases hi with
    | none =>
      cases hx : st.ev x <;> simp only [Option.map_none, Option.map_some, hx, cutC] at h
      rename_i k b
      obtain ⟨p, q, rfl, hq, h1, h2, hk⟩ := CutS.out h
      refine ⟨p, n, hk, by omega, hnc, fun β ac w hr cap hc => ?_⟩
      have he := hr.ev x
      rw [hx] at he
      simp only [Instr.sliceBounds, Option.map_none, Option.map_some, Sem.run_bind, Sem.run_pure, Result.andThen_ok, he.int_inv, bound w k p n _ (show p ≤ n by omega), Option.isSome_none]
    | some y =>
      cases hx : st.ev x <;> cases hy : st.ev y <;> simp only [Option.map_some, hx, hy, cutC] at h
      rename_i k a k' b
      obtain ⟨p, q, rfl, rfl, h1, h2, hk⟩ := CutS.out h
      refine ⟨p, q, hk, h1, h2, fun β ac w hr cap hc => ?_⟩
      have he := hr.ev x
      rw [hx] at he
      have he' := hr.ev y
      rw [hy] at he'
      simp only [Instr.sliceBounds, Option.map_some, Sem.run_bind, Sem.run_pure, Result.andThen_ok, he.int_inv, he'.int_inv, bound w k' q cap _ (by omega)]
      simp [bound w k p q _ h1]

/-- A row of the call's own, as memory that is read. -/
theorem row_ro {F F' : Nat → Prop} {w : World} {e : TypeId} {s : Nat} {es : List (List D)} {x : Value} (h : OwnRow F w e s es x) (hF : ∀ b, F b → F' b) (hx : ∀ b, blk x = some b → F' b) : RO F' w x (.sl s es) := by
  obtain ⟨hm, hs, xs, how, h1, hro⟩ := h
  rcases how.2 with ⟨rfl, hn⟩ | ⟨g, cap, cur, rfl, _, hg, hnc, hcm, hcs, htk⟩
  · rw [List.eq_nil_of_length_eq_zero hn]
    exact .slnil _ _ _
  · refine .sl s es g 0 _ cap (fun i j => xs.getD (i * s + j) undef) rfl (hx g rfl) hnc hcm hs (fun i j hi hj => ?_) (fun i j hi hj => (hro i j hi hj).mono (fun b hb => ⟨hF b hb, rfl⟩))
    have hxl : xs.length = es.length * s := how.1
    have hle : (i + 1) * s ≤ es.length * s := Nat.mul_le_mul_right s hi
    rw [Nat.add_mul] at hle
    have hlt : i * s + j < xs.length := by omega
    have hx : xs.getD (i * s + j) undef = xs[i * s + j] := by simp [List.getD_eq_getElem?_getD, hlt]
    have := how.cells (g := g) rfl (i * s + j) xs[i * s + j] (by simp [hlt])
    rw [add_lit, Nat.zero_add] at this
    rw [hx, Nat.zero_add]
    exact ⟨this, h1 _ (List.getElem_mem _)⟩
theorem sub_ro {F F' : Nat → Prop} {w : World} {e : TypeId} {s a b : Nat} {es : List (List D)} {x v : Value} (h : OwnRow F w e s es x) (hF : ∀ b, F b → F' b) (hx : ∀ b, blk x = some b → F' b) (hsub : Sub s a b x v) (hbl : b ≤ es.length) :
    RO F' w v (.sl s ((es.drop a).take (b - a))) := by
  obtain ⟨p, len, cap, q, hxv, hab, hbc, hlc, rfl, hq⟩ := hsub
  rcases Nat.lt_or_ge a b with hlt | hge
  · obtain ⟨hm, hs, xs, how, h1, hro⟩ := h
    rcases how.2 with ⟨hv, hn⟩ | ⟨g, cap', cur, hv, _, hg, hnc, hcm, hcs, htk⟩
    · omega
    · rw [hxv] at hv
      cases hv
      have := RO.cut (F := F') (w := w) (x := some a) (y := some b) (off := 0) (c := fun i j => xs.getD (i * s + j) undef) (hx g (by rw [hxv]; rfl)) hnc hcm hs (fun i j hi hj => by
        have hxl : xs.length = es.length * s := how.1
        have hle : (i + 1) * s ≤ es.length * s := Nat.mul_le_mul_right s hi
        rw [Nat.add_mul] at hle
        have hlt : i * s + j < xs.length := by omega
        have hx : xs.getD (i * s + j) undef = xs[i * s + j] := by simp [List.getD_eq_getElem?_getD, hlt]
        have := how.cells (g := g) (by rw [hxv]; rfl) (i * s + j) xs[i * s + j] (by simp [hlt])
        rw [add_lit, Nat.zero_add] at this
        rw [hx, Nat.zero_add]
        exact ⟨this, h1 _ (List.getElem_mem _)⟩) (fun i j hi hj => (hro i j hi hj).mono (fun b hb => ⟨hF b hb, rfl⟩)) hab hbl
      rw [hq (by omega)]
      simpa [cutL, add_lit, show ¬ cap = a by omega] using this
  · have hb0 : b - a = 0 := by omega
    rw [hb0]
    exact .slnil _ _ _

theorem sliceD_sound {K : D → Prop} {t : TypeId} {x : Operand} {lo hi mx : Option Operand} (ht0 : ∀ n e, X.P.underlying t ≠ some (.array n e)) (h : sliceD X.P st t (st.ev x) (lo.map st.ev) (hi.map st.ev) (mx.map st.ev) K) :
    ∃ d, K d ∧ Gives X st (fun ρ => Instr.sliceAt t (ρ x) (lo.map ρ) (hi.map ρ) (mx.map ρ)) d := by
  unfold sliceD at h
  cases mx with
  | some m =>
    simp only [Option.map_some] at h
    split at h
    · rename_i e ht
      cases hb0 : Nat.blt 0 (X.P.cellsOf e) with
      | false => rw [hb0] at h; exact h.elim
      | true =>
        rw [hb0] at h
        simp only [cond_true] at h
        have h0 : Nat.beq (X.P.cellsOf e) 0 = false := beq_ne (by have : 0 < X.P.cellsOf e := by simpa [Nat.blt_eq] using hb0
                                                                  omega)
        split at h
        · rename_i k1 a1 k2 b1 k3 c1 hlo hhi hm
          have key : ∀ n : Nat, (∀ β a w, Rel X st β a w → ∃ p len cap, a.eval x = .slice p len cap ∧ n ≤ cap) → NeedS (0 ≤ a1 ∧ a1 ≤ b1 ∧ b1 ≤ c1 ∧ c1 ≤ n) (K .junk) → ∃ d, K d ∧ Gives X st (fun ρ => Instr.sliceAt t (ρ x) (lo.map ρ) (hi.map ρ) (some (ρ m))) d := by
            intro n hx hk
            obtain ⟨⟨g1, g2, g3, g4⟩, hk⟩ := NeedS.out hk
            refine ⟨_, hk, fun β a w hr => ?_⟩
            obtain ⟨p, len, cap, hv, hc⟩ := hx β a w hr
            cases lo with
            | none => cases hlo
            | some lo =>
              cases hi with
              | none => cases hhi
              | some hi =>
                simp only [Option.map_some, Option.some.injEq] at hlo hhi
                have e1 := hr.ev lo
                rw [hlo] at e1
                have e2 := hr.ev hi
                rw [hhi] at e2
                have e3 := hr.ev m
                rw [hm] at e3
                have bound : ∀ (k : IntKind) (i : Int) (y : Nat) (c : BoundsCode), 0 ≤ i → i ≤ y → (Instr.sliceBound (.int k i) y c).run X.P w = .ok i.toNat w := by
                  intro k i y c h1 h2
                  have : (0 : Int) ≤ i ∧ i ≤ (y : Int) := ⟨h1, h2⟩
                  simp only [Instr.sliceBound, Sem.run_bind, asIntOf, Sem.run_pure, Result.andThen_ok, if_pos this]
                refine ⟨.slice (if c1.toNat = a1.toNat then p else p.map (·.add (a1.toNat * X.P.cellsOf e))) (b1.toNat - a1.toNat) (c1.toNat - a1.toNat), ?_, .ro _ _ (.junk _)⟩
                · have hs3 := run_sizeOf_pos h0 w
                  simp only [hv, Instr.sliceAt, Instr.slice, Instr.sliceBounds, Option.map_some, Sem.run_bind, run_underlying ht, Result.andThen_ok, e1.int_inv, e2.int_inv, e3.int_inv, bound k3 c1 cap _ (by omega) (by omega), bound k2 b1 c1.toNat _ (by omega) (by omega), Option.isSome_some, Sem.run_pure, hs3]
                  simp only [bound k1 a1 b1.toNat _ (by omega) (by omega), Sem.run_bind, Sem.run_pure, Result.andThen_ok, hs3, if_true]
          split at h
          · rename_i s es hx
            refine key es.length (fun β a w hr => ?_) h
            have he := hr.ev x
            rw [hx] at he
            rcases he.sl_inv.sl_cases with ⟨rfl, ad, c, hv⟩ | ⟨b, off, cap, c, hv, hF, hcap, _⟩
            · exact ⟨_, _, _, hv, Nat.zero_le _⟩
            · exact ⟨_, _, _, hv, hcap⟩
          · rename_i o hx
            split at h
            · rename_i e' s es ho
              refine key es.length (fun β a w hr => ?_) h
              have he := hr.ev x
              rw [hx] at he
              obtain ⟨_, _, xs, how, _⟩ := hr.row ho he.h_inv
              rcases how.2 with ⟨hv, hn⟩ | ⟨g, cap, cur, hv, _, hg, hnc, _⟩
              · exact ⟨_, _, _, hv, by omega⟩
              · exact ⟨_, _, _, hv, hnc⟩
            · exact h.elim
          · rename_i o s2 p q hx
            refine key (q - p) (fun β a w hr => ?_) h
            have he := hr.ev x
            rw [hx] at he
            obtain ⟨y, hy, pp, len, cap, qq, hyv, hab, hbc, hlc, hv, hq⟩ := he.hs_inv
            exact ⟨_, _, _, hv, by omega⟩
          · exact h.elim
        · exact h.elim
    · exact h.elim
  | none =>
    simp only [Option.map_none] at h
    split at h
    · rename_i ht
      split at h
      · rename_i l hx
        obtain ⟨p, q, hk, ⟨h1, h2⟩, hrun⟩ := cutD_sound h
        refine ⟨_, hk, fun β a w hr => ?_⟩
        have he := hr.ev x
        rw [hx] at he
        have hsz : (⟨l.toArray⟩ : ByteArray).size = l.length := by simp [ByteArray.size]
        have hb := hrun β a w hr false l.length (Nat.le_refl _)
        have hlm : (cutL l p q).length ≤ maxLen := by rw [cutL_length l h1 h2]; have := he.str_len; omega
        refine ⟨.string ⟨(cutL l p q).toArray⟩, ?_, .ro _ _ (.str _ hlm)⟩
        have hx : (⟨l.toArray⟩ : ByteArray).extract (p.getD 0) (q.getD l.length) = ⟨(cutL l p q).toArray⟩ := by
          apply ByteArray.ext
          apply Array.ext'
          simp only [ByteArray.data_extract, Array.toList_extract, List.extract_eq_take_drop]
          cases p <;> cases q <;> simp [cutL]
          rw [List.take_of_length_le (by simp)]
        simp only [he.str_inv, Instr.sliceAt, Instr.slice, Sem.run_bind, run_underlying ht, Result.andThen_ok, Option.map_none, Option.isSome_none, hsz]
        simp [hb, hx]
      · exact h.elim
    · rename_i e ht
      split at h
      · rename_i s es hx
        cases hb : (Nat.beq s (X.P.cellsOf e) && Nat.blt 0 s) with
        | false => rw [hb] at h; exact h.elim
        | true =>
          rw [hb] at h
          obtain ⟨g1, g2⟩ := and_true' hb
          have hse := Nat.eq_of_beq_eq_true g1
          have g2 : 0 < s := by simpa [Nat.blt_eq] using g2
          simp only [cond_true] at h
          obtain ⟨p, q, hk, ⟨h1, h2⟩, hrun⟩ := cutD_sound h
          refine ⟨_, hk, fun β a w hr => ?_⟩
          have he := hr.ev x
          rw [hx] at he
          have h0 : Nat.beq (X.P.cellsOf e) 0 = false := beq_ne (by omega)
          rcases he.sl_inv.sl_cases with ⟨rfl, ax, cx, hv⟩ | ⟨b, off, cap, c, hv, hF, hcap, hm, hs, hc, hr'⟩
          · have hb := hrun β a w hr true cx (Nat.zero_le _)
            have hz : q.getD 0 - p.getD 0 = 0 := by simp at h1 h2; omega
            refine ⟨.slice (if cx = p.getD 0 then ax else ax.map (·.add (p.getD 0 * s))) 0 (cx - p.getD 0), ?_, ?_⟩
            · simp only [hv, Instr.sliceAt, Instr.slice, Sem.run_bind, run_underlying ht, Result.andThen_ok, Option.map_none, run_sizeOf_pos h0, Sem.run_pure, ← hse]
              simp only [List.length_nil] at hb
              simp only [hb, Result.andThen_ok, hz]
            · have : cutL ([] : List (List D)) p q = [] := by cases p <;> cases q <;> simp [cutL]
              rw [this]
              exact .ro _ _ (.slnil _ _ _)
          · have hb := hrun β a w hr true cap hcap
            refine ⟨_, ?_, .ro _ _ (RO.cut hF hcap hm hs hc hr' h1 h2)⟩
            simp only [hv, Instr.sliceAt, Instr.slice, Sem.run_bind, run_underlying ht, Result.andThen_ok, Option.map_none, run_sizeOf_pos h0, Sem.run_pure, ← hse, hb, Option.map_some, add_lit]
      · rename_i o hx
        split at h
        · rename_i e' s es ho
          cases hb : (Nat.beq s (X.P.cellsOf e) && Nat.blt 0 s) with
          | false => rw [hb] at h; exact h.elim
          | true =>
            rw [hb] at h
            obtain ⟨g1, g2⟩ := and_true' hb
            have hse := Nat.eq_of_beq_eq_true g1
            have g2 : 0 < s := by simpa [Nat.blt_eq] using g2
            simp only [cond_true] at h
            obtain ⟨p, q, hk, h1, h2, hrun⟩ := cutC_sound h (Nat.le_refl _)
            refine ⟨_, hk, fun β a w hr => ?_⟩
            have he := hr.ev x
            rw [hx] at he
            have h0 : Nat.beq (X.P.cellsOf e) 0 = false := beq_ne (by omega)
            have hrow := hr.row ho he.h_inv
            obtain ⟨_, hs, xs, how, _, hro⟩ := hrow
            rcases how.2 with ⟨hv, hn⟩ | ⟨g, cap, cur, hv, _, hg, hnc, hcm, hcs, htk⟩
            · have hb := hrun β a w hr 0 (by omega)
              have hp : p = 0 := by omega
              have hq : q = 0 := by omega
              subst hp hq
              refine ⟨.slice none 0 0, ?_, .hs _ _ _ _ _ _ he.h_inv ⟨none, 0, 0, none, hv, h1, by omega, Nat.le_refl _, rfl, fun _ => rfl⟩⟩
              rw [hn] at hb
              simp only [hv, Instr.sliceAt, Instr.slice, Sem.run_bind, run_underlying ht, Result.andThen_ok, Option.map_none, run_sizeOf_pos h0, Sem.run_pure, ← hse, hb]
              rfl
            · have hb := hrun β a w hr cap hnc
              refine ⟨.slice (if cap = p then some ⟨g, 0, none⟩ else (some (⟨g, 0, none⟩ : Addr)).map (·.add (p * s))) (q - p) (cap - p), ?_, .hs _ _ _ _ _ _ he.h_inv ⟨_, _, _, _, hv, h1, Nat.le_trans h2 hnc, hnc, rfl, fun hlt => by
                rcases Nat.eq_zero_or_pos p with h | h
                · subst h; simp [Addr.add]
                · exact if_neg (by omega)⟩⟩
              simp only [hv, Instr.sliceAt, Instr.slice, Sem.run_bind, run_underlying ht, Result.andThen_ok, Option.map_none, run_sizeOf_pos h0, Sem.run_pure, ← hse, hb]
        · exact h.elim
      · rename_i o s' a0 b0 hx
        -- from a part of a row to a part of the part
        have part : ∀ {s : Nat} {c : Nat}, X.P.cellsOf e = s → 0 < s → b0 ≤ c → s = s' → (∀ β a w, Rel X st β a w → ∀ y, β o = some y → ∃ p len cap, y = .slice p len cap ∧ c ≤ cap) →
            cutC (lo.map st.ev) (hi.map st.ev) (b0 - a0) (c - a0) (fun a b => K (.hs o s (a0 + a) (a0 + b))) → ∃ d, K d ∧ Gives X st (fun ρ => Instr.sliceAt t (ρ x) (lo.map ρ) (hi.map ρ) none) d := by
          intro s c hse g2 hbc hss hcap h9
          subst hss
          obtain ⟨p, q, hk, h1, h2, hrun⟩ := cutC_sound h9 (by omega)
          refine ⟨_, hk, fun β a w hr => ?_⟩
          have he := hr.ev x
          rw [hx] at he
          have h0 : Nat.beq (X.P.cellsOf e) 0 = false := beq_ne (by omega)
          obtain ⟨y, hy, pp, len, cap, qq, hyv, hab, hbcap, hlc, hv, hq⟩ := he.hs_inv
          obtain ⟨p', l', c', hyv', hcc⟩ := hcap β a w hr y hy
          rw [hyv] at hyv'
          cases hyv'
          have hb := hrun β a w hr (cap - a0) (by omega)
          by_cases ha0 : a0 ≤ c
          · refine ⟨.slice (if cap - a0 = p then qq else qq.map (·.add (p * s))) (q - p) (cap - a0 - p), ?_, .hs _ _ _ _ _ _ hy ⟨pp, len, cap, _, hyv, by omega, by omega, hlc, by rw [Nat.add_sub_add_left, Nat.sub_sub], fun hlt => ?_⟩⟩
            · simp only [hv, Instr.sliceAt, Instr.slice, Sem.run_bind, run_underlying ht, Result.andThen_ok, run_sizeOf_pos h0, Sem.run_pure, hse, hb]
            · by_cases hz : a0 + p = 0
              · have h1 : a0 = 0 := by omega
                have h2 : p = 0 := by omega
                rw [hq (.inr h1), h1, h2]
                cases pp <;> simp [Addr.add]
              rw [if_neg (by omega), hq (by omega)]
              cases pp with
              | none => rfl
              | some ad =>
                simp only [Option.map_some, Addr.add, Nat.add_mul]
                by_cases e1 : a0 * s = 0 <;> by_cases e2 : p * s = 0 <;> simp [e1, e2, Nat.add_assoc]
          · exfalso; omega
        split at h
        · rename_i e' s es ho
          cases hb : (Nat.beq s s' && Nat.beq s (X.P.cellsOf e) && Nat.blt 0 s) with
          | false => rw [hb] at h; exact h.elim
          | true =>
            rw [hb] at h
            obtain ⟨k4, h⟩ := NeedS.out h
            simp only [Bool.and_eq_true] at hb
            obtain ⟨⟨k1, k2⟩, k3⟩ := hb
            refine part (Nat.eq_of_beq_eq_true k2).symm (by simpa [Nat.blt_eq] using k3) k4 (Nat.eq_of_beq_eq_true k1) (fun β a w hr y hy => ?_) h
            obtain ⟨_, hs, xs, how, _, hro⟩ := hr.row ho hy
            rcases how.2 with ⟨hv, hn⟩ | ⟨g, cap, cur, hv, _, hg, hnc, _⟩
            · exact ⟨_, _, _, hv, by omega⟩
            · exact ⟨_, _, _, hv, hnc⟩
        · rename_i e' s cs c ho
          cases hb : (Nat.beq s s' && Nat.beq s (X.P.cellsOf e) && Nat.blt 0 s) with
          | false => rw [hb] at h; exact h.elim
          | true =>
            rw [hb] at h
            obtain ⟨k4, h⟩ := NeedS.out h
            simp only [Bool.and_eq_true] at hb
            obtain ⟨⟨k1, k2⟩, k3⟩ := hb
            refine part (Nat.eq_of_beq_eq_true k2).symm (by simpa [Nat.blt_eq] using k3) k4 (Nat.eq_of_beq_eq_true k1) (fun β a w hr y hy => ?_) h
            obtain ⟨g, cur, hv, _⟩ := hr.ownBlk ho hy
            exact ⟨_, _, _, hv, Nat.le_refl _⟩
        · exact h.elim
      · exact h.elim
    · exact h.elim
end
end Go.Eng
