/-
  The engine, eighth part. The model follows the rules of the pure operations.
  No conditions.
-/
import Derived.Test.YthhmhmbdfahkjaaEng7
namespace Go.Eng
open Go Go.RowKit

/-- A computation that leaves memory alone yields what reads as d, at every machine state of st. -/
def Gives (X : Ctx) (st : St) (s : (Operand → Value) → Sem Value) (d : D) : Prop :=
  ∀ β a w, Rel X st β a w → ∃ v, (s a.eval).run X.P w = .ok v w ∧ Rep (FX X st β w) β w v d

theorem Gives.pure {X : Ctx} {st : St} {f : (Operand → Value) → Value} {d : D} (h : ∀ β a w, Rel X st β a w → Rep (FX X st β w) β w (f a.eval) d) : Gives X st (fun ρ => Pure.pure (f ρ)) d :=
  fun β a w hr => ⟨_, rfl, h β a w hr⟩

section
variable {X : Ctx} {st : St} {K : D → Prop}

theorem nilD_sound {x : Operand} (h : nilD (st.ev x) K) : ∃ d, K d ∧ ∀ β a w, Rel X st β a w →
    (match a.eval x with
      | .pointer none | .nilIface | .nilFunc => False
      | .func (.method _) _ _ => False
      | _ => True) ∧ Rep (FX X st β w) β w (a.eval x) d := by
  unfold nilD at h
  split at h
  · rename_i cs hx
    refine ⟨_, h, fun β a w hr => ?_⟩
    have he := hr.ev x
    rw [hx] at he
    obtain ⟨b, off, hv, _⟩ := cellsAt_rp he
    rw [hv] at he ⊢
    exact ⟨trivial, he⟩
  · rename_i o k hx
    refine ⟨_, h, fun β a w hr => ?_⟩
    have he := hr.ev x
    rw [hx] at he
    obtain ⟨b, y, hy, hb, hv⟩ := he.hp_inv
    rw [hv] at he ⊢
    exact ⟨trivial, he⟩
  · rename_i o s i k hx
    refine ⟨_, h, fun β a w hr => ?_⟩
    have he := hr.ev x
    rw [hx] at he
    obtain ⟨b, y, hy, hb, hv⟩ := he.hr_inv
    rw [hv] at he ⊢
    exact ⟨trivial, he⟩
  · rename_i f ds hx
    refine ⟨_, h, fun β a w hr => ?_⟩
    have he := hr.ev x
    rw [hx] at he
    obtain ⟨cs, hv, _⟩ := he.clo_inv
    rw [hv] at he ⊢
    exact ⟨trivial, he⟩
  · exact h.elim

theorem pickD_sound {c x y : Operand} (h : pickD (st.ev c) (st.ev x) (st.ev y) K) : ∃ d, K d ∧ Gives X st (fun ρ => do pure (if ← asBool (ρ c) then ρ x else ρ y)) d := by
  unfold pickD at h
  split at h
  · rename_i cb hc
    split at h
    · rename_i bx by' hx hy
      refine ⟨_, h, fun β a w hr => ?_⟩
      have h1 := hr.ev c
      rw [hc] at h1
      have h2 := hr.ev x
      rw [hx] at h2
      have h3 := hr.ev y
      rw [hy] at h3
      refine ⟨_, by simp only [h1.bool_inv, asBool, Sem.run_bind, Sem.run_pure, Result.andThen_ok]; rfl, ?_⟩
      cases cb
      · exact h3
      · exact h2
    · cases cb with
      | true =>
        refine ⟨_, h.1 rfl, fun β a w hr => ?_⟩
        have h1 := hr.ev c
        rw [hc] at h1
        exact ⟨_, by simp only [h1.bool_inv, asBool, Sem.run_bind, Sem.run_pure, Result.andThen_ok, if_true], hr.ev x⟩
      | false =>
        refine ⟨_, h.2 rfl, fun β a w hr => ?_⟩
        have h1 := hr.ev c
        rw [hc] at h1
        exact ⟨_, by simp only [h1.bool_inv, asBool, Sem.run_bind, Sem.run_pure, Result.andThen_ok]; rfl, hr.ev y⟩
  · exact h.elim

theorem unD_sound {op : UnOp} {x : Operand} (h : unD op (st.ev x) K) : ∃ d, K d ∧ Gives X st (fun ρ => Op.unary op (ρ x)) d := by
  unfold unD at h
  split at h
  · rename_i b hx
    refine ⟨_, h, fun β a w hr => ?_⟩
    have he := hr.ev x
    rw [hx] at he
    exact ⟨_, by simp only [he.bool_inv, Op.unary]; rfl, .ro _ _ (.bool _)⟩
  · rename_i k n hx
    refine ⟨_, h.out, fun β a w hr => ?_⟩
    have he := hr.ev x
    rw [hx] at he
    exact ⟨_, by simp only [he.int_inv, Op.unary, Op.intArith]; rfl, .ro _ _ (.int _ _)⟩
  · rename_i k n hx
    refine ⟨_, h, fun β a w hr => ?_⟩
    have he := hr.ev x
    rw [hx] at he
    exact ⟨_, by simp only [he.int_inv, Op.unary, Op.intBits]; rfl, .ro _ _ (.int _ _)⟩
  · exact h.elim

theorem run_bytesToString_aux (P : Program) (w : World) (l : List UInt8) : ∀ (acc : ByteArray),
    (do
      let mut s := acc
      for c in (l.map fun c => Value.int .u8 (c.toNat : Int)).toArray do
        let .int .u8 n := c | stuck "bytesToString: byte expected"
        s := s.push (UInt8.ofNat n.toNat)
      pure (Value.string s) : Sem Value).run P w = .ok (.string ⟨(acc.data.toList ++ l).toArray⟩) w := by
  induction l with
  | nil => intro acc; simp
  | cons c l ih =>
    intro acc
    have := ih (acc.push c)
    simp only [List.map_cons, List.forIn_toArray, List.forIn_cons, Sem.run_bind] at this ⊢
    simp at this ⊢
    rw [this]

theorem run_bytesToString (P : Program) (w : World) (F : Nat → Prop) (β : Nat → Option Value) (b off len cap : Nat) (l : List UInt8) (hl : l.length = len)
    (h : ∀ i, i < len → CellsAt F β w b (off + i * 1) ((l.map byteE).getD i [])) : (Conv.bytesToString (.slice (some ⟨b, off, none⟩) len cap)).run P w = .ok (.string ⟨l.toArray⟩) w := by
  have hc : ∀ j, j < len → w.cell? ((⟨b, off, none⟩ : Addr).add j) = some (.int .u8 ((l.getD j 0).toNat : Int)) := by
    intro j hj
    obtain ⟨c, hc⟩ := h j hj
    have hj' : j < l.length := by omega
    have he : (l.map byteE).getD j [] = byteE (l.getD j 0) := by simp [List.getD_eq_getElem?_getD, hj']
    rw [he] at hc
    obtain ⟨⟨h1, _⟩, h2⟩ := hc 0 (by simp [byteE])
    rw [add_lit]
    simp only [Nat.mul_one, Nat.add_zero] at h1
    rw [h1]
    simp only [byteE] at h2
    rw [h2.int_inv]
  have hr := run_loadCells (P := P) (w := w) ⟨b, off, none⟩ len (fun j => .int .u8 ((l.getD j 0).toNat : Int)) hc
  have := run_bytesToString_aux P w l ByteArray.empty
  have hm : (List.map (fun j => Value.int IntKind.u8 ((l.getD j 0).toNat : Int)) (List.range len)) = l.map fun c => Value.int .u8 (c.toNat : Int) := by
    apply List.ext_getElem
    · simp [hl]
    · intro i h1 h2
      simp at h1 h2
      simp [List.getD_eq_getElem?_getD, h2]
  simp only [Conv.bytesToString, Sem.run_bind, hr, Result.andThen_ok]
  simp only [Sem.run_bind] at this
  rw [hm]
  simpa using this

theorem bytes_rows {F : Nat → Prop} {β : Nat → Option Value} {w : World} {b off : Nat} {s : Nat} {es : List (List D)} (P : Program) (len cap : Nat) (l : List UInt8) (hs : s = 1) (he : es = l.map byteE) (hlen : len = es.length)
    (h : ∀ i, i < es.length → CellsAt F β w b (off + i * s) (es.getD i [])) : (Conv.bytesToString (.slice (some ⟨b, off, none⟩) len cap)).run P w = .ok (.string ⟨l.toArray⟩) w := by
  subst hs he hlen
  exact run_bytesToString P w F β b off _ cap l (by simp) (fun i hi => h i hi)

theorem bytes_nil (P : Program) (w : World) (a : Option Addr) (cap : Nat) : (Conv.bytesToString (.slice a 0 cap)).run P w = .ok (.string ⟨([] : List UInt8).toArray⟩) w := by
  cases a with
  | none => rfl
  | some a => simp [Conv.bytesToString, loadCells, loadCellsFrom]; rfl

theorem isU8_spec {P : Program} {e : TypeId} (h : isU8 P e = true) : P.underlying e = some (.int .u8) := by
  unfold isU8 at h
  split at h
  · assumption
  · cases h

theorem convD_sound {x : Operand} {src dst : TypeId} (h : convD X.P st src dst (st.ev x) K) : ∃ d, K d ∧ Gives X st (fun ρ => convert src dst (ρ x)) d := by
  unfold convD at h
  split at h
  · rename_i u k hs hd
    split at h
    · rename_i k' n hx
      refine ⟨_, h.out, fun β a w hr => ?_⟩
      have he := hr.ev x
      rw [hx] at he
      refine ⟨_, ?_, .ro _ _ (.int _ _)⟩
      simp only [he.int_inv, convert, Sem.run_bind, run_underlying hs, run_underlying hd, Result.andThen_ok, Conv.intToInt]
      cases u <;> rfl
    · exact h.elim
  · rename_i hs hd
    split at h
    · rename_i l hx
      refine ⟨_, h, fun β a w hr => ?_⟩
      have he := hr.ev x
      rw [hx] at he
      refine ⟨_, ?_, .ro _ _ (.str _ he.str_len)⟩
      simp only [he.str_inv, convert, Sem.run_bind, run_underlying hs, run_underlying hd, Result.andThen_ok]
      rfl
    · exact h.elim
  · rename_i e hs hd
    split at h
    · rename_i hu
      have hu := isU8_spec hu
      have conv : ∀ (w : World) a l c, (convert src dst (.slice a l c)).run X.P w = (Conv.bytesToString (.slice a l c)).run X.P w := by
        intro w a l c
        cases a <;> simp only [convert, Sem.run_bind, run_underlying hs, run_underlying hd, Result.andThen_ok, run_underlying hu]
      split at h
      · rename_i s es hx
        cases hb : Nat.beq s 1 with
        | false => rw [hb] at h; exact h.elim
        | true =>
          rw [hb] at h
          have hs1 := Nat.eq_of_beq_eq_true hb
          obtain ⟨l, hl, hk⟩ := BytesS.out h
          refine ⟨_, hk, fun β a w hr => ?_⟩
          have he := hr.ev x
          rw [hx] at he
          have he := he.sl_inv
          have hlm : l.length ≤ maxLen := by have := (sl_len he).1; rw [hl] at this; simpa using this
          refine ⟨.string ⟨l.toArray⟩, ?_, .ro _ _ (.str _ hlm)⟩
          by_cases hn : es = []
          · subst hn
            have hl0 : l = [] := by simpa using hl.symm
            subst hl0
            rcases he.sl_cases with ⟨_, ax, cx, hv⟩ | ⟨b, off, cap, c, hv, _⟩
            · simp only [hv, conv]; exact bytes_nil _ _ _ _
            · simp only [hv, conv]; exact bytes_nil _ _ _ _
          · have hpos : 0 < es.length := by cases es with | nil => exact absurd rfl hn | cons _ _ => simp
            obtain ⟨b, off, ln, c, hv, hln, _, _⟩ := cellsAt_sl he hpos
            simp only [hv, conv]
            refine bytes_rows (F := FX X st β w) (β := β) X.P _ _ l hs1 hl hln (fun i hi => ?_)
            obtain ⟨b', off', ln', c', hv', _, hF', hro⟩ := cellsAt_sl he hi
            rw [hv] at hv'
            cases hv'
            obtain ⟨b2, off2, hv2, _, hc2⟩ := cellsAt_rp (β := β) (Rep.ro _ _ hro)
            cases hv2
            exact hc2
      · rename_i o hx
        split at h
        · rename_i e' s es ho
          cases hb : Nat.beq s 1 with
          | false => rw [hb] at h; exact h.elim
          | true =>
            rw [hb] at h
            have hs1 := Nat.eq_of_beq_eq_true hb
            obtain ⟨l, hl, hk⟩ := BytesS.out h
            refine ⟨_, hk, fun β a w hr => ?_⟩
            have he := hr.ev x
            rw [hx] at he
            have hrow := hr.row ho he.h_inv
            have hlm : l.length ≤ maxLen := by have := (row_len hrow).1; rw [hl] at this; simpa using this
            refine ⟨.string ⟨l.toArray⟩, ?_, .ro _ _ (.str _ hlm)⟩
            obtain ⟨_, ax, cx, hvx⟩ := row_len hrow
            by_cases hn : es = []
            · subst hn
              have hl0 : l = [] := by simpa using hl.symm
              subst hl0
              simp only [hvx, conv]
              exact bytes_nil _ _ _ _
            · have hpos : 0 < es.length := by cases es with | nil => exact absurd rfl hn | cons _ _ => simp
              obtain ⟨b, ln, c, hv, _⟩ := cellsAt_row (β := β) hrow hpos
              rw [hv] at hvx
              cases hvx
              simp only [hv, conv]
              refine bytes_rows (F := FX X st β w) (β := β) X.P _ _ l hs1 hl rfl (fun i hi => ?_)
              obtain ⟨b', ln', c', hv', hc'⟩ := cellsAt_row (β := β) hrow hi
              rw [hv] at hv'
              cases hv'
              rw [Nat.zero_add]
              exact hc'
        · exact h.elim
      · rename_i hx
        refine ⟨_, h, fun β a w hr => ?_⟩
        have he := hr.ev x
        rw [hx] at he
        refine ⟨_, ?_, .ro _ _ (.str [] (by simp))⟩
        simp only [he.v_inv, conv]
        exact bytes_nil _ _ _ _
      · exact h.elim
    · exact h.elim
  · exact h.elim

theorem run_sizeOf_pos {P : Program} {t : TypeId} (h : Nat.beq (P.cellsOf t) 0 = false) (w : World) : (sizeOf t).run P w = .ok (P.cellsOf t) w := by
  cases hi : P.info? t with
  | none => simp [Program.cellsOf, hi] at h
  | some i => simp [sizeOf, typeInfo, hi, Program.cellsOf]

theorem fieldAddrD_sound {s : TypeId} {x : Operand} {f : Nat} (h : fieldAddrD X.P s (st.ev x) f K) : ∃ d, K d ∧ Gives X st (fun ρ => Instr.fieldAt s (ρ x) f) d := by
  unfold fieldAddrD at h
  split at h
  · rename_i fields hs
    split at h
    · rename_i fd hf
      split at h
      · exact h.elim
      · rename_i hsz
        have hrun : ∀ (w : World) (b off : Nat), (Instr.fieldAt s (.pointer (some ⟨b, off, none⟩)) f).run X.P w = .ok (.pointer (some ⟨b, off + fd.offset, none⟩)) w := by
          intro w b off
          have hne : X.P.cellsOf fd.type ≠ 0 := by
            intro e
            rw [e] at hsz
            cases hsz
          simp only [Instr.fieldAt, Sem.run_bind, run_underlying hs, Result.andThen_ok, hf, Instr.sureAddr, Sem.run_pure, fieldPlace, run_sizeOf_pos hsz, if_neg hne, add_lit]
        split at h
        · rename_i cs hx
          obtain ⟨hl, hk⟩ := dropK_out h
          refine ⟨_, hk, fun β a w hr => ?_⟩
          have he := hr.ev x
          rw [hx] at he
          obtain ⟨b, off, c, hv, hF, hc, hr'⟩ := he.rp_inv.rp_cases
          · refine ⟨_, by simp only [hv]; exact hrun w b off, ?_⟩
            refine .ro _ _ (.rp _ b _ (fun j => c (fd.offset + j)) hF (fun j hj => ?_) (fun j hj => ?_))
            · rw [List.length_drop] at hj
              rw [Nat.add_assoc]
              exact hc (fd.offset + j) (by omega)
            · rw [List.length_drop] at hj
              have := hr' (fd.offset + j) (by omega)
              simpa [List.getD_eq_getElem?_getD] using this
        · rename_i o k hx
          refine ⟨_, h, fun β a w hr => ?_⟩
          have he := hr.ev x
          rw [hx] at he
          obtain ⟨b, y, hy, hb, hv⟩ := he.hp_inv
          exact ⟨_, by simp only [hv]; exact hrun w b k, .hp _ _ _ _ hy hb⟩
        · rename_i o sz i k hx
          refine ⟨_, h, fun β a w hr => ?_⟩
          have he := hr.ev x
          rw [hx] at he
          obtain ⟨b, y, hy, hb, hv⟩ := he.hr_inv
          refine ⟨_, by simp only [hv]; exact hrun w b _, ?_⟩
          rw [Nat.add_assoc]
          exact .hr _ _ _ _ _ _ hy hb
        · exact h.elim
    · exact h.elim
  · exact h.elim
end
end Go.Eng
