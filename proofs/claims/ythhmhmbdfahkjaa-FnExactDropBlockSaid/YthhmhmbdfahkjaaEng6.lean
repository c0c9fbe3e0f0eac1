/-
  The engine, sixth part. Reading memory and taking values apart: the rules of the pure operations, and that the model follows them.
  No conditions.
-/
import Derived.Test.YthhmhmbdfahkjaaEng5
namespace Go.Eng
open Go Go.RowKit

def nthK : List D → Nat → (D → Prop) → Prop
  | d :: _, 0, K => K d
  | _ :: r, n + 1, K => nthK r n K
  | [], _, _ => False
def takeK : List D → Nat → (List D → Prop) → Prop
  | _, 0, K => K []
  | d :: r, n + 1, K => takeK r n fun t => K (d :: t)
  | [], _ + 1, _ => False
def dropK : List D → Nat → (List D → Prop) → Prop
  | l, 0, K => K l
  | _ :: r, n + 1, K => dropK r n K
  | [], _ + 1, _ => False
def cutK (l : List D) (k n : Nat) (K : List D → Prop) : Prop := dropK l k fun r => takeK r n K

theorem nthK_out : ∀ {l : List D} {n : Nat} {K : D → Prop}, nthK l n K → n < l.length ∧ K (l.getD n .junk)
  | _ :: _, 0, _, h => ⟨by simp, h⟩
  | _ :: r, n + 1, K, h => by
    have := nthK_out (l := r) (n := n) h
    exact ⟨by simp; exact this.1, by simpa [List.getD_cons_succ] using this.2⟩
theorem takeK_out : ∀ {l : List D} {n : Nat} {K : List D → Prop}, takeK l n K → n ≤ l.length ∧ K (l.take n)
  | _, 0, _, h => ⟨Nat.zero_le _, by simpa [takeK] using h⟩
  | d :: r, n + 1, K, h => by
    have := takeK_out (l := r) (n := n) h
    exact ⟨by simp; exact this.1, by simpa using this.2⟩
theorem dropK_out : ∀ {l : List D} {n : Nat} {K : List D → Prop}, dropK l n K → n ≤ l.length ∧ K (l.drop n)
  | _, 0, _, h => ⟨Nat.zero_le _, by simpa [dropK] using h⟩
  | d :: r, n + 1, K, h => by
    have := dropK_out (l := r) (n := n) h
    exact ⟨by simp; exact this.1, by simpa using this.2⟩
theorem cutK_out {l : List D} {k n : Nat} {K : List D → Prop} (h : cutK l k n K) : k + n ≤ l.length ∧ K ((l.drop k).take n) := by
  have h1 := dropK_out h
  have h2 := takeK_out h1.2
  rw [List.length_drop] at h2
  exact ⟨by omega, h2.2⟩

def isAggD : TypeDesc → Bool
  | .struct _ => true
  | .array _ _ => true
  | _ => false

/-- A variable of type t whose cells are those of cs from k on. -/
def loadD (P : Program) (t : TypeId) (cs : List D) (k : Nat) (K : D → Prop) : Prop :=
  match P.underlying t with
  | some u => match isAggD u with
    | true => cutK cs k (P.cellsOf t) fun l => K (.agg l)
    | false => nthK cs k K
  | none => False

theorem run_isAgg {P : Program} {t : TypeId} {u : TypeDesc} (h : P.underlying t = some u) (w : World) : (isAgg t).run P w = .ok (isAggD u) w := by
  simp only [isAgg, Sem.run_bind, run_underlying h, Result.andThen_ok]
  cases u <;> rfl
theorem run_sizeOf {P : Program} {t : TypeId} {u : TypeDesc} (h : P.underlying t = some u) (w : World) : (sizeOf t).run P w = .ok (P.cellsOf t) w := by
  unfold Program.underlying at h
  cases hi : P.info? t with
  | none => rw [hi] at h; cases h
  | some i => simp [sizeOf, typeInfo, hi, Program.cellsOf]

/-- What the cells from an address on hold. -/
def CellsAt (F : Nat → Prop) (β : Nat → Option Value) (w : World) (b off : Nat) (cs : List D) : Prop :=
  ∃ c : Nat → Value, ∀ j, j < cs.length → (w.cell? ⟨b, off + j, none⟩ = some (c j) ∧ (c j).oneCell' = true) ∧ Rep F β w (c j) (cs.getD j .junk)

theorem CellsAt.drop {F : Nat → Prop} {β : Nat → Option Value} {w : World} {b off : Nat} {cs : List D} (h : CellsAt F β w b off cs) (n : Nat) : CellsAt F β w b (off + n) (cs.drop n) := by
  obtain ⟨c, h⟩ := h
  refine ⟨fun j => c (n + j), fun j hj => ?_⟩
  have hj' : n + j < cs.length := by rw [List.length_drop] at hj; omega
  have := h (n + j) hj'
  rw [Nat.add_assoc]
  refine ⟨this.1, ?_⟩
  simpa [List.getD_eq_getElem?_getD] using this.2

theorem add_lit (b off n : Nat) : (⟨b, off, none⟩ : Addr).add n = ⟨b, off + n, none⟩ := by
  unfold Addr.add; split <;> simp_all

theorem loadD_sound {P : Program} {t : TypeId} {cs : List D} {k : Nat} {K : D → Prop} (h : loadD P t cs k K) :
    ∃ d, K d ∧ ∀ (F : Nat → Prop) (β : Nat → Option Value) (w : World) (b off : Nat), CellsAt F β w b off cs → ∃ v, (loadVar t ⟨b, off + k, none⟩).run P w = .ok v w ∧ Rep F β w v d := by
  unfold loadD at h
  split at h
  · rename_i u hu
    split at h
    · rename_i ha
      obtain ⟨hl, hk⟩ := cutK_out h
      refine ⟨_, hk, fun F β w b off hc => ?_⟩
      obtain ⟨c, hc⟩ := hc
      let vs : List Value := (List.range (P.cellsOf t)).map fun j => c (k + j)
      refine ⟨.agg vs.toArray, ?_, .agg vs _ (by simp [vs]; omega) (fun x hx => ?_) (fun i hi => ?_)⟩
      · simp only [loadVar, Sem.run_bind, run_isAgg hu, ha, Result.andThen_ok, if_true, run_sizeOf hu]
        have := run_loadCells (P := P) (w := w) ⟨b, off + k, none⟩ (P.cellsOf t) (fun j => c (k + j)) (fun j hj => by
          rw [add_lit, Nat.add_assoc]; exact (hc (k + j) (by omega)).1.1)
        rw [this]
        simp [vs]
      · simp only [vs, List.mem_map, List.mem_range] at hx
        obtain ⟨j, hj, rfl⟩ := hx
        exact (hc (k + j) (by omega)).1.2
      · have hi' : i < P.cellsOf t := by simp at hi; omega
        have := (hc (k + i) (by omega)).2
        simp only [List.getD_eq_getElem?_getD, vs, List.getElem?_map, List.getElem?_range hi', Option.map_some, Option.getD_some, List.getElem?_take_of_lt hi', List.getElem?_drop]
        simpa [List.getD_eq_getElem?_getD] using this
    · rename_i ha
      obtain ⟨hl, hk⟩ := nthK_out h
      refine ⟨_, hk, fun F β w b off hc => ?_⟩
      obtain ⟨c, hc⟩ := hc
      refine ⟨c k, ?_, (hc k hl).2⟩
      simp [loadVar, run_isAgg hu, ha, (hc k hl).1.1]
  · exact h.elim

/-- The cells behind a pointer. -/
theorem cellsAt_rp {F : Nat → Prop} {β : Nat → Option Value} {w : World} {v : Value} {cs : List D} (h : Rep F β w v (.rp cs)) : ∃ b off, v = .pointer (some ⟨b, off, none⟩) ∧ F b ∧ CellsAt F β w b off cs := by
  have := h.rp_inv
  cases this with
  | rp cs b off c hF hc hr => exact ⟨b, off, rfl, hF, c, fun j hj => ⟨hc j hj, .ro _ _ (hr j hj)⟩⟩

theorem cellsAt_box {F : Nat → Prop} {β : Nat → Option Value} {w : World} {x : Value} {cs : List D} (h : OwnBox F β w cs x) : ∃ b, x = .pointer (some ⟨b, 0, none⟩) ∧ CellsAt F β w b 0 cs := by
  obtain ⟨b, c, T, rfl, hg, hs, h1, hr⟩ := h
  refine ⟨b, rfl, fun j => c.toList.getD j undef, fun j hj => ⟨⟨?_, ?_⟩, hr j hj⟩⟩
  · have hj' : j < c.size := by omega
    simp [World.cell?, hg, hj']
  · have hj' : j < c.size := by omega
    refine h1 _ ?_
    simp [hj']

theorem cellsAt_row {F : Nat → Prop} {β : Nat → Option Value} {w : World} {e : TypeId} {s : Nat} {es : List (List D)} {x : Value} (h : OwnRow F w e s es x) {i : Nat} (hi : i < es.length) :
    ∃ b l c, x = .slice (some ⟨b, 0, none⟩) l c ∧ CellsAt F β w b (i * s) (es.getD i []) := by
  obtain ⟨hm, hs, xs, how, h1, hr⟩ := h
  rcases how.2 with ⟨rfl, hn⟩ | ⟨g, cap, cur, rfl, _, hg, hnc, hcm, hcs, htk⟩
  · omega
  · refine ⟨g, _, _, rfl, fun j => xs.getD (i * s + j) undef, fun j hj => ?_⟩
    rw [hs i hi] at hj
    have hxl : xs.length = es.length * s := how.1
    have hlt : i * s + j < xs.length := by
      rw [hxl]
      have : (i + 1) * s ≤ es.length * s := Nat.mul_le_mul_right s hi
      rw [Nat.add_mul] at this
      omega
    have hx : xs.getD (i * s + j) undef = xs[i * s + j] := by simp [List.getD_eq_getElem?_getD, hlt]
    refine ⟨⟨?_, ?_⟩, .ro _ _ (hr i j hi hj)⟩
    · have := how.cells (g := g) rfl (i * s + j) xs[i * s + j] (by simp [hlt])
      rw [add_lit, Nat.zero_add] at this
      rw [this]
      exact congrArg some hx.symm
    · show (xs.getD (i * s + j) undef).oneCell' = true
      rw [hx]; exact h1 _ (List.getElem_mem _)

theorem RO.sl_cases {F : Nat → Prop} {w : World} {v : Value} {s : Nat} {es : List (List D)} (h : RO F w v (.sl s es)) :
    (es = [] ∧ ∃ a c, v = .slice a 0 c) ∨ ∃ b off cap, ∃ c : Nat → Nat → Value, v = .slice (some ⟨b, off, none⟩) es.length cap ∧ F b ∧ es.length ≤ cap ∧ cap ≤ maxLen ∧ (∀ i, i < es.length → (es.getD i []).length = s) ∧
      (∀ i j, i < es.length → j < s → w.cell? ⟨b, off + i * s + j, none⟩ = some (c i j) ∧ (c i j).oneCell' = true) ∧ (∀ i j, i < es.length → j < s → RO F w (c i j) ((es.getD i []).getD j .junk)) := by
  cases h with
  | slnil s a cap => exact .inl ⟨rfl, a, cap, rfl⟩
  | sl s es b off len cap c hlen hF hcap hm hs hc hr => subst hlen; exact .inr ⟨b, off, cap, c, rfl, hF, hcap, hm, hs, hc, hr⟩

theorem RO.rp_cases {F : Nat → Prop} {w : World} {v : Value} {cs : List D} (h : RO F w v (.rp cs)) :
    ∃ b off, ∃ c : Nat → Value, v = .pointer (some ⟨b, off, none⟩) ∧ F b ∧ (∀ j, j < cs.length → w.cell? ⟨b, off + j, none⟩ = some (c j) ∧ (c j).oneCell' = true) ∧ (∀ j, j < cs.length → RO F w (c j) (cs.getD j .junk)) := by
  cases h with
  | rp cs b off c hF hc hr => exact ⟨b, off, c, rfl, hF, hc, hr⟩

/-- The cells of element i of a slice. -/
theorem cellsAt_sl {F : Nat → Prop} {w : World} {v : Value} {s : Nat} {es : List (List D)} (h : RO F w v (.sl s es)) {i : Nat} (hi : i < es.length) :
    ∃ b off l c, v = .slice (some ⟨b, off, none⟩) l c ∧ l = es.length ∧ F b ∧ RO F w (.pointer (some ⟨b, off + i * s, none⟩)) (.rp (es.getD i [])) := by
  cases h with
  | slnil s a cap => simp at hi
  | sl s es b off len cap c hlen hF hcap hm hs hc hr =>
    refine ⟨b, off, _, cap, rfl, hlen, hF, ?_⟩
    refine .rp _ b _ (fun j => c i j) hF (fun j hj => ?_) (fun j hj => ?_)
    · rw [hs i hi] at hj; exact hc i j hi hj
    · rw [hs i hi] at hj; exact hr i j hi hj

theorem sl_len {F : Nat → Prop} {w : World} {v : Value} {s : Nat} {es : List (List D)} (h : RO F w v (.sl s es)) : es.length ≤ maxLen ∧ ∃ a c, v = .slice a es.length c ∧ es.length ≤ c ∨ es = [] ∧ v = .slice a 0 c := by
  cases h with
  | slnil s a cap => exact ⟨by simp, a, cap, .inr ⟨rfl, rfl⟩⟩
  | sl s es b off len cap c hlen hF hcap hm hs hc hr => subst hlen; exact ⟨Nat.le_trans hcap hm, some ⟨b, off, none⟩, cap, .inl ⟨rfl, hcap⟩⟩

theorem row_len {F : Nat → Prop} {w : World} {e : TypeId} {s : Nat} {es : List (List D)} {x : Value} (h : OwnRow F w e s es x) : es.length ≤ maxLen ∧ ∃ a c, x = .slice a es.length c := by
  obtain ⟨hm, hs, xs, how, h1, hr⟩ := h
  refine ⟨hm, ?_⟩
  rcases how.2 with ⟨rfl, hn⟩ | ⟨g, cap, cur, rfl, _⟩
  · exact ⟨none, 0, by rw [hn]⟩
  · exact ⟨_, _, rfl⟩

theorem Rel.row {X : Ctx} {st : St} {β : Nat → Option Value} {a : Act} {w : World} (h : Rel X st β a w) {o : Nat} {e : TypeId} {s : Nat} {es : List (List D)} (ho : st.obj o = .row e s es) {v : Value} (hv : β o = some v) :
    OwnRow (FX X st β w) w e s es v := by
  obtain ⟨h1, h2⟩ := h.dom o v hv
  obtain ⟨x, hx, hw⟩ := h.own o h1 h2
  rw [hv] at hx
  cases hx
  rw [ho] at hw
  exact hw
theorem Rel.box {X : Ctx} {st : St} {β : Nat → Option Value} {a : Act} {w : World} (h : Rel X st β a w) {o : Nat} {cs : List D} (ho : st.obj o = .box cs) {v : Value} (hv : β o = some v) :
    OwnBox (FX X st β w) β w cs v := by
  obtain ⟨h1, h2⟩ := h.dom o v hv
  obtain ⟨x, hx, hw⟩ := h.own o h1 h2
  rw [hv] at hx
  cases hx
  rw [ho] at hw
  exact hw

theorem Rel.ownBlk {X : Ctx} {st : St} {β : Nat → Option Value} {a : Act} {w : World} (h : Rel X st β a w) {o : Nat} {e : TypeId} {s : Nat} {cs : List (List D)} {c : Nat} (ho : st.obj o = .blk e s cs c) {v : Value} (hv : β o = some v) :
    OwnBlk (FX X st β w) w e s cs c v := by
  obtain ⟨h1, h2⟩ := h.dom o v hv
  obtain ⟨y, hy, hw⟩ := h.own o h1 h2
  rw [hv] at hy
  cases hy
  rw [ho] at hw
  exact hw
/-! ### The rules -/
def ptrLoad (P : Program) (st : St) (t : TypeId) (a : D) (K : D → Prop) : Prop :=
  match a with
  | .rp cs => loadD P t cs 0 K
  | .hp o k => match st.obj o with
    | .box cs => loadD P t cs k K
    | _ => False
  | .hr o s i k => match st.obj o with
    | .row _ s' es => bif Nat.beq s s' then ElemS es i (fun e => loadD P t e k K) else False
    | _ => False
  | _ => False

theorem ptrLoad_sound {X : Ctx} {st : St} {t : TypeId} {x : Operand} {K : D → Prop} (h : ptrLoad X.P st t (st.ev x) K) :
    ∃ d, K d ∧ ∀ β a w, Rel X st β a w → ∃ v, (Instr.loadAt t (a.eval x)).run X.P w = .ok v w ∧ Rep (FX X st β w) β w v d := by
  unfold ptrLoad at h
  split at h
  · rename_i cs hx
    obtain ⟨d, hk, hd⟩ := loadD_sound h
    refine ⟨d, hk, fun β a w hr => ?_⟩
    have he := hr.ev x
    rw [hx] at he
    obtain ⟨b, off, hv, _, hc⟩ := cellsAt_rp he
    obtain ⟨v, hv1, hv2⟩ := hd _ _ _ _ _ hc
    refine ⟨v, ?_, hv2⟩
    simp only [Instr.loadAt, Sem.run_bind, hv, Instr.sureAddr, Sem.run_pure, Result.andThen_ok]
    exact hv1
  · rename_i o k hx
    split at h
    · rename_i cs ho
      obtain ⟨d, hk, hd⟩ := loadD_sound h
      refine ⟨d, hk, fun β a w hr => ?_⟩
      have he := hr.ev x
      rw [hx] at he
      obtain ⟨b, y, hy, hb, hv⟩ := he.hp_inv
      obtain ⟨b', rfl, hc⟩ := cellsAt_box (hr.box ho hy)
      simp [blk] at hb
      subst hb
      obtain ⟨v, hv1, hv2⟩ := hd _ _ _ _ _ hc
      refine ⟨v, ?_, hv2⟩
      rw [Nat.zero_add] at hv1
      simp only [Instr.loadAt, Sem.run_bind, hv, Instr.sureAddr, Sem.run_pure, Result.andThen_ok]
      exact hv1
    · exact h.elim
  · rename_i o s i k hx
    split at h
    · rename_i e s' es ho
      cases hb : Nat.beq s s' with
      | false => rw [hb] at h; exact h.elim
      | true =>
        rw [hb] at h
        have hss := Nat.eq_of_beq_eq_true hb
        subst hss
        obtain ⟨i', hi', hlt, hld⟩ := ElemS.out h
        have hii : i = i' := by omega
        subst hii
        obtain ⟨d, hk, hd⟩ := loadD_sound hld
        refine ⟨d, hk, fun β a w hr => ?_⟩
        have he := hr.ev x
        rw [hx] at he
        obtain ⟨b, y, hy, hb, hv⟩ := he.hr_inv
        obtain ⟨b', l, c, rfl, hc⟩ := cellsAt_row (β := β) (hr.row ho hy) hlt
        simp [blk] at hb
        subst hb
        obtain ⟨v, hv1, hv2⟩ := hd _ _ _ _ _ hc
        refine ⟨v, ?_, hv2⟩
        simp only [Instr.loadAt, Sem.run_bind, hv, Instr.sureAddr, Sem.run_pure, Result.andThen_ok]
        exact hv1
    · exact h.elim
  · exact h.elim
end Go.Eng
