/-
  The engine, seventeenth part. The model follows the rule of append.
  No conditions.
-/
import Derived.Test.YthhmhmbdfahkjaaEng16
namespace Go.Eng
open Go Go.RowKit

section
variable {X : Ctx} {st : St} {β : Nat → Option Value} {a : Act} {w : World} {K : St → Prop} {Q : Exit → Act → World → Prop}

/-- The cells of what is appended, as a list. -/
def NewsAt (F : Nat → Prop) (w : World) (s : Nat) (v : Value) (xs : List (List D)) : Prop :=
  (∃ c, v = .slice none 0 c ∧ xs = []) ∨
  ∃ ad c, ∃ news : List Value, v = .slice (some ad) xs.length c ∧ news.length = xs.length * s ∧ (∀ j u, news[j]? = some u → w.cell? (ad.add j) = some u) ∧ (∀ u ∈ news, u.oneCell' = true) ∧
    (∀ i, i < xs.length → (xs.getD i []).length = s) ∧ ∀ i j, i < xs.length → j < s → RO F w (news.getD (i * s + j) undef) ((xs.getD i []).getD j .junk)

theorem idx_lt {i j n s : Nat} (hi : i < n) (hj : j < s) : i * s + j < n * s := by
  have : (i + 1) * s ≤ n * s := Nat.mul_le_mul_right s hi
  rw [Nat.add_mul, Nat.one_mul] at this
  omega

theorem news_sl {F : Nat → Prop} {s : Nat} (hs0 : 0 < s) {v : Value} {xs : List (List D)} (h : RO F w v (.sl s xs)) : NewsAt F w s v xs := by
  rcases h.sl_cases with ⟨rfl, ad, c, rfl⟩ | ⟨b, off, cap, c, rfl, hF, hcap, hm, hs, hc, hr⟩
  · cases ad with
    | none => exact .inl ⟨c, rfl, rfl⟩
    | some ad => exact .inr ⟨ad, c, [], rfl, by simp, fun j u hu => by simp at hu, fun u hu => by simp at hu, fun i hi => by simp at hi, fun i j hi => by simp at hi⟩
  · refine .inr ⟨⟨b, off, none⟩, cap, (List.range (xs.length * s)).map fun q => c (q / s) (q % s), rfl, by simp, fun j u hu => ?_, fun u hu => ?_, hs, fun i j hi hj => ?_⟩
    · rw [List.getElem?_map] at hu
      have hj : j < xs.length * s := by
        rcases Nat.lt_or_ge j (xs.length * s) with h | h
        · exact h
        · rw [List.getElem?_eq_none (by simpa using h)] at hu; cases hu
      rw [List.getElem?_range hj] at hu
      cases hu
      have h1 := (hc (j / s) (j % s) (Nat.div_lt_of_lt_mul (by rwa [Nat.mul_comm])) (Nat.mod_lt _ hs0)).1
      rw [add_lit]
      rw [Nat.add_assoc] at h1
      have : j / s * s + j % s = j := by rw [Nat.mul_comm]; exact Nat.div_add_mod j s
      rw [this] at h1
      exact h1
    · rw [List.mem_map] at hu
      obtain ⟨q, hq, rfl⟩ := hu
      have hq := List.mem_range.1 hq
      exact (hc (q / s) (q % s) (Nat.div_lt_of_lt_mul (by rwa [Nat.mul_comm])) (Nat.mod_lt _ hs0)).2
    · have hlt := idx_lt hi hj
      have h1 : (i * s + j) / s = i := by rw [Nat.mul_comm, Nat.mul_add_div hs0, Nat.div_eq_of_lt hj, Nat.add_zero]
      have h2 : (i * s + j) % s = j := by rw [Nat.mul_comm, Nat.mul_add_mod, Nat.mod_eq_of_lt hj]
      rw [List.getD_eq_getElem?_getD, List.getElem?_map, List.getElem?_range hlt, Option.map_some, Option.getD_some, h1, h2]
      exact hr i j hi hj

theorem news_row {F : Nat → Prop} {e : TypeId} {s : Nat} {v : Value} {xs : List (List D)} (h : OwnRow F w e s xs v) : NewsAt F w s v xs := by
  obtain ⟨hm, hs, vs, how, h1, hro⟩ := h
  rcases how.2 with ⟨rfl, hn⟩ | ⟨g, cap, cur, rfl, _⟩
  · exact .inl ⟨0, rfl, List.eq_nil_of_length_eq_zero hn⟩
  · exact .inr ⟨⟨g, 0, none⟩, cap, vs, rfl, how.1, fun j u hu => how.cells (g := g) rfl j u hu, h1, hs, hro⟩

theorem news_ro {F : Nat → Prop} {s : Nat} (hs0 : 0 < s) {v : Value} {xs : List (List D)} (h : RO F w v (.sl s xs)) : NewsAt F w s v xs := news_sl hs0 h

theorem news_sub {F : Nat → Prop} {e : TypeId} {s a b : Nat} (hs0 : 0 < s) {x v : Value} {xs : List (List D)} (h : OwnRow F w e s xs x) (hsub : Sub s a b x v) (hbl : b ≤ xs.length) : NewsAt F w s v ((xs.drop a).take (b - a)) := by
  obtain ⟨p, len, cap, q, hxv, hab, hbc, hlc, rfl, hq⟩ := hsub
  rcases Nat.lt_or_ge a b with hlt | hge
  · obtain ⟨hm, hs, vs, how, h1, hro⟩ := h
    rcases how.2 with ⟨hv, hn⟩ | ⟨g, cap', cur, hv, _⟩
    · omega
    · rw [hxv] at hv
      cases hv
      have hlen : ((xs.drop a).take (b - a)).length = b - a := by simp; omega
      have hvl : vs.length = xs.length * s := how.1
      have hm2 : b * s ≤ xs.length * s := Nat.mul_le_mul_right _ hbl
      have hm3 : b * s = a * s + (b - a) * s := by rw [← Nat.add_mul]; congr 1; omega
      refine .inr ⟨⟨g, a * s, none⟩, cap - a, (vs.drop (a * s)).take ((b - a) * s), ?_, ?_, fun j u hu => ?_, fun u hu => h1 u (List.mem_of_mem_drop (List.mem_of_mem_take hu)), fun i hi => ?_, fun i j hi hj => ?_⟩
      · rw [hlen, hq (by omega), Option.map_some, add_lit, Nat.zero_add]
      · rw [hlen, List.length_take, List.length_drop]
        omega
      · have hjl : j < (b - a) * s := by
          have := (List.getElem?_eq_some_iff.1 hu).1
          simp only [List.length_take] at this
          omega
        rw [List.getElem?_take_of_lt hjl, List.getElem?_drop] at hu
        have := how.cells (g := g) (by rw [hxv]; rfl) (a * s + j) u hu
        rw [add_lit, Nat.zero_add] at this
        rw [add_lit]
        exact this
      · rw [hlen] at hi
        have e1 : ((xs.drop a).take (b - a)).getD i [] = xs.getD (a + i) [] := by simp [List.getD_eq_getElem?_getD, List.getElem?_take_of_lt hi]
        rw [e1]
        exact hs _ (by omega)
      · rw [hlen] at hi
        have e1 : ((xs.drop a).take (b - a)).getD i [] = xs.getD (a + i) [] := by simp [List.getD_eq_getElem?_getD, List.getElem?_take_of_lt hi]
        have hle : (i + 1) * s ≤ (b - a) * s := Nat.mul_le_mul_right s hi
        rw [Nat.add_mul] at hle
        have hij : i * s + j < (b - a) * s := by omega
        have e2 : ((vs.drop (a * s)).take ((b - a) * s)).getD (i * s + j) undef = vs.getD ((a + i) * s + j) undef := by
          simp only [List.getD_eq_getElem?_getD, List.getElem?_take_of_lt hij, List.getElem?_drop]
          rw [Nat.add_mul, Nat.add_assoc]
        rw [e1, e2]
        exact hro _ _ (by omega) hj
  · have hb0 : b - a = 0 := by omega
    rw [hb0]
    cases q with
    | none => exact .inl ⟨_, rfl, by simp⟩
    | some ad => exact .inr ⟨ad, cap - a, [], by simp, by simp, fun j u hu => by simp at hu, fun u hu => by simp at hu, fun i hi => by simp at hi, fun i j hi => by simp at hi⟩

theorem news_blk {F : Nat → Prop} {e : TypeId} {s a b c : Nat} (hs0 : 0 < s) {x v : Value} {xs : List (List D)} (h : OwnBlk F w e s xs c x) (hsub : Sub s a b x v) (hbl : b ≤ xs.length) : NewsAt F w s v ((xs.drop a).take (b - a)) := by
  obtain ⟨p, len, cap, q, hxv, hab, hbc, hlc, rfl, hq⟩ := hsub
  have hlen : ((xs.drop a).take (b - a)).length = b - a := by simp; omega
  rcases Nat.lt_or_ge a b with hlt | hge
  · obtain ⟨g, cur, hv, hg, hxc, hcm, hcs, hs, hro⟩ := h
    rw [hxv] at hv
    cases hv
    have hm2 : b * s ≤ c * s := Nat.mul_le_mul_right _ (by omega)
    have hm3 : b * s = a * s + (b - a) * s := by rw [← Nat.add_mul]; congr 1; omega
    have e2 : ∀ i j, i < b - a → j < s → ((cur.toList.drop (a * s)).take ((b - a) * s)).getD (i * s + j) undef = cur.toList.getD ((a + i) * s + j) undef := by
      intro i j hi hj
      have hij := idx_lt hi hj
      simp only [List.getD_eq_getElem?_getD, List.getElem?_take_of_lt hij, List.getElem?_drop]
      rw [Nat.add_mul, Nat.add_assoc]
    have hnl : ((cur.toList.drop (a * s)).take ((b - a) * s)).length = (b - a) * s := by
      rw [List.length_take, List.length_drop, Array.length_toList]
      omega
    refine .inr ⟨⟨g, a * s, none⟩, c - a, (cur.toList.drop (a * s)).take ((b - a) * s), ?_, by rw [hlen]; exact hnl, fun j u hu => ?_, fun u hu => ?_, fun i hi => ?_, fun i j hi hj => ?_⟩
    · rw [hlen, hq (by omega), Option.map_some, add_lit, Nat.zero_add]
    · have hjl : j < (b - a) * s := by
        have := (List.getElem?_eq_some_iff.1 hu).1
        omega
      rw [List.getElem?_take_of_lt hjl, List.getElem?_drop] at hu
      rw [add_lit]
      simp only [World.cell?, hg]
      simpa using hu
    · obtain ⟨k, hk, rfl⟩ := List.mem_iff_getElem.1 hu
      have hk' : k < (b - a) * s := by omega
      have h1 : k / s < b - a := Nat.div_lt_of_lt_mul (by rwa [Nat.mul_comm])
      have h2 : k % s < s := Nat.mod_lt _ hs0
      have h3 : k / s * s + k % s = k := by rw [Nat.mul_comm]; exact Nat.div_add_mod k s
      have := e2 _ _ h1 h2
      rw [h3] at this
      have e4 : ∀ (l : List Value) (h : k < l.length), l[k] = l.getD k undef := fun l h => by rw [List.getD_eq_getElem?_getD, List.getElem?_eq_getElem h]; rfl
      rw [e4 _ hk, this]
      exact (hro _ _ (by omega) h2).1
    · rw [hlen] at hi
      have e1 : ((xs.drop a).take (b - a)).getD i [] = xs.getD (a + i) [] := by simp [List.getD_eq_getElem?_getD, List.getElem?_take_of_lt hi]
      rw [e1]
      exact hs _ (by omega)
    · rw [hlen] at hi
      have e1 : ((xs.drop a).take (b - a)).getD i [] = xs.getD (a + i) [] := by simp [List.getD_eq_getElem?_getD, List.getElem?_take_of_lt hi]
      rw [e1, e2 _ _ hi hj]
      exact (hro _ _ (by omega) hj).2
  · have hb0 : b - a = 0 := by omega
    rw [hb0]
    cases q with
    | none => exact .inl ⟨_, rfl, by simp⟩
    | some ad => exact .inr ⟨ad, cap - a, [], by simp, by simp, fun j u hu => by simp at hu, fun u hu => by simp at hu, fun i hi => by simp at hi, fun i j hi => by simp at hi⟩

theorem elemsD_out {s : Nat} {x : Operand} {K : List (List D) → Prop} (h : elemsD st s (st.ev x) K) (hs0 : 0 < s) :
    ∃ xs, K xs ∧ ∀ β a w, Rel X st β a w → NewsAt (FX X st β w) w s (a.eval x) xs := by
  unfold elemsD at h
  split at h
  · rename_i s' es hx
    cases hb : Nat.beq s' s with
    | false => rw [hb] at h; exact h.elim
    | true =>
      rw [hb] at h
      have := Nat.eq_of_beq_eq_true hb
      subst this
      refine ⟨_, h, fun β a w hr => ?_⟩
      have he := hr.ev x
      rw [hx] at he
      exact news_sl hs0 he.sl_inv
  · rename_i o hx
    split at h
    · rename_i e' s' es ho
      cases hb : Nat.beq s' s with
      | false => rw [hb] at h; exact h.elim
      | true =>
        rw [hb] at h
        have := Nat.eq_of_beq_eq_true hb
        subst this
        refine ⟨_, h, fun β a w hr => ?_⟩
        have he := hr.ev x
        rw [hx] at he
        exact news_row (hr.row ho he.h_inv)
    · exact h.elim
  · rename_i o s2 lo hi hx
    split at h
    · rename_i e' s' es ho
      cases hb : (Nat.beq s' s && Nat.beq s2 s) with
      | false => rw [hb] at h; exact h.elim
      | true =>
        rw [hb] at h
        obtain ⟨hb3, h⟩ := NeedS.out h
        obtain ⟨hb1, hb2⟩ := and_true' hb
        have := Nat.eq_of_beq_eq_true hb1
        subst this
        have := Nat.eq_of_beq_eq_true hb2
        subst this
        refine ⟨_, h, fun β a w hr => ?_⟩
        have he := hr.ev x
        rw [hx] at he
        obtain ⟨y, hy, hsub⟩ := he.hs_inv
        exact news_sub hs0 (hr.row ho hy) hsub hb3
    · rename_i e' s' es c ho
      cases hb : (Nat.beq s' s && Nat.beq s2 s) with
      | false => rw [hb] at h; exact h.elim
      | true =>
        rw [hb] at h
        obtain ⟨hb3, h⟩ := NeedS.out h
        obtain ⟨hb1, hb2⟩ := and_true' hb
        have := Nat.eq_of_beq_eq_true hb1
        subst this
        have := Nat.eq_of_beq_eq_true hb2
        subst this
        refine ⟨_, h, fun β a w hr => ?_⟩
        have he := hr.ev x
        rw [hx] at he
        obtain ⟨y, hy, hsub⟩ := he.hs_inv
        exact news_blk hs0 (hr.ownBlk ho hy) hsub hb3
    · exact h.elim
  · rename_i hx
    refine ⟨_, h, fun β a w hr => ?_⟩
    have he := hr.ev x
    rw [hx] at he
    exact .inl ⟨0, he.v_inv, rfl⟩
  · exact h.elim

theorem run_append_nothing {P : Program} (w : World) (base : Nat) (t ty e : TypeId) (i : TypeInfo) (size : Nat) (ht : P.underlying t = some (.slice e)) (hi : P.info? e = some i)
    (v : Value) (n : Nat) (xs : List Value) (hown : w.ownsRow base e size v n xs) (c : Nat) :
    (Builtin.append_ #[t, t] ty #[v, .slice none 0 c]).run P w = .ok v w := by
  rcases hown.2 with ⟨rfl, rfl⟩ | ⟨g, cap, cur, rfl, _, _, hnc, _⟩
  · simp [Builtin.append_, run_underlying ht, sizeOf, typeInfo, hi, Builtin.lenOf, Builtin.firstCells]
  · simp [Builtin.append_, run_underlying ht, sizeOf, typeInfo, hi, Builtin.lenOf, Builtin.firstCells, hnc, storeCells]

theorem append_where {P : Program} {w : World} {t ty e : TypeId} {s n m c : Nat} {vs news : List Value} {v v' : Value} {w' : World} {ad : Addr} {i : TypeInfo} {z : Value} (ht : P.underlying t = some (.slice e)) (hi : P.info? e = some i) (hz : i.zero = some z)
    (hsz : i.size = s) (how : w.ownsRow 0 e s v n vs) (hnl : news.length = m * s) (hcell : ∀ j u, news[j]? = some u → w.cell? (ad.add j) = some u) (hone : ∀ u ∈ news, u.oneCell' = true)
    (hlen : n + m ≤ 140737488355328) (hb : (n + m) * i.bytes ≤ 140737488355328) (hrun : (Builtin.append_ #[t, t] ty #[v, .slice (some ad) m c]).run P w = .ok v' w') : ∀ b, blk v' = some b → b < w.heap.size → blk v = some b := by
  subst hsz
  intro b hbb hlt
  rcases how.2 with ⟨rfl, rfl⟩ | ⟨g, cap, cur, rfl, _, hg, hnc, hcm, hcs, htk⟩
  · by_cases hm : m = 0
    · subst hm
      have hn : news = [] := List.eq_nil_of_length_eq_zero (by simpa using hnl)
      have h2 : (Builtin.append_ #[t, t] ty #[.slice none 0 0, .slice (some ad) 0 c]).run P w = .ok (.slice none 0 0) w := by
        simp [Builtin.append_, run_underlying ht, sizeOf, typeInfo, hi, Builtin.lenOf, Builtin.firstCells, loadCells, loadCellsFrom]
      rw [h2] at hrun
      cases hrun
      exact hbb
    · have hr := run_append_nil (P := P) w t ty e i z ht hi hz ad m c news hnl hcell (by omega) (by omega) (by have h := hb; simp only [Nat.zero_add] at h; omega)
      rw [hr] at hrun
      cases hrun
      simp [blk] at hbb
      omega
  · by_cases hroom : n + m ≤ cap
    · have hfit : n * i.size + news.length ≤ cur.size := by rw [hnl, hcs, ← Nat.add_mul]; exact Nat.mul_le_mul_right _ hroom
      have hr := run_append_room (P := P) w t ty e i ht hi g n cap cur hg ad m c news hnl hcell hone hroom hfit
      rw [hr] at hrun
      cases hrun
      exact hbb
    · have holds : ∀ j u, vs[j]? = some u → w.cell? ((⟨g, 0, none⟩ : Addr).add j) = some u := how.cells (g := g) rfl
      have hr := run_append_grow (P := P) w t ty e i z ht hi hz ⟨g, 0, none⟩ n cap vs how.1 holds ad m c news hnl hcell (by omega) (by omega) (growslice_fits (by omega) hb)
      rw [hr] at hrun
      cases hrun
      simp [blk] at hbb
      omega

/-- What append makes of a row of the call's own (or of none). -/
theorem append_row {F : Nat → Prop} {P : Program} {w : World} {t ty e : TypeId} {s : Nat} {es xs : List (List D)} {v vx : Value} {i : TypeInfo} {z : Value} (ht : P.underlying t = some (.slice e)) (hi : P.info? e = some i) (hz : i.zero = some z)
    (hsz : i.size = s) (hzs : z.cells.size = s) (hs0 : 0 < s) (hrow : OwnRow F w e s es v) (hn : NewsAt F w s vx xs) (hb : (es.length + xs.length) * i.bytes ≤ 140737488355328) (hby : 0 < i.bytes) :
    ∃ v' w', (Builtin.append_ #[t, t] ty #[v, vx]).run P w = .ok v' w' ∧ w.grownBy w' (blk v) ∧ (∀ b, blk v' = some b → blk v = some b ∨ w.heap.size ≤ b) ∧
      ∀ F', (∀ b, F b → F' b ∧ w'.heap[b]? = w.heap[b]?) → OwnRow F' w' e s (es ++ xs) v' := by
  obtain ⟨hm, hs, vs, how, h1, hro⟩ := hrow
  have hlen : es.length + xs.length ≤ 140737488355328 := by
    have : (es.length + xs.length) * 1 ≤ (es.length + xs.length) * i.bytes := Nat.mul_le_mul_left _ hby
    omega
  rcases hn with ⟨c, rfl, rfl⟩ | ⟨ad, c, news, rfl, hnl, hcell, hone, hxs, hxro⟩
  · refine ⟨v, w, run_append_nothing w 0 t ty e i s ht hi v _ vs how c, ⟨rfl, rfl, rfl, Nat.le_refl _, fun _ _ _ => rfl⟩, fun b hb => .inl hb, fun F' hF => ?_⟩
    rw [List.append_nil]
    exact ⟨hm, hs, vs, how, h1, fun i j hi hj => (hro i j hi hj).mono hF⟩
  · obtain ⟨v', w', hrun, how', hg, hnil⟩ := run_append_own (P := P) w 0 t ty e i z s i.bytes ht hi hz hsz rfl hzs hs0 v es.length vs how ad xs.length c news hnl hcell hone (by simp only [maxLen]; omega) hb (Nat.zero_le _)
    have hbe : ∀ v : Value, ∀ n vs, w.ownsRow 0 e s v n vs → v.ownBlock = blk v := by
      intro v n vs h
      rcases h.2 with ⟨rfl, _⟩ | ⟨g, cap, cur, rfl, _⟩ <;> rfl
    rw [hbe v _ _ how] at hg
    have hwhere : ∀ b, blk v' = some b → b < w.heap.size → blk v = some b := append_where (w := w) ht hi hz hsz how hnl hcell hone (by omega) hb hrun
    refine ⟨v', w', hrun, hg, fun b hb => ?_, fun F' hF => ⟨by simp only [List.length_append, maxLen]; omega, fun i hi => ?_, vs ++ news, by rw [List.length_append]; exact how', fun u hu => ?_, fun i j hi hj => ?_⟩⟩
    · rcases how'.2 with ⟨rfl, _⟩ | ⟨g, cap, cur, rfl, _, hgg, _⟩
      · simp [blk] at hb
      · simp [blk] at hb
        subst hb
        rcases Nat.lt_or_ge g w.heap.size with hlt | hge
        · left
          by_cases hbv : blk v = some g
          · exact hbv
          · exfalso
            exact hbv (hwhere g rfl hlt)
        · exact .inr hge
    · rw [List.length_append] at hi
      rw [List.getD_eq_getElem?_getD, List.getElem?_append]
      by_cases h : i < es.length
      · rw [if_pos h, ← List.getD_eq_getElem?_getD]; exact hs i h
      · rw [if_neg h, ← List.getD_eq_getElem?_getD]; exact hxs _ (by omega)
    · rcases List.mem_append.1 hu with h | h
      · exact h1 u h
      · exact hone u h
    · rw [List.length_append] at hi
      have hvl : vs.length = es.length * s := how.1
      rw [List.getD_eq_getElem?_getD (l := vs ++ news), List.getElem?_append, List.getD_eq_getElem?_getD (l := es ++ xs), List.getElem?_append]
      by_cases h : i < es.length
      · have := idx_lt h hj
        rw [if_pos (by omega), if_pos h, ← List.getD_eq_getElem?_getD, ← List.getD_eq_getElem?_getD]
        exact (hro i j h hj).mono hF
      · have h2 : es.length * s ≤ i * s := Nat.mul_le_mul_right s (by omega)
        have h3 : i * s = (i - es.length) * s + es.length * s := by rw [← Nat.add_mul]; congr 1; omega
        rw [if_neg (by omega), if_neg h, ← List.getD_eq_getElem?_getD, ← List.getD_eq_getElem?_getD]
        have h4 : i * s + j - vs.length = (i - es.length) * s + j := by omega
        rw [h4]
        exact (hxro _ j (by omega) hj).mono hF
end
end Go.Eng
