/-
  The engine: copy, clear, cap and the growing append of zeros, in the model.
  No conditions.
-/
import Derived.Test.YthhmhmbdfahkjaaEngI
namespace Go.Eng
open Go Go.RowKit

section
variable {F : Nat → Prop} {P : Program} {w : World} {t u ty e : TypeId} {s : Nat} {es xs : List (List D)} {x v vx : Value} {i : TypeInfo}

theorem KnownAt.one {L : List Value} {cs : List (List D)} (hs0 : 0 < s) (h : KnownAt F w s L cs) (hl : L.length = cs.length * s) : ∀ y ∈ L, y.oneCell' = true := by
  intro y hy
  obtain ⟨k, hk, rfl⟩ := List.mem_iff_getElem.1 hy
  have hk' : k < cs.length * s := by omega
  have h1 : k / s < cs.length := Nat.div_lt_of_lt_mul (by rwa [Nat.mul_comm])
  have h2 : k % s < s := Nat.mod_lt _ hs0
  have h3 : k / s * s + k % s = k := by rw [Nat.mul_comm]; exact Nat.div_add_mod k s
  have h4 := (h.2 _ _ h1 h2).1
  rw [h3, List.getD_eq_getElem?_getD, List.getElem?_eq_getElem hk] at h4
  exact h4

/-- copy, by cells. -/
theorem run_copy_at (ht : P.underlying t = some (.slice e)) (hi : P.info? e = some i) (hsz : i.size = s) {q : Option Addr} {dl dc : Nat} (hn : NewsAt F w s vx xs)
    {g a : Nat} {cur : Array Value} {T : TypeId} (hq : 0 < dl → q = some ⟨g, a * s, none⟩) (hg : w.heap[g]? = some (.cells cur T (0, 0))) (hfit : (a + dl) * s ≤ cur.size) :
    ∃ news, (Builtin.copy_ #[t, u] ty #[.slice q dl dc, vx]).run P w = .ok (goInt (xs.length.min dl : Nat)) (w.setRow g (putC cur.toList news (a * s))) ∧ KnownAt F w s news (xs.take dl) ∧ news.length = (xs.take dl).length * s := by
  rw [Nat.add_mul] at hfit
  have nothing : ∀ ad c, min xs.length dl = 0 → vx = .slice ad xs.length c → (Builtin.copy_ #[t, u] ty #[.slice q dl dc, vx]).run P w = .ok (goInt (xs.length.min dl : Nat)) (w.setRow g (putC cur.toList [] (a * s))) := by
    intro ad c h0 hv
    have e0 : (putC cur.toList [] (a * s)) = cur := by simp [putC]
    have h0' : Nat.min xs.length dl = 0 := h0
    rw [e0, setRow_self w g cur T (0, 0) hg, hv, h0']
    cases ad <;> cases q <;> simp [Builtin.copy_, run_underlying ht, sizeOf, typeInfo, hi, Builtin.lenOf, Builtin.firstCells, h0', loadCells, loadCellsFrom, storeCells]
  have empty : ∀ l : List (List D), l = [] → KnownAt F w s [] l ∧ ([] : List Value).length = l.length * s := by
    rintro l rfl
    exact ⟨⟨fun i hi => by simp at hi, fun i j hi => by simp at hi⟩, by simp⟩
  rcases news_known hn with ⟨c, rfl, rfl⟩ | ⟨ad, c, news, rfl, hl, hcell, hone, hkn⟩
  · exact ⟨[], nothing none c (by simp) rfl, empty _ (by simp)⟩
  · rcases Nat.eq_zero_or_pos (min xs.length dl) with h0 | h0
    · refine ⟨[], nothing (some ad) c h0 rfl, empty _ ?_⟩
      rw [List.take_eq_nil_iff]
      rcases Nat.eq_zero_or_pos dl with h | h
      · exact .inl h
      · exact .inr (List.eq_nil_of_length_eq_zero (by omega))
    · rw [hq (by omega)]
      have hk : (xs.take dl).length = min xs.length dl := by rw [List.length_take, Nat.min_comm]
      have hnl : (news.take (dl * s)).length = (xs.take dl).length * s := by
        rw [List.length_take, hk, hl, ← Nat.mul_min_mul_right, Nat.min_comm]
      have hmm : (xs.take dl).length * s ≤ dl * s := Nat.mul_le_mul_right s (by omega)
      refine ⟨news.take (dl * s), ?_, hkn.take, hnl⟩
      have hload := run_loadCells_list (P := P) w ad (news.take (dl * s)) (fun j y hj => hcell j y (by
        have hjl := (List.getElem?_eq_some_iff.1 hj).1
        rw [List.getElem?_take_of_lt (by rw [List.length_take] at hjl; omega)] at hj
        exact hj))
      have hst := run_storeCells_at P g (a * s) T (news.take (dl * s)) 0 cur w hg (by omega) (fun y hy => hone y (List.mem_of_mem_take hy))
      subst hsz
      rw [hnl, hk] at hload
      have hmin : Nat.min xs.length dl = min xs.length dl := rfl
      simp only [Nat.add_zero] at hst
      simp [Builtin.copy_, run_underlying ht, sizeOf, typeInfo, hi, Builtin.lenOf, Builtin.firstCells, hmin, hload, hst, putC]

theorem sub_ptr {g n c a b : Nat} (hsub : Sub s a b (.slice (some ⟨g, 0, none⟩) n c) v) : ∃ q, v = .slice q (b - a) (c - a) ∧ b ≤ c ∧ a ≤ b ∧ (0 < b - a → q = some ⟨g, a * s, none⟩) := by
  obtain ⟨p, len, cap, q, hxv, hab, hb, hlc, rfl, hq⟩ := hsub
  cases hxv
  refine ⟨q, rfl, hb, hab, fun h => ?_⟩
  rw [hq (by omega), Option.map_some, add_lit, Nat.zero_add]

theorem copy_row (ht : P.underlying t = some (.slice e)) (hi : P.info? e = some i) (hsz : i.size = s) (hs0 : 0 < s) (hrow : OwnRow F w e s es x) {a b : Nat} (hsub : Sub s a b x v) (hn : NewsAt F w s vx xs) (hb : b ≤ es.length) :
    ∃ y w', (Builtin.copy_ #[t, u] ty #[v, vx]).run P w = .ok y w' ∧ w.grownBy w' (blk x) ∧
      ∀ F', (∀ b, F b → F' b ∧ w'.heap[b]? = w.heap[b]?) → OwnRow F' w' e s (es.take a ++ (xs.take (b - a) ++ es.drop (a + (xs.take (b - a)).length))) x := by
  rcases row_known hrow with ⟨rfl, rfl⟩ | ⟨g, cap, cur, rfl, hg, hnc, hcm, hcs, hk⟩
  · obtain ⟨p, len, cap, q, hxv, hab, hbc, hlc, rfl, hq⟩ := hsub
    cases hxv
    have hb0 : b = 0 := by omega
    have ha0 : a = 0 := by omega
    subst hb0 ha0
    refine ⟨goInt 0, w, ?_, grownBy_none w _, fun F' hF => ?_⟩
    · have h0 : ∀ n, Nat.min n 0 = 0 := fun n => Nat.min_zero n
      rcases news_known hn with ⟨c, rfl, _⟩ | ⟨ad, c, news, rfl, hl, _⟩
      · cases q <;> simp [Builtin.copy_, run_underlying ht, sizeOf, typeInfo, hi, Builtin.lenOf, Builtin.firstCells, h0, storeCells]
      · cases q <;> simp [Builtin.copy_, run_underlying ht, sizeOf, typeInfo, hi, Builtin.lenOf, Builtin.firstCells, h0, loadCells, loadCellsFrom, storeCells]
    · simp only [List.take_nil, List.drop_nil, Nat.sub_self, List.take_zero, List.nil_append, List.append_nil]
      obtain ⟨h1, h2, xs, h3, h4, h5⟩ := hrow
      exact ⟨h1, h2, xs, h3, h4, fun i j hi hj => (h5 i j hi hj).mono hF⟩
  · obtain ⟨q, rfl, hbc, hab, hq⟩ := sub_ptr hsub
    have hm : (a + (b - a)) * s ≤ cap * s := Nat.mul_le_mul_right s (by omega)
    obtain ⟨news, hr, hkn, hnl⟩ := run_copy_at (u := u) (ty := ty) (dc := cap - a) ht hi hsz hn hq hg (by omega)
    exact ⟨_, _, hr, grownBy_setRow w g _, fun F' hF => put_row hs0 rfl hg hnc hcm hcs hk hkn hnl (by rw [List.length_take]; omega) F' hF⟩

theorem copy_blk (ht : P.underlying t = some (.slice e)) (hi : P.info? e = some i) (hsz : i.size = s) {c : Nat} (hrow : OwnBlk F w e s es c x) {a b : Nat} (hsub : Sub s a b x v) (hn : NewsAt F w s vx xs) (hb : b ≤ c) (ha : a ≤ es.length) :
    ∃ y w', (Builtin.copy_ #[t, u] ty #[v, vx]).run P w = .ok y w' ∧ w.grownBy w' (blk x) ∧
      ∀ F', (∀ b, F b → F' b ∧ w'.heap[b]? = w.heap[b]?) → OwnBlk F' w' e s (es.take a ++ (xs.take (b - a) ++ es.drop (a + (xs.take (b - a)).length))) c x := by
  obtain ⟨g, cur, rfl, hg, hec, hcm, hcs, hk⟩ := hrow
  obtain ⟨q, rfl, hbc, hab, hq⟩ := sub_ptr hsub
  have hm : (a + (b - a)) * s ≤ c * s := Nat.mul_le_mul_right s (by omega)
  obtain ⟨news, hr, hkn, hnl⟩ := run_copy_at (u := u) (ty := ty) (dc := c - a) ht hi hsz hn hq hg (by omega)
  exact ⟨_, _, hr, grownBy_setRow w g _, fun F' hF => put_blk rfl hg hec hcm hcs hk hkn hnl ha (by rw [List.length_take]; omega) F' hF⟩

theorem clear_row {z : Value} {zd : List D} (ht : P.underlying t = some (.slice e)) (hz : ∀ w : World, (zeroValue e).run P w = .ok z w) (hzr : CellsRep (fun _ => False) (fun _ => none) w z.cells.toList zd) (hzs : z.cells.size = s) (hzn : zd.all noH0 = true) (hs0 : 0 < s)
    (hrow : OwnRow F w e s es x) {a b : Nat} (hsub : Sub s a b x v) (hb : b ≤ es.length) :
    ∃ y w', (Builtin.clear_ #[t] ty #[v]).run P w = .ok y w' ∧ w.grownBy w' (blk x) ∧
      ∀ F', (∀ b, F b → F' b ∧ w'.heap[b]? = w.heap[b]?) → OwnRow F' w' e s (es.take a ++ (List.replicate (b - a) zd ++ es.drop (a + (List.replicate (b - a) zd).length))) x := by
  rcases Nat.eq_zero_or_pos (b - a) with h0 | h0
  · refine ⟨.tuple #[], w, ?_, grownBy_none w _, fun F' hF => ?_⟩
    · obtain ⟨p, len, cap, q, hxv, hab, hbc, hlc, rfl, hq⟩ := hsub
      rw [h0]
      cases q <;> simp [Builtin.clear_, run_underlying ht]
    · rw [h0]
      simp only [List.replicate_zero, List.length_nil, Nat.add_zero, List.nil_append, List.take_append_drop]
      obtain ⟨h1, h2, xs, h3, h4, h5⟩ := hrow
      exact ⟨h1, h2, xs, h3, h4, fun i j hi hj => (h5 i j hi hj).mono hF⟩
  · rcases row_known hrow with ⟨rfl, rfl⟩ | ⟨g, cap, cur, rfl, hg, hnc, hcm, hcs, hk⟩
    · rw [List.length_nil] at hb; omega
    · obtain ⟨q, rfl, hbc, hab, hq⟩ := sub_ptr hsub
      rw [hq h0]
      have hm : (a + (b - a)) * s ≤ cap * s := Nat.mul_le_mul_right s (by omega)
      rw [Nat.add_mul] at hm
      have hkz := known_zeros (F := F) (w := w) (k := b - a) hs0 hzr hzs hzn []
      rw [List.append_nil] at hkz
      have hzl : (Builtin.zeroCells z.cells (b - a)).toList.length = (List.replicate (b - a) zd).length * s := by
        rw [Array.length_toList, size_zeroCells, hzs, List.length_replicate]
      rw [List.length_replicate] at hzl
      have hst := run_storeCells_at P g (a * s) e (Builtin.zeroCells z.cells (b - a)).toList 0 cur w hg (by omega) (hkz.one hs0 (by rw [List.length_replicate]; exact hzl))
      simp only [Nat.add_zero] at hst
      refine ⟨.tuple #[], w.setRow g (putC cur.toList (Builtin.zeroCells z.cells (b - a)).toList (a * s)), ?_, grownBy_setRow w g _, fun F' hF => put_row hs0 rfl hg hnc hcm hcs hk hkz (by rw [List.length_replicate]; exact hzl) (by rw [List.length_replicate]; omega) F' hF⟩
      obtain ⟨k, hk⟩ : ∃ k, b - a = k + 1 := ⟨b - a - 1, by omega⟩
      rw [hk] at hst ⊢
      simp [Builtin.clear_, run_underlying ht, hz, hst, putC]

theorem cap_row (hs0 : 0 < s) (hrow : OwnRow F w e s es x) (h0 : 0 < es.length) : ∃ g c, x = .slice (some ⟨g, 0, none⟩) es.length c ∧ es.length ≤ c ∧ OwnBlk F w e s es c (.slice (some ⟨g, 0, none⟩) c c) := by
  rcases row_known hrow with ⟨rfl, rfl⟩ | ⟨g, cap, cur, rfl, hg, hnc, hcm, hcs, hk⟩
  · exact absurd h0 (Nat.lt_irrefl 0)
  · exact ⟨g, cap, rfl, hnc, g, cur, rfl, hg, hnc, hcm, hcs, hk⟩

theorem run_append_grow_zeros (w : World) (z : Value) {kn kk : IntKind} (ht : P.underlying t = some (.slice e)) (hu : P.underlying u = some (.int kn)) (hi : P.info? e = some i) (hz : i.zero = some z)
    (b : Addr) (sLen sCap : Nat) (olds : List Value) (hlo : olds.length = sLen * i.size) (holds : ∀ j v, olds[j]? = some v → w.cell? (b.add j) = some v)
    (n : Nat) (hp : 0 < i.size) (hg : sCap < sLen + n) (h0 : 0 < n) (h63 : ((sLen + n : Nat) : Int) ≤ 9223372036854775807) (h48 : n * i.bytes ≤ 281474976710656) (hfit : Builtin.nextslicecap (sLen + n) sCap * i.bytes ≤ 281474976710656) :
    (Builtin.append_ #[t, u] ty #[.slice (some b) sLen sCap, .int kk n]).run P w =
      .ok (.slice (some ⟨w.heap.size, 0, none⟩) (sLen + n) (grownCap w (sLen + n) sCap e))
        (w.drew.alloc (.cells (olds.toArray ++ Builtin.zeroCells z.cells n ++ Builtin.zeroCells z.cells (grownCap w (sLen + n) sCap e - (sLen + n))) e)) := by
  have hn : ¬ (sLen + n ≤ sCap) := by omega
  have hn0 : n ≠ 0 := by omega
  have hw : IntKind.i64.wrap (n : Int) = n := by rw [IntKind.wrap_i64]; omega
  have h63' : ¬ (9223372036854775807 < ((sLen : Int) + (n : Int))) := by omega
  have h48' : ¬ (281474976710656 < Builtin.nextslicecap (sLen + n) sCap * i.bytes) := by omega
  have h48i : ¬ (281474976710656 < (n : Int) * (i.bytes : Int)) := by
    rw [← Int.natCast_mul]
    omega
  have hneg : ¬ ((n : Int) < 0) := by omega
  have hns : ¬ (n * i.size = 0) := Nat.mul_ne_zero hn0 (by omega)
  have hfo := run_firstCells_some (P := P) w.drew i.size sLen b sLen sCap olds hlo (by simpa using holds)
  simp [Builtin.append_, run_underlying ht, run_underlying hu, sizeOf, typeInfo, zeroValue, hi, hz, asInt, asIntOf, hw, hn, hn0, hneg, hns, h63', h48', h48i, Question.forced, hfo, newRow, grownCap]

/-- A part of a row whose capacity is known, grown by zeros beyond that capacity. -/
theorem append_zeros {z : Value} {zd : List D} {kn kk : IntKind} (ht : P.underlying t = some (.slice e)) (hu : P.underlying u = some (.int kn)) (hi : P.info? e = some i) (hz : i.zero = some z) (hsz : i.size = s) (hzr : CellsRep (fun _ => False) (fun _ => none) w z.cells.toList zd) (hzs : z.cells.size = s) (hzn : zd.all noH0 = true) (hs0 : 0 < s)
    {c : Nat} (hrow : OwnBlk F w e s es c x) {p n : Nat} (hsub : Sub s 0 p x v) (hp : p ≤ es.length) (hc : c < p + n) (hc0 : 0 < c) (h0 : 0 < n) (hb : (p + n) * i.bytes ≤ 140737488355328) (hby : 0 < i.bytes) :
    ∃ v' w', (Builtin.append_ #[t, u] ty #[v, .int kk n]).run P w = .ok v' w' ∧ w.grownBy w' none ∧ (∀ b, blk v' = some b → w.heap.size ≤ b) ∧
      ∀ F', (∀ b, F b → F' b ∧ w'.heap[b]? = w.heap[b]?) → OwnRow F' w' e s (es.take p ++ List.replicate n zd) v' := by
  obtain ⟨g, cur, rfl, hg, hec, hcm, hcs, hk⟩ := hrow
  have hlen : p + n ≤ 140737488355328 := by
    have : (p + n) * 1 ≤ (p + n) * i.bytes := Nat.mul_le_mul_left _ hby
    omega
  have hnb : n * i.bytes ≤ (p + n) * i.bytes := Nat.mul_le_mul_right _ (by omega)
  obtain ⟨p0, len, cap, q, hxv, _, hbc, hlc, rfl, hq⟩ := hsub
  cases hxv
  have hps : p * s ≤ c * s := Nat.mul_le_mul_right s (by omega)
  have hql : (cur.toList.take (p * s)).length = p * s := by
    have : cur.toList.length = c * s := by simp [hcs]
    rw [List.length_take]; omega
  · have hq' : q = some ⟨g, 0, none⟩ := by
      rw [hq (by omega)]
      simp [Addr.add]
    subst hq'
    subst hsz
    have hr := run_append_grow_zeros (P := P) (ty := ty) (kk := kk) w z ht hu hi hz ⟨g, 0, none⟩ p c (cur.toList.take (p * i.size)) hql (fun j y hj => by
      have hjl := (List.getElem?_eq_some_iff.1 hj).1
      rw [List.getElem?_take_of_lt (by omega)] at hj
      rw [add_lit]
      simp only [World.cell?, hg]
      simpa using hj) n hs0 hc h0 (by omega) (by omega) (growslice_fits hc hb)
    refine ⟨_, _, hr, ⟨rfl, rfl, rfl, by simp, fun k hk _ => heap_alloc_old w.drew _ hk⟩, fun b hb => by simp [blk] at hb; omega, fun F' hF => ?_⟩
    have hge := grownCap_ge w (p + n) c e
    refine known_row hs0 (heap_alloc_new w.drew _) (by simp; omega) hge (grownCap_le_maxLen w (p + n) c e (by simp only [maxLen]; omega)) ?_ ?_
    · simp only [Array.size_append, List.size_toArray, size_zeroCells, hzs, hql, ← Nat.add_mul]
      congr 1
      omega
    · have hkz := known_zeros (F := F) (w := w) (k := n) hs0 hzr hzs hzn []
      rw [List.append_nil] at hkz
      have hkt := KnownAt.take (k := p) (show KnownAt F w i.size cur.toList es from hk)
      have := (KnownAt.app (N := (Builtin.zeroCells z.cells (grownCap w (p + n) c e - (p + n))).toList) hkt hkz (by rw [hql, List.length_take, Nat.min_eq_left hp]) (by rw [Array.length_toList, size_zeroCells, hzs, List.length_replicate])).mono hF
      simpa only [Array.toList_append, List.append_assoc] using this
end
end Go.Eng
