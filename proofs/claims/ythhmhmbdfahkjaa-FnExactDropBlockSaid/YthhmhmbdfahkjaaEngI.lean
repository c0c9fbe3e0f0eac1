/-
  The engine: parts of rows written, in the model.
  No conditions.
-/
import Derived.Test.YthhmhmbdfahkjaaEngH
namespace Go.Eng
open Go Go.RowKit

/-- A write at p into the block of a row (or of one whose capacity is known). -/
def putC (L news : List Value) (o : Nat) : Array Value := (L.take o ++ news ++ L.drop (o + news.length)).toArray
theorem putC_size {cur : Array Value} {news : List Value} {o : Nat} (h : o + news.length ≤ cur.size) : (putC cur.toList news o).size = cur.size := by
  simp only [putC, List.size_toArray, List.length_append, List.length_take, List.length_drop, Array.length_toList]
  omega

section
variable {F : Nat → Prop} {w : World} {e : TypeId} {s a : Nat} {es xs : List (List D)} {x : Value} {news : List Value}

theorem put_row (hs0 : 0 < s) {g cap : Nat} {cur : Array Value} (hx : x = .slice (some ⟨g, 0, none⟩) es.length cap) (hg : w.heap[g]? = some (.cells cur e (0, 0))) (hnc : es.length ≤ cap) (hcm : cap ≤ maxLen) (hcs : cur.size = cap * s) (hk : KnownAt F w s cur.toList es)
    (hn : KnownAt F w s news xs) (hl : news.length = xs.length * s) (hroom : a + xs.length ≤ es.length) (F' : Nat → Prop) (hF : ∀ b, F b → F' b ∧ (w.setRow g (putC cur.toList news (a * s))).heap[b]? = w.heap[b]?) :
    OwnRow F' (w.setRow g (putC cur.toList news (a * s))) e s (es.take a ++ (xs ++ es.drop (a + xs.length))) x := by
  have hm : (a + xs.length) * s ≤ cap * s := Nat.mul_le_mul_right s (by omega)
  rw [Nat.add_mul] at hm
  have hm2 : es.length * s ≤ cap * s := Nat.mul_le_mul_right s hnc
  have hcl : cur.toList.length = cap * s := by simp [hcs]
  subst hx
  refine known_row hs0 (setRow_heap w g cur _ e _ hg) (by simp; omega) hnc hcm (by rw [putC_size (by omega)]; exact hcs) ?_
  have := (hk.put (p := a) hn hl (by omega) (by omega) (by omega)).mono hF
  simpa only [putC, List.append_assoc] using this

theorem put_blk {c g : Nat} {cur : Array Value} (hx : x = .slice (some ⟨g, 0, none⟩) c c) (hg : w.heap[g]? = some (.cells cur e (0, 0))) (hec : es.length ≤ c) (hcm : c ≤ maxLen) (hcs : cur.size = c * s) (hk : KnownAt F w s cur.toList es)
    (hn : KnownAt F w s news xs) (hl : news.length = xs.length * s) (hp : a ≤ es.length) (hroom : a + xs.length ≤ c) (F' : Nat → Prop) (hF : ∀ b, F b → F' b ∧ (w.setRow g (putC cur.toList news (a * s))).heap[b]? = w.heap[b]?) :
    OwnBlk F' (w.setRow g (putC cur.toList news (a * s))) e s (es.take a ++ (xs ++ es.drop (a + xs.length))) c x := by
  have hm : (a + xs.length) * s ≤ c * s := Nat.mul_le_mul_right s (by omega)
  rw [Nat.add_mul] at hm
  have hm2 : es.length * s ≤ c * s := Nat.mul_le_mul_right s hec
  have hcl : cur.toList.length = c * s := by simp [hcs]
  have := (hk.put (p := a) hn hl hp (by omega) (by omega)).mono hF
  have h2 : KnownAt F' (w.setRow g (putC cur.toList news (a * s))) s (putC cur.toList news (a * s)).toList (es.take a ++ (xs ++ es.drop (a + xs.length))) := by
    simpa only [putC, List.append_assoc] using this
  exact ⟨g, _, hx, setRow_heap w g cur _ e _ hg, by simp; omega, hcm, by rw [putC_size (by omega)]; exact hcs, h2.1, h2.2⟩
end

section
variable {F : Nat → Prop} {P : Program} {w : World} {t ty e : TypeId} {s : Nat} {es xs : List (List D)} {x v vx : Value} {i : TypeInfo}

theorem grownBy_none (w : World) (b : Option Nat) : w.grownBy w b := ⟨rfl, rfl, rfl, Nat.le_refl _, fun _ _ _ => rfl⟩

/-- append into a part of a row, where the row has the elements that are written over. -/
theorem append_part (ht : P.underlying t = some (.slice e)) (hi : P.info? e = some i) (hsz : i.size = s) (hs0 : 0 < s) (hrow : OwnRow F w e s es x) {p : Nat} (hsub : Sub s 0 p x v) (hn : NewsAt F w s vx xs) (hroom : p + xs.length ≤ es.length) :
    ∃ v' w', (Builtin.append_ #[t, t] ty #[v, vx]).run P w = .ok v' w' ∧ w.grownBy w' (blk x) ∧ Sub s 0 (p + xs.length) x v' ∧
      ∀ F', (∀ b, F b → F' b ∧ w'.heap[b]? = w.heap[b]?) → OwnRow F' w' e s (es.take p ++ (xs ++ es.drop (p + xs.length))) x := by
  obtain ⟨p0, len, cap, q, hxv, _, hb, hlc, rfl, hq⟩ := hsub
  have hlen : len = es.length := by
    obtain ⟨_, ax, cx, hvx⟩ := row_len hrow
    rw [hxv] at hvx
    cases hvx
    rfl
  have hpc : p ≤ cap := hb
  rcases xs.eq_nil_or_concat with rfl | hne
  · refine ⟨.slice q (p - 0 + 0) (cap - 0), w, ?_, grownBy_none w _, ⟨p0, len, cap, q, hxv, Nat.zero_le _, hb, hlc, rfl, hq⟩, fun F' hF => ?_⟩
    · rcases news_known hn with ⟨c, rfl, _⟩ | ⟨ad, c, news, rfl, hl, _⟩
      · simp [Builtin.append_, run_underlying ht, sizeOf, typeInfo, hi, Builtin.lenOf, Builtin.firstCells, hpc, storeCells]
        cases q <;> simp
      · simp [Builtin.append_, run_underlying ht, sizeOf, typeInfo, hi, Builtin.lenOf, Builtin.firstCells, loadCells, loadCellsFrom, hpc, storeCells]
        cases q <;> simp
    · simp only [List.length_nil, Nat.add_zero, List.nil_append, List.take_append_drop]
      obtain ⟨h1, h2, xs, h3, h4, h5⟩ := hrow
      exact ⟨h1, h2, xs, h3, h4, fun i j hi hj => (h5 i j hi hj).mono hF⟩
  · have hpos : 0 < xs.length := by obtain ⟨l, y, rfl⟩ := hne; simp
    rcases row_known hrow with ⟨_, rfl⟩ | ⟨g, cap', cur, hx, hg, hnc, hcm, hcs, hk⟩
    · rw [List.length_nil] at hroom; omega
    · rw [hx] at hxv
      cases hxv
      have hq' : q = some ⟨g, 0, none⟩ := by
        rw [hq (by omega)]
        simp [Addr.add]
      subst hq'
      rcases news_known hn with ⟨c, _, rfl⟩ | ⟨ad, c, news, rfl, hl, hcell, hone, hkn⟩
      · simp at hpos
      · subst hsz
        have hm : (p + xs.length) * i.size ≤ cap * i.size := Nat.mul_le_mul_right _ (by omega)
        rw [Nat.add_mul] at hm
        have hr := run_append_room (P := P) (ty := ty) w t e i ht hi g p cap cur hg ad xs.length c news hl hcell hone (by omega) (by omega)
        refine ⟨_, _, hr, by rw [hx]; exact grownBy_setRow w g _, ⟨_, _, _, _, hx, Nat.zero_le _, by omega, hnc, rfl, fun _ => by simp [Addr.add]⟩, fun F' hF => ?_⟩
        exact put_row hs0 hx hg hnc hcm hcs hk hkn hl hroom F' hF
end
end Go.Eng
