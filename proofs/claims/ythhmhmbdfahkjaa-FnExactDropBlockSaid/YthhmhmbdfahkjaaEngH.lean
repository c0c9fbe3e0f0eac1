/-
  The engine: parts of rows written. append into a part, copy, clear, cap: what the model does, by values.
  No conditions.
-/
import Derived.Test.YthhmhmbdfahkjaaEngG
namespace Go.Eng
open Go Go.RowKit

/-- Cells that read as rows of data. -/
def KnownAt (F : Nat → Prop) (w : World) (s : Nat) (L : List Value) (cs : List (List D)) : Prop :=
  (∀ i, i < cs.length → (cs.getD i []).length = s) ∧
    ∀ i j, i < cs.length → j < s → (L.getD (i * s + j) undef).oneCell' = true ∧ RO F w (L.getD (i * s + j) undef) ((cs.getD i []).getD j .junk)

theorem KnownAt.mono {F F' : Nat → Prop} {w w' : World} {s : Nat} {L : List Value} {cs : List (List D)} (hF : ∀ b, F b → F' b ∧ w'.heap[b]? = w.heap[b]?) (h : KnownAt F w s L cs) : KnownAt F' w' s L cs :=
  ⟨h.1, fun i j hi hj => ⟨(h.2 i j hi hj).1, (h.2 i j hi hj).2.mono hF⟩⟩

theorem row_known {F : Nat → Prop} {w : World} {e : TypeId} {s : Nat} {es : List (List D)} {x : Value} (h : OwnRow F w e s es x) :
    (x = .slice none 0 0 ∧ es = []) ∨ ∃ g cap cur, x = .slice (some ⟨g, 0, none⟩) es.length cap ∧ w.heap[g]? = some (.cells cur e (0, 0)) ∧ es.length ≤ cap ∧ cap ≤ maxLen ∧ cur.size = cap * s ∧ KnownAt F w s cur.toList es := by
  obtain ⟨hm, hs, xs, how, h1, hro⟩ := h
  rcases how.2 with ⟨rfl, hn⟩ | ⟨g, cap, cur, rfl, _, hg, hnc, hcm, hcs, htk⟩
  · exact .inl ⟨rfl, List.eq_nil_of_length_eq_zero hn⟩
  · refine .inr ⟨g, cap, cur, rfl, hg, hnc, hcm, hcs, hs, fun i j hi hj => ?_⟩
    have hlt := idx_lt hi hj
    have hxl : xs.length = es.length * s := how.1
    have e1 : cur.toList.getD (i * s + j) undef = xs.getD (i * s + j) undef := by
      rw [← htk, List.getD_eq_getElem?_getD, List.getD_eq_getElem?_getD, List.getElem?_take_of_lt hlt]
    rw [e1]
    refine ⟨?_, hro i j hi hj⟩
    rw [List.getD_eq_getElem?_getD, List.getElem?_eq_getElem (by omega)]
    exact h1 _ (List.getElem_mem _)

theorem known_row {F : Nat → Prop} {w : World} {e : TypeId} {s : Nat} (hs0 : 0 < s) {es : List (List D)} {g n cap : Nat} {cur : Array Value} (hg : w.heap[g]? = some (.cells cur e (0, 0))) (hn : n = es.length) (hnc : n ≤ cap) (hcm : cap ≤ maxLen) (hcs : cur.size = cap * s) (h : KnownAt F w s cur.toList es) :
    OwnRow F w e s es (.slice (some ⟨g, 0, none⟩) n cap) := by
  subst hn
  have hle : es.length * s ≤ cap * s := Nat.mul_le_mul_right s hnc
  have hcl : cur.toList.length = cap * s := by simp [hcs]
  have hl : (cur.toList.take (es.length * s)).length = es.length * s := by rw [List.length_take]; omega
  have e1 : ∀ k, k < es.length * s → (cur.toList.take (es.length * s)).getD k undef = cur.toList.getD k undef := fun k hk => by
    rw [List.getD_eq_getElem?_getD, List.getD_eq_getElem?_getD, List.getElem?_take_of_lt hk]
  refine ⟨by omega, h.1, cur.toList.take (es.length * s), ⟨hl, .inr ⟨g, cap, cur, rfl, Nat.zero_le _, hg, hnc, hcm, hcs, rfl⟩⟩, fun u hu => ?_, fun i j hi hj => ?_⟩
  · obtain ⟨k, hk, rfl⟩ := List.mem_iff_getElem.1 hu
    have hk' : k < es.length * s := by omega
    have h1 : k / s < es.length := Nat.div_lt_of_lt_mul (by rwa [Nat.mul_comm])
    have h2 : k % s < s := Nat.mod_lt _ hs0
    have h3 : k / s * s + k % s = k := by rw [Nat.mul_comm]; exact Nat.div_add_mod k s
    have h4 := (h.2 _ _ h1 h2).1
    rw [h3, ← e1 k hk', List.getD_eq_getElem?_getD, List.getElem?_eq_getElem hk] at h4
    exact h4
  · rw [e1 _ (idx_lt hi hj)]
    exact (h.2 i j hi hj).2

/-- Cells written over rows, at p. -/
theorem KnownAt.put {F : Nat → Prop} {w : World} {s p : Nat} {L news : List Value} {cs xs : List (List D)} (h : KnownAt F w s L cs) (hn : KnownAt F w s news xs) (hl : news.length = xs.length * s) (hp : p ≤ cs.length) (hL : cs.length * s ≤ L.length) (hfit : p * s + news.length ≤ L.length) :
    KnownAt F w s (L.take (p * s) ++ (news ++ L.drop (p * s + news.length))) (cs.take p ++ (xs ++ cs.drop (p + xs.length))) := by
  have hps : p * s ≤ cs.length * s := Nat.mul_le_mul_right s hp
  have hlt : (L.take (p * s)).length = p * s := by rw [List.length_take]; omega
  have hct : (cs.take p).length = p := by rw [List.length_take]; omega
  have key : ∀ i, i < (cs.take p ++ (xs ++ cs.drop (p + xs.length))).length →
      (i < p ∧ i < cs.length ∧ (cs.take p ++ (xs ++ cs.drop (p + xs.length))).getD i [] = cs.getD i [] ∧ ∀ j, j < s → (L.take (p * s) ++ (news ++ L.drop (p * s + news.length))).getD (i * s + j) undef = L.getD (i * s + j) undef) ∨
      (∃ k, k < xs.length ∧ (cs.take p ++ (xs ++ cs.drop (p + xs.length))).getD i [] = xs.getD k [] ∧ ∀ j, j < s → (L.take (p * s) ++ (news ++ L.drop (p * s + news.length))).getD (i * s + j) undef = news.getD (k * s + j) undef) ∨
      (i < cs.length ∧ (cs.take p ++ (xs ++ cs.drop (p + xs.length))).getD i [] = cs.getD i [] ∧ ∀ j, j < s → (L.take (p * s) ++ (news ++ L.drop (p * s + news.length))).getD (i * s + j) undef = L.getD (i * s + j) undef) := by
    intro i hi
    rw [List.length_append, List.length_append, hct, List.length_drop] at hi
    simp only [List.getD_eq_getElem?_getD]
    by_cases h1 : i < p
    · left
      refine ⟨h1, by omega, by rw [List.getElem?_append_left (by omega), List.getElem?_take_of_lt h1], fun j hj => ?_⟩
      have := idx_lt h1 hj
      rw [List.getElem?_append_left (by omega), List.getElem?_take_of_lt this]
    · right
      have hpi : p * s ≤ i * s := Nat.mul_le_mul_right s (by omega)
      by_cases h2 : i < p + xs.length
      · left
        have hki : (i - p) * s = i * s - p * s := Nat.sub_mul ..
        refine ⟨i - p, by omega, by rw [List.getElem?_append_right (by omega), hct, List.getElem?_append_left (by omega)], fun j hj => ?_⟩
        have hlt2 := idx_lt (show i - p < xs.length by omega) hj
        rw [List.getElem?_append_right (by omega), hlt, List.getElem?_append_left (by omega)]
        congr 2
        omega
      · right
        have hpk : (p + xs.length) * s ≤ i * s := Nat.mul_le_mul_right s (by omega)
        rw [Nat.add_mul] at hpk
        refine ⟨by omega, ?_, fun j hj => ?_⟩
        · rw [List.getElem?_append_right (by omega), hct, List.getElem?_append_right (by omega), List.getElem?_drop]
          congr 2
          omega
        · rw [List.getElem?_append_right (by omega), hlt, List.getElem?_append_right (by omega), List.getElem?_drop]
          congr 2
          omega
  refine ⟨fun i hi => ?_, fun i j hi hj => ?_⟩
  · rcases key i hi with ⟨_, h1, h2, _⟩ | ⟨k, h1, h2, _⟩ | ⟨h1, h2, _⟩
    · rw [h2]; exact h.1 i h1
    · rw [h2]; exact hn.1 k h1
    · rw [h2]; exact h.1 i h1
  · rcases key i hi with ⟨_, h1, h2, h3⟩ | ⟨k, h1, h2, h3⟩ | ⟨h1, h2, h3⟩
    · rw [h2, h3 j hj]; exact h.2 i j h1 hj
    · rw [h2, h3 j hj]; exact hn.2 k j h1 hj
    · rw [h2, h3 j hj]; exact h.2 i j h1 hj

/-- What is appended or copied, as cells. -/
theorem news_known {F : Nat → Prop} {w : World} {s : Nat} {v : Value} {xs : List (List D)} (h : NewsAt F w s v xs) :
    (∃ c, v = .slice none 0 c ∧ xs = []) ∨ ∃ ad c news, v = .slice (some ad) xs.length c ∧ news.length = xs.length * s ∧ (∀ j u, news[j]? = some u → w.cell? (ad.add j) = some u) ∧ (∀ u ∈ news, u.oneCell' = true) ∧ KnownAt F w s news xs := by
  rcases h with h | ⟨ad, c, news, rfl, hl, hc, h1, hs, hro⟩
  · exact .inl h
  · refine .inr ⟨ad, c, news, rfl, hl, hc, h1, hs, fun i j hi hj => ⟨?_, hro i j hi hj⟩⟩
    rw [List.getD_eq_getElem?_getD, List.getElem?_eq_getElem (by have := idx_lt hi hj; omega)]
    exact h1 _ (List.getElem_mem _)

theorem KnownAt.take {F : Nat → Prop} {w : World} {s k : Nat} {L : List Value} {cs : List (List D)} (h : KnownAt F w s L cs) : KnownAt F w s (L.take (k * s)) (cs.take k) := by
  have e1 : ∀ i, i < (cs.take k).length → (cs.take k).getD i [] = cs.getD i [] := fun i hi => by
    rw [List.length_take] at hi
    rw [List.getD_eq_getElem?_getD, List.getD_eq_getElem?_getD, List.getElem?_take_of_lt (by omega)]
  refine ⟨fun i hi => ?_, fun i j hi hj => ?_⟩
  · rw [e1 i hi]
    rw [List.length_take] at hi
    exact h.1 i (by omega)
  · rw [e1 i hi]
    rw [List.length_take] at hi
    have : i * s + j < k * s := idx_lt (by omega) hj
    rw [List.getD_eq_getElem?_getD, List.getElem?_take_of_lt this, ← List.getD_eq_getElem?_getD]
    exact h.2 i j (by omega) hj
theorem KnownAt.of_take {F : Nat → Prop} {w : World} {s k : Nat} {L : List Value} {cs : List (List D)} (h : KnownAt F w s L cs) : KnownAt F w s L (cs.take k) := by
  have e1 : ∀ i, i < (cs.take k).length → (cs.take k).getD i [] = cs.getD i [] := fun i hi => by
    rw [List.length_take] at hi
    rw [List.getD_eq_getElem?_getD, List.getD_eq_getElem?_getD, List.getElem?_take_of_lt (by omega)]
  refine ⟨fun i hi => ?_, fun i j hi hj => ?_⟩
  · rw [e1 i hi]
    rw [List.length_take] at hi
    exact h.1 i (by omega)
  · rw [e1 i hi]
    rw [List.length_take] at hi
    exact h.2 i j (by omega) hj
theorem KnownAt.app {F : Nat → Prop} {w : World} {s : Nat} {L M N : List Value} {cs ds : List (List D)} (h : KnownAt F w s L cs) (k : KnownAt F w s M ds) (hl : L.length = cs.length * s) (hm : M.length = ds.length * s) : KnownAt F w s (L ++ (M ++ N)) (cs ++ ds) := by
  have hlen : (L ++ (M ++ N)).length = L.length + (M.length + N.length) := by rw [List.length_append, List.length_append]
  have e1 : (L ++ (M ++ N)).take (cs.length * s) = L := by rw [← hl]; exact List.take_left
  have e2 : (L ++ (M ++ N)).drop (cs.length * s + M.length) = N := by rw [← hl, ← List.drop_drop, List.drop_left, List.drop_left]
  have e3 : cs.take cs.length = cs := List.take_length
  have e4 : cs.drop (cs.length + ds.length) = [] := List.drop_eq_nil_of_le (by omega)
  have := KnownAt.put (p := cs.length) (L := L ++ (M ++ N)) (news := M) (cs := cs) (xs := ds) ⟨h.1, fun i j hi hj => ?_⟩ k hm (Nat.le_refl _) (by omega) (by omega)
  · rw [e1, e2, e3, e4, List.append_nil] at this
    exact this
  · have := idx_lt hi hj
    rw [List.getD_eq_getElem?_getD, List.getElem?_append_left (by omega), ← List.getD_eq_getElem?_getD]
    exact h.2 i j hi hj
theorem known_zeros {F : Nat → Prop} {w : World} {s k : Nat} {z : Array Value} {zd : List D} (hs0 : 0 < s) (hz : CellsRep (fun _ => False) (fun _ => none) w z.toList zd) (hsz : z.size = s) (hn : zd.all noH0 = true) (N : List Value) :
    KnownAt F w s ((Builtin.zeroCells z k).toList ++ N) (List.replicate k zd) := by
  have hzl : zd.length = s := by have := hz.1; simp at this; omega
  have e0 : ∀ i, i < k → (List.replicate k zd).getD i [] = zd := fun i hi => by simp [List.getD_eq_getElem?_getD, hi]
  refine ⟨fun i hi => ?_, fun i j hi hj => ?_⟩
  · rw [List.length_replicate] at hi
    rw [e0 i hi, hzl]
  · rw [List.length_replicate] at hi
    have hlt := idx_lt hi hj
    have hm : (i * s + j) % s = j := by rw [Nat.mul_comm, Nat.mul_add_mod, Nat.mod_eq_of_lt hj]
    have e1 : ((Builtin.zeroCells z k).toList ++ N).getD (i * s + j) undef = z.toList.getD j undef := by
      have hsize : (Builtin.zeroCells z k).size = k * s := by simp [Builtin.zeroCells, hsz]
      rw [List.getD_eq_getElem?_getD, List.getElem?_append_left (by simpa [hsize] using hlt), Array.getElem?_toList]
      have : (Builtin.zeroCells z k)[i * s + j]? = some z[j]! := by
        simp [Builtin.zeroCells, hsz, hlt, hm]
      rw [this]
      have hj' : j < z.size := by omega
      simp [hj']
    rw [e1, e0 i hi]
    exact ⟨hz.2.1 _ (getD_mem (by simp; omega)), ((hz.2.2 j (by omega)).noH0 (List.all_eq_true.1 hn _ (getD_mem (by omega)))).mono (fun b hb => hb.elim)⟩
end Go.Eng
