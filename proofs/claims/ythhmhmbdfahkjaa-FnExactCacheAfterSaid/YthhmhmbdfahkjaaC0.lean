/-
  A cache of files, in plain words: which file leaves it, what a use makes of it.
  No conditions.
-/
import Derived.Test.YthhmhmbdfahkjaaEC
namespace Go.Eng
abbrev SB := List UInt8
section
variable (sz : SB → Int)
def sumZ : List SB → Int
  | [] => 0
  | x :: r => sz x + sumZ r
def okZ (l : List SB) : Prop := ∀ x ∈ l, 1 ≤ sz x ∧ sz x ≤ 100000
def era (l : List SB) (i : Nat) : List SB := l.take i ++ l.drop (i + 1)
def nx (rest : List SB) (x : SB) : Nat := firstAt (fun y => y == x) rest
/-- The place of the first among the first k whose next use is farthest away. -/
def far (rest l : List SB) : Nat → Nat
  | 0 => 0
  | k + 1 => if nx rest (l.getD (far rest l k) []) < nx rest (l.getD k []) then k else far rest l k
def vic (pol : Int) (rest l : List SB) : Nat := if pol = 3 then far rest l l.length else 0
def evict (cap size pol : Int) (rest : List SB) : Nat → List SB → List SB
  | 0, l => l
  | n + 1, l => if cap < sumZ sz l + size then evict cap size pol rest n (era l (vic pol rest l)) else l
def evF (cap size pol : Int) (rest l : List SB) : List SB := evict sz cap size pol rest l.length l
/-- One use: the cache and the number of misses. -/
def useOne (cap pol : Int) (rest : List SB) (s : List SB × Nat) (x : SB) : List SB × Nat :=
  if nx s.1 x < s.1.length then (if pol = 2 then (era s.1 (nx s.1 x) ++ [x], s.2) else s)
  else if cap < sz x then (s.1, s.2 + 1) else (evF sz cap (sz x) pol rest s.1 ++ [x], s.2 + 1)
def useTo (cap pol : Int) (uses : List SB) : Nat → List SB × Nat
  | 0 => ([], 0)
  | k + 1 => match uses[k]? with
    | some x => useOne sz cap pol (uses.drop (k + 1)) (useTo cap pol uses k) x
    | none => useTo cap pol uses k
end
section
variable {sz : SB → Int}
theorem sumZ_append (l r : List SB) : sumZ sz (l ++ r) = sumZ sz l + sumZ sz r := by
  induction l with
  | nil => simp [sumZ]
  | cons x l ih => rw [List.cons_append, sumZ, sumZ, ih]; omega
theorem sumZ_snoc (l : List SB) (x : SB) : sumZ sz (l ++ [x]) = sumZ sz l + sz x := by
  rw [sumZ_append]; simp [sumZ]
theorem sumZ_take {l : List SB} {k : Nat} {x : SB} (h : l[k]? = some x) : sumZ sz (l.take (k + 1)) = sumZ sz (l.take k) + sz x := by
  rw [List.take_add_one, h]; exact sumZ_snoc _ _
theorem split_at {l : List SB} {k : Nat} {x : SB} (h : l[k]? = some x) : l = l.take k ++ x :: l.drop (k + 1) := by
  have hk : k < l.length := by
    rcases Nat.lt_or_ge k l.length with h1 | h1
    · exact h1
    · rw [List.getElem?_eq_none h1] at h; cases h
  have he : l[k] = x := by rw [List.getElem?_eq_getElem hk] at h; exact Option.some.inj h
  rw [← he, ← List.drop_eq_getElem_cons hk, List.take_append_drop]
theorem sumZ_era {l : List SB} {k : Nat} {x : SB} (h : l[k]? = some x) : sumZ sz (era l k) = sumZ sz l - sz x := by
  have h1 := congrArg (sumZ sz) (split_at h)
  rw [sumZ_append, sumZ] at h1
  rw [era, sumZ_append]; omega
theorem sumZ_bound {l : List SB} (h : okZ sz l) : 0 ≤ sumZ sz l ∧ sumZ sz l ≤ 100000 * l.length := by
  induction l with
  | nil => simp [sumZ]
  | cons x l ih =>
    have h1 := h x (by simp)
    have h2 := ih (fun y hy => h y (by simp [hy]))
    rw [sumZ, List.length_cons]; omega
theorem okZ_take {l : List SB} (h : okZ sz l) (k : Nat) : okZ sz (l.take k) := fun x hx => h x (List.mem_of_mem_take hx)
theorem okZ_era {l : List SB} (h : okZ sz l) (k : Nat) : okZ sz (era l k) := fun x hx => by
  rcases List.mem_append.1 hx with h1 | h1
  · exact h x (List.mem_of_mem_take h1)
  · exact h x (List.mem_of_mem_drop h1)
theorem okZ_snoc {l : List SB} (h : okZ sz l) {x : SB} (hx : 1 ≤ sz x ∧ sz x ≤ 100000) : okZ sz (l ++ [x]) := fun y hy => by
  rcases List.mem_append.1 hy with h1 | h1
  · exact h y h1
  · have : y = x := by simpa using h1
    rw [this]; exact hx
theorem era_length {l : List SB} {k : Nat} (h : k < l.length) : (era l k).length = l.length - 1 := by
  simp only [era, List.length_append, List.length_take, List.length_drop]; omega
theorem nx_le (rest : List SB) (x : SB) : nx rest x ≤ rest.length := firstAt_le _ _
theorem far_lt (rest l : List SB) : ∀ k, 0 < k → far rest l k < k
  | 0, h => absurd h (by omega)
  | k + 1, _ => by
    rw [far]
    split
    · omega
    · have h2 : k = 0 ∨ 0 < k := by omega
      rcases h2 with rfl | h2
      · simp [far]
      · have := far_lt rest l k h2; omega
theorem far_le (rest l : List SB) (k : Nat) : far rest l k ≤ k := by
  rcases Nat.eq_zero_or_pos k with rfl | h
  · simp [far]
  · exact Nat.le_of_lt (far_lt rest l k h)
theorem far_top {rest l : List SB} {k : Nat} (h : nx rest (l.getD (far rest l k) []) = rest.length) : ∀ j, far rest l (k + j) = far rest l k
  | 0 => rfl
  | j + 1 => by
    have ih := far_top h j
    rw [← Nat.add_assoc, far, ih, h, if_neg (Nat.not_lt.2 (nx_le _ _))]
theorem vic_lt {pol : Int} {rest l : List SB} (h : 0 < l.length) : vic pol rest l < l.length := by
  unfold vic
  split
  · exact far_lt rest l _ h
  · exact h
theorem evF_done {cap size pol : Int} {rest l : List SB} (h : ¬ cap < sumZ sz l + size) : evF sz cap size pol rest l = l := by
  unfold evF
  cases hl : l.length with
  | zero => rfl
  | succ n => rw [evict, if_neg h]
theorem over_pos {cap size : Int} {l : List SB} (hs : size ≤ cap) (h : cap < sumZ sz l + size) : 0 < l.length := by
  cases l with
  | nil => rw [sumZ] at h; omega
  | cons x l => simp
theorem evF_over {cap size pol : Int} {rest l : List SB} (hs : size ≤ cap) (h : cap < sumZ sz l + size) : evF sz cap size pol rest l = evF sz cap size pol rest (era l (vic pol rest l)) := by
  have h0 := over_pos hs h
  have h1 := era_length (vic_lt (pol := pol) (rest := rest) h0)
  unfold evF
  rw [h1]
  cases hl : l.length with
  | zero => omega
  | succ n => rw [evict, if_pos h]; rfl
theorem evict_ok {cap size pol : Int} {rest : List SB} : ∀ (n : Nat) {l : List SB}, okZ sz l → okZ sz (evict sz cap size pol rest n l) ∧ (evict sz cap size pol rest n l).length ≤ l.length
  | 0, l, h => ⟨h, Nat.le_refl _⟩
  | n + 1, l, h => by
    rw [evict]
    split
    · have h1 := evict_ok (cap := cap) (size := size) (pol := pol) (rest := rest) n (l := era l (vic pol rest l)) (okZ_era h _)
      refine ⟨h1.1, Nat.le_trans h1.2 ?_⟩
      simp only [era, List.length_append, List.length_take, List.length_drop]; omega
    · exact ⟨h, Nat.le_refl _⟩
theorem useOne_ok {cap pol : Int} {rest : List SB} {s : List SB × Nat} {x : SB} (h : okZ sz s.1) (hx : 1 ≤ sz x ∧ sz x ≤ 100000) :
    okZ sz (useOne sz cap pol rest s x).1 ∧ (useOne sz cap pol rest s x).1.length ≤ s.1.length + 1 ∧ (useOne sz cap pol rest s x).2 ≤ s.2 + 1 := by
  unfold useOne
  split
  · rename_i h1
    split
    · refine ⟨okZ_snoc (okZ_era h _) hx, ?_, by simp⟩
      rw [List.length_append, era_length h1]; simp only [List.length_cons, List.length_nil]; omega
    · exact ⟨h, by omega, by omega⟩
  · split
    · exact ⟨h, by simp, by simp⟩
    · have h1 := evict_ok (cap := cap) (size := sz x) (pol := pol) (rest := rest) s.1.length h
      refine ⟨okZ_snoc h1.1 hx, ?_, by simp⟩
      have h2 := h1.2
      unfold evF
      simp only [List.length_append, List.length_cons, List.length_nil]; omega
theorem useTo_ok {cap pol : Int} {uses : List SB} (h : okZ sz uses) : ∀ k, okZ sz (useTo sz cap pol uses k).1 ∧ (useTo sz cap pol uses k).1.length ≤ k ∧ (useTo sz cap pol uses k).2 ≤ k
  | 0 => ⟨fun x hx => (by cases hx), by simp [useTo], by simp [useTo]⟩
  | k + 1 => by
    obtain ⟨h1, h2, h3⟩ := useTo_ok (cap := cap) (pol := pol) h k
    rw [useTo]
    split
    · rename_i x hx
      have hm := h x (List.mem_of_getElem? hx)
      obtain ⟨g1, g2, g3⟩ := useOne_ok (cap := cap) (pol := pol) (rest := uses.drop (k + 1)) h1 hm
      exact ⟨g1, by omega, by omega⟩
    · exact ⟨h1, by omega, by omega⟩
theorem useTo_step {cap pol : Int} {uses : List SB} {k : Nat} {x : SB} (hx : uses[k]? = some x) : useTo sz cap pol uses (k + 1) = useOne sz cap pol (uses.drop (k + 1)) (useTo sz cap pol uses k) x := by
  rw [useTo, hx]
end
end Go.Eng
