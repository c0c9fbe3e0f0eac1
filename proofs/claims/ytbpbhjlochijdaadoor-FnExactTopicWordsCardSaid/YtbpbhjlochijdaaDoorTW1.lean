/-
  slices.SortFunc at words and at a closure that reads a map.
  No conditions.
-/
import Derived.Test.YtbpbhjlochijdaaDoorTW0
import Derived.Test.YtbpbhjlochijdaaDoorTWK
import Derived.Test.YtbpbhjlochijdaaDoorWA
set_option linter.unusedVariables false
set_option linter.unusedSimpArgs false
namespace Go.Eng
open Go Go.RowKit Go.Proofs
set_option maxRecDepth 100000
/-- A word that is a string of Go. -/
abbrev WordG := {l : List UInt8 // l.length ≤ maxLen}
instance : Inhabited WordG := ⟨⟨[], Nat.zero_le _⟩⟩
def encG (x : WordG) : Value := encStr x.1
theorem putRow_atG {w : World} {g n : Nat} {cur : Array Value} {e : TypeId} {fr : Nat × Nat} {d : Array WordG} {os : Array Go.Obj} (hg : w.heap[g]? = some (.cells cur e fr)) :
    (Go.Sort.grow (Go.Sort.putRow encG (Go.Sort.ahead w n) g 0 d) os).heap[g]? = some (.cells (Go.Sort.putCells encG 0 d cur) e fr) := by
  have hlt : g < w.heap.size := (Array.getElem?_eq_some_iff.1 hg).1
  rw [Go.Sort.heap_grow_old _ _ (by rw [Go.Sort.size_putRow]; exact hlt)]
  show (w.heap.modify g (Go.Sort.onCells (Go.Sort.putCells encG 0 d)))[g]? = _
  rw [Array.getElem?_modify, if_pos rfl, hg]
  rfl
theorem putRow_grownG {w : World} {g n : Nat} {d : Array WordG} {os : Array Go.Obj} : w.grownBy (Go.Sort.grow (Go.Sort.putRow encG (Go.Sort.ahead w n) g 0 d) os) (some g) := by
  refine ⟨rfl, rfl, rfl, ?_, fun k hk hne => ?_⟩
  · rw [Go.Sort.size_grow, Go.Sort.size_putRow]
    exact Nat.le_add_right _ _
  · rw [Go.Sort.heap_grow_old _ _ (by rw [Go.Sort.size_putRow]; exact hk)]
    show (w.heap.modify g (Go.Sort.onCells (Go.Sort.putCells encG 0 d)))[k]? = _
    rw [Array.getElem?_modify, if_neg (fun e => hne (by rw [e]))]
theorem putCells_atG {d : Array WordG} {cur : Array Value} {i : Nat} {t : WordG} (hi : i < cur.size) (h : d[i]? = some t) : (Go.Sort.putCells encG 0 d cur)[i]? = some (encG t) := by
  have hd := (Array.getElem?_eq_some_iff.1 h)
  unfold Go.Sort.putCells
  rw [Array.getElem?_mapIdx, Array.getElem?_eq_getElem hi, Option.map_some, if_pos ⟨Nat.zero_le _, by have := hd.1; omega⟩]
  congr 2
  rw [Nat.sub_zero, getElem!_pos _ i hd.1, hd.2]
theorem sorted_rowG {F : Nat → Prop} {w : World} {g cap n : Nat} {cur : Array Value} {e : TypeId} {m : List WordG} {os : Array Go.Obj} (hg : w.heap[g]? = some (.cells cur e (0, 0))) (h1 : m.length ≤ cap) (h2 : cap ≤ maxLen) (h3 : cur.size = cap) :
    OwnRow F (Go.Sort.grow (Go.Sort.putRow encG (Go.Sort.ahead w n) g 0 m.toArray) os) e 1 ((m.map (·.1)).map encS) (.slice (some ⟨g, 0, none⟩) m.length cap) := by
  have h := strRow_in (F := F) (l := m.map (·.1)) (cur := Go.Sort.putCells encG 0 m.toArray cur) (putRow_atG (n := n) (os := os) hg) (by simpa using h1) h2 (by simpa [Go.Sort.putCells] using h3) (fun i t ht => by
    rw [List.getElem?_map] at ht
    cases hm : m[i]? with
    | none => rw [hm] at ht; cases ht
    | some q =>
      rw [hm] at ht
      cases ht
      have hi := (List.getElem?_eq_some_iff.1 hm).1
      exact putCells_atG (by omega) (by simpa using hm)) (fun t ht => by
    obtain ⟨q, _, rfl⟩ := List.mem_map.1 ht
    exact q.2)
  rwa [List.length_map] at h
theorem cfW_lt (c : List UInt8 → Nat) (f : List UInt8 → Int) (hf : ∀ l, f l = c l) (x y : List UInt8) : decide (cfW f x y < 0) = ltT c x y := by
  have h1 := cmp_less x y
  unfold cfW ltT
  rw [hf, hf, h1]
  unfold Lib.compareInt
  by_cases h2 : c y < c x
  · simp [h2]
  · by_cases h3 : c x < c y
    · have h4 : ¬ c y = c x := by omega
      simp [h2, h3, h4]
    · have h4 : c y = c x := by omega
      cases h5 : Op.bytesLess x y with
      | true => simp [h4]
      | false =>
        by_cases h6 : x = y
        · subst h6; simp [h4]
        · simp [h4, h6]
theorem swoW (c : List UInt8 → Nat) (f : List UInt8 → Int) (hf : ∀ l, f l = c l) : Go.Sort.SWO (Go.Proofs.ltOf fun x y : WordG => cfW f x.1 y.1) where
  irrefl x := by
    show decide (cfW f x.1 x.1 < 0) = false
    rw [cfW_lt c f hf]; exact ltT_irrefl c _
  trans x y z h k := by
    have h : decide (cfW f x.1 y.1 < 0) = true := h
    have k : decide (cfW f y.1 z.1 < 0) = true := k
    show decide (cfW f x.1 z.1 < 0) = true
    rw [cfW_lt c f hf] at h k ⊢
    exact ltT_trans h k
  ntrans x y z h k := by
    have h : decide (cfW f x.1 y.1 < 0) = false := h
    have k : decide (cfW f y.1 z.1 < 0) = false := k
    show decide (cfW f x.1 z.1 < 0) = false
    rw [cfW_lt c f hf] at h k ⊢
    rw [Bool.eq_false_iff]
    intro q
    cases hyx : ltT c y.1 x.1 with
    | true =>
      have := ltT_trans hyx q
      rw [k] at this; cases this
    | false =>
      have e := ltT_tot h hyx
      rw [e] at q
      rw [k] at q; cases q
end Go.Eng
