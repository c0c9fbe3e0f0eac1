/-
  Texts in order, and each once: what slices.Sort and slices.Compact come to.
  No conditions.
-/
import Derived.Test.YtigdnelbanaieaaGreatDoorRW
import Derived.Test.YtigdnelbanaieaaGreatDoorWF0
import Derived.Test.YtigdnelbanaieaaGreatDoorShelf
import Derived.Test.YtigdnelbanaieaaGreatDoorShelf3
import Derived.Test.YtigdnelbanaieaaGreatDoorP1
set_option linter.unusedVariables false
set_option linter.unusedSimpArgs false
namespace Go.Eng
open Go Go.RowKit Go.Proofs
set_option maxRecDepth 100000
theorem grown_refl (w : World) (x : Option Nat) : w.grownBy w x := ⟨rfl, rfl, rfl, Nat.le_refl _, fun _ _ _ => rfl⟩
theorem grow_nil (w : World) : Go.Sort.grow w #[] = w := by
  simp [Go.Sort.grow]
theorem sorted_row {F : Nat → Prop} {w : World} {g cap n : Nat} {cur : Array Value} {e : TypeId} {l m z : List (List UInt8)} {os : Array Go.Obj} (hg : w.heap[g]? = some (.cells cur e (0, 0))) (h1 : l.length ≤ cap) (h2 : cap ≤ maxLen) (h3 : cur.size = cap) (hm : m.length + z.length = l.length) (h5 : ∀ t ∈ m, t.length ≤ maxLen) :
    OwnRow F (Go.Sort.grow (Go.Sort.putRow encStr (Go.Sort.ahead w n) g 0 (m ++ z).toArray) os) e 1 (m.map encS) (.slice (some ⟨g, 0, none⟩) m.length cap) := by
  refine strRow_in (cur := Go.Sort.putCells encStr 0 (m ++ z).toArray cur) (putRow_at hg) (by omega) h2 (by simpa [Go.Sort.putCells] using h3) (fun i t ht => ?_) h5
  have hi := (List.getElem?_eq_some_iff.1 ht).1
  refine putCells_at (by omega) ?_
  rw [List.getElem?_toArray, List.getElem?_append_left hi]
  exact ht
theorem c_slices_Sort (l : List (List UInt8)) (hl : l.length ≤ 1048576) : FnC Tryz.prog 163 G0 1 [.row 9 1 (l.map encS)] [.h 0] (fun d os => d = .tup [] ∧ os = [.row 9 1 ((l.mergeSort fun x y => decide (x ≤ y)).map encS)]) := by
  refine FnC.of_calls_row (callFunc_enter Tryz.func163 rfl (by decide +kernel)) fun w F x hown hlt => ?_
  obtain ⟨h1, h2, hx | ⟨g, cap, cur, rfl, hg, h3, h4, h5, h6⟩⟩ := strRow_out hown
  · obtain ⟨rfl, rfl⟩ := hx
    refine (Tryz.slices_Sort_string_none none 0 w).mono ?_
    rintro e w' ⟨rfl, rfl⟩
    exact ⟨rfl, grown_refl _ _, by simpa using hown⟩
  · refine (Tryz.slices_Sort_string g 0 cap l w (holds_row hg h6) (hlt g rfl) (by omega)).mono ?_
    rintro e w' ⟨rfl, n, os, rfl⟩
    refine ⟨rfl, putRow_grown, ?_⟩
    have hlen : (l.mergeSort fun x y => decide (x ≤ y)).length = l.length := List.length_mergeSort _
    have h7 := sorted_row (F := F) (n := n) (os := os) (l := l) (m := l.mergeSort fun x y => decide (x ≤ y)) (z := []) hg h3 h4 h5 (by simp) (fun t ht => h1 t (List.mem_mergeSort.1 ht))
    rw [List.append_nil, hlen] at h7
    exact h7
theorem c_slices_Compact (l : List (List UInt8)) (hl : l.length ≤ 1048576) : FnC Tryz.prog 164 G0 0 [.row 9 1 (l.map encS)] [.h 0] (fun d os => d = .h 0 ∧ os = [.row 9 1 ((Lib.compact l).map encS)]) := by
  refine FnC.of_calls_cut (callFunc_enter Tryz.func164 rfl (by decide +kernel)) fun w F x hown hlt => ?_
  obtain ⟨h1, h2, hx | ⟨g, cap, cur, rfl, hg, h3, h4, h5, h6⟩⟩ := strRow_out hown
  · obtain ⟨rfl, rfl⟩ := hx
    refine (Tryz.slices_Compact_string_empty none 0 w).mono ?_
    rintro e w' ⟨rfl, rfl⟩
    exact ⟨_, rfl, grown_refl _ _, by rw [compact_nil]; exact hown, fun b hb => hb⟩
  · refine (Tryz.slices_Compact_string g 0 cap l w (holds_row hg h6) (by omega) h3).mono ?_
    rintro e w' ⟨rfl, q, rfl⟩
    have hle := compact_le l
    rw [← grow_nil (Go.Sort.putRow encStr (Go.Sort.ahead w q) g 0 _)]
    refine ⟨_, rfl, putRow_grown, ?_, fun b hb => hb⟩
    exact sorted_row (F := F) (n := q) (os := #[]) (l := l) (m := Lib.compact l) hg h3 h4 h5 (by simp; omega) (fun t ht => h1 t (compact_sub l t ht))
end Go.Eng
