/-
  The closure by which words are sorted, walked: it compares what a map holds at two words, then the words.
  No conditions.
-/
import Derived.Test.YtbpbhjlochijdaaDoorProg
import Derived.Test.YtbpbhjlochijdaaDoorED
import Derived.Test.YtbpbhjlochijdaaDoorShelf3
import Derived.Maps.OwnOps
import Derived.StringKeys
import Derived.WalkKit
import Derived.Lib.Small
import Derived.Lib.Walk
import Derived.Sort.Grow
set_option linter.unusedVariables false
set_option linter.unusedSimpArgs false
namespace Go.Eng
open Go Go.RowKit Go.Proofs Go.Maps Go.WideMaps
set_option maxRecDepth 100000
theorem k_isNaNI (x : Int) (w : World) : Calls Tryd.prog 72 #[.int .i64 x] w fun e w' => e = .returned (.bool false) ∧ w' = w := by
  go_enter Tryd.func72, Tryd.ntmps72
  go_wp2
  go_ret
  exact ⟨by simp, rfl⟩
theorem k_isNaNS (x : ByteArray) (w : World) : Calls Tryd.prog 73 #[.string x] w fun e w' => e = .returned (.bool false) ∧ w' = w := by
  go_enter Tryd.func73, Tryd.ntmps73
  go_wp2
  go_ret
  exact ⟨by simp, rfl⟩
theorem k_CompareI (x y : Int) (w : World) : Calls Tryd.prog 42 #[.int .i64 x, .int .i64 y] w fun e w' => e = .returned (.int .i64 (Lib.compareInt x y)) ∧ w' = w := by
  go_enter Tryd.func42, Tryd.ntmps42
  go_wp2_with (go_at_call 72; refine (k_isNaNI _ _).mono ?_; rintro e w' ⟨rfl, hw⟩; rw [hw])
  all_goals (go_ret; refine ⟨?_, rfl⟩; unfold Lib.compareInt; (repeat' split) <;> first | rfl | (exfalso; omega))
theorem k_gtr (x y : List UInt8) (w : World) : (binOp .gtr 9 (.string ⟨x.toArray⟩) (.string ⟨y.toArray⟩)).run Tryd.prog w = .ok (.bool (!(Op.bytesLess x y || x == y))) w := by
  simp [binOp, Op.stringOp, ba_toList]
theorem k_CompareS (x y : List UInt8) (w : World) : Calls Tryd.prog 43 #[.string ⟨x.toArray⟩, .string ⟨y.toArray⟩] w fun e w' => e = .returned (.int .i64 (Lib.compareBytes x y)) ∧ w' = w := by
  have kg := k_gtr x y
  have hc := cmp_less x y
  go_enter Tryd.func43, Tryd.ntmps43
  go_wp2_with (go_at_call 73; refine (k_isNaNS _ _).mono ?_; rintro e w' ⟨rfl, hw⟩; rw [hw])
  all_goals (go_ret; refine ⟨?_, rfl⟩; rw [hc]; simp_all)
/-- Which of two words is ahead: what a map holds at them, then the words themselves. -/
def cfW (f : List UInt8 → Int) (x y : List UInt8) : Int := if Lib.compareInt (f y) (f x) = 0 then Lib.compareBytes x y else Lib.compareInt (f y) (f x)
theorem k_Or1 (a b : Int) (ha : a ≠ 0) (g : Nat) (w : World) (h0 : w.cell? ⟨g, 0, none⟩ = some (.int .i64 a)) : Calls Tryd.prog 41 #[.slice (some ⟨g, 0, none⟩) 2 2] w fun e w' => e = .returned (.int .i64 a) ∧ w' = w := by
  have hne : (a != 0) = true := by simpa using ha
  go_enter Tryd.func41, Tryd.ntmps41
  go_wp2
  refine wp_loop_rounds 2 ?_
  rw [rounds_succ]
  go_wp2
  go_ret
  exact ⟨rfl, rfl⟩
theorem k_Or2 (b : Int) (hb : b ≠ 0) (g : Nat) (w : World) (h0 : w.cell? ⟨g, 0, none⟩ = some (.int .i64 0)) (h1 : w.cell? ⟨g, 1, none⟩ = some (.int .i64 b)) : Calls Tryd.prog 41 #[.slice (some ⟨g, 0, none⟩) 2 2] w fun e w' => e = .returned (.int .i64 b) ∧ w' = w := by
  have hne : (b != 0) = true := by simpa using hb
  go_enter Tryd.func41, Tryd.ntmps41
  go_wp2
  refine wp_loop_rounds 3 ?_
  rw [rounds_succ]
  go_wp2
  rw [rounds_succ]
  go_wp2
  go_ret
  exact ⟨rfl, rfl⟩
theorem k_Or3 (g : Nat) (w : World) (h0 : w.cell? ⟨g, 0, none⟩ = some (.int .i64 0)) (h1 : w.cell? ⟨g, 1, none⟩ = some (.int .i64 0)) : Calls Tryd.prog 41 #[.slice (some ⟨g, 0, none⟩) 2 2] w fun e w' => e = .returned (.int .i64 0) ∧ w' = w := by
  go_enter Tryd.func41, Tryd.ntmps41
  go_wp2
  refine wp_loop_rounds 4 ?_
  rw [rounds_succ]
  go_wp2
  rw [rounds_succ]
  go_wp2
  rw [rounds_succ]
  go_wp2
  go_ret
  exact ⟨rfl, rfl⟩
theorem k_Or (a b : Int) (g : Nat) (w : World) (h0 : w.cell? ⟨g, 0, none⟩ = some (.int .i64 a)) (h1 : w.cell? ⟨g, 1, none⟩ = some (.int .i64 b)) : Calls Tryd.prog 41 #[.slice (some ⟨g, 0, none⟩) 2 2] w fun e w' => e = .returned (.int .i64 (if a = 0 then b else a)) ∧ w' = w := by
  by_cases ha : a = 0
  · subst ha
    rw [if_pos rfl]
    by_cases hb : b = 0
    · subst hb
      exact k_Or3 g w h0 h1
    · exact k_Or2 b hb g w h0 h1
  · rw [if_neg ha]
    exact k_Or1 a b ha g w h0
theorem k_law : Keyed Tryd.prog 9 := string_keyed Tryd.underlying9
theorem k_zero (w : World) : (zeroValue 3).run Tryd.prog w = .ok (.int .i64 0) w := by kernel_rfl
theorem atKey_one {D : DataW Unit} {l : Lit} {c d : Int} (h : D.atKey l (.lit (.int .i64 0)) = .lit (.int .i64 c)) (k : D.atKey l (.lit (.int .i64 0)) = .lit (.int .i64 d)) : c = d := by
  rw [h] at k
  injection k with k
  injection k with _ k
theorem key_of (x : List UInt8) (hx : x.length ≤ maxLen) : keyOf Tryd.prog 9 (.string ⟨x.toArray⟩) = some (.string x) := by
  have h := keyOf_string_mk (P := Tryd.prog) Tryd.underlying9 (s := ⟨x.toArray⟩) (by simpa [ByteArray.size] using hx)
  simpa using h
theorem cell_two (W : World) (a b : Value) (T : TypeId) : (W.alloc (.cells #[a, b] T)).cell? ⟨W.heap.size, 0, none⟩ = some a ∧ (W.alloc (.cells #[a, b] T)).cell? ⟨W.heap.size, 1, none⟩ = some b := by
  have h : (W.alloc (.cells #[a, b] T)).heap[W.heap.size]? = some (.cells #[a, b] T) := heap_alloc_new W _
  constructor
  · unfold World.cell?
    simp only [h]
    rfl
  · unfold World.cell?
    simp only [h]
    rfl
theorem alloc_grow (W : World) (o : Go.Obj) : W.alloc o = Go.Sort.grow (W.drewN 0) #[o] := by
  show ({ W with heap := W.heap.push o } : World) = { W.drewN 0 with heap := (W.drewN 0).heap ++ #[o] }
  simp [World.drewN]
theorem k_closure (x y : List UInt8) (hx : x.length ≤ maxLen) (hy : y.length ≤ maxLen) (W : World) (pb mb n : Nat) (T : TypeId) (z : Nat × Nat) (D : DataW Unit) (f : List UInt8 → Int) (hp : W.heap[pb]? = some (.cells #[.map (some mb)] T z))
    (hown : W.ownsMap Tryd.prog 9 (plainElem Tryd.prog 3) mb n D) (hat : ∀ l : List UInt8, D.atKey (.string l) (.lit (.int .i64 0)) = .lit (.int .i64 (f l))) :
    Calls Tryd.prog 40 #[.string ⟨x.toArray⟩, .string ⟨y.toArray⟩, .pointer (some ⟨pb, 0, none⟩)] W fun e w' => e = .returned (.int .i64 (cfW f x y)) ∧ ∃ q os', w' = Go.Sort.grow (W.drewN q) os' := by
  have hkx := key_of x hx
  have hky := key_of y hy
  have hcell : W.cell? ⟨pb, 0, none⟩ = some (.map (some mb)) := by simp [World.cell?, hp]
  go_enter Tryd.func40, Tryd.ntmps40
  go_wp2_with (first
    | (at_lookup; refine wpList_lookup_own_int _ rfl _ _ 69 rfl 9 3 .i64 k_law Tryd.underlying69 Tryd.underlying3 (k_zero _) mb n D rfl hown _ _ rfl hky ?_; intro c hc _; obtain rfl := atKey_one hc (hat y))
    | (at_lookup; refine wpList_lookup_own_int _ rfl _ _ 69 rfl 9 3 .i64 k_law Tryd.underlying69 Tryd.underlying3 (k_zero _) mb n D rfl hown _ _ rfl hkx ?_; intro c hc _; obtain rfl := atKey_one hc (hat x))
    | (go_at_call 42; refine (k_CompareI _ _ _).mono ?_; rintro e w' ⟨rfl, hw⟩; rw [hw])
    | (go_at_call 43; refine (k_CompareS x y _).mono ?_; rintro e w' ⟨rfl, hw⟩; rw [hw])
    | (go_at_call 41; refine (k_Or _ _ W.heap.size _ (cell_two W _ _ _).1 (cell_two W _ _ _).2).mono ?_; rintro e w' ⟨rfl, hw⟩; rw [hw]))
  all_goals
    go_ret
    refine ⟨?_, 0, _, alloc_grow W _⟩
    unfold cfW
    first
      | (rw [if_pos (by assumption)]; rfl)
      | (rw [if_neg (by assumption)]; rfl)
end Go.Eng
