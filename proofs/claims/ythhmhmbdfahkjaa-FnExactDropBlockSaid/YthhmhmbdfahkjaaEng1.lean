/-
  The engine, first part. Values as data (D), how a value of the model reads as data (RO, Rep), what an object of the call's own is (Obj, Own), and the relation between a data state and a machine state (Rel).
  No conditions. Nothing here speaks of a program.
-/
import Derived.WalkKit
import Derived.Below
import Derived.Laws.OwnMore
import Derived.StillTail
import Derived.ProofKit
namespace Go.Eng
open Go Go.RowKit

/-- Values as data. -/
inductive D where
  | junk
  | int (k : IntKind) (n : Int)
  | bool (b : Bool)
  | str (l : List UInt8)
  | v (x : Value)
  | agg (cs : List D)
  | sl (s : Nat) (es : List (List D))
  | rp (cs : List D)
  | h (o : Nat)
  | hp (o : Nat) (off : Nat)
  | hr (o : Nat) (s : Nat) (i : Nat) (off : Nat)
  | hs (o : Nat) (s : Nat) (a b : Nat)
  | tup (ds : List D)
  | clo (f : Fn) (ds : List D)

instance : Inhabited D := ⟨.junk⟩

/-- A value reads as data in memory that nobody writes: the blocks of F. -/
inductive RO (F : Nat → Prop) (w : World) : Value → D → Prop
  | junk (x : Value) : RO F w x .junk
  | int (k : IntKind) (n : Int) : RO F w (.int k n) (.int k n)
  | bool (b : Bool) : RO F w (.bool b) (.bool b)
  | str (l : List UInt8) (hl : l.length ≤ maxLen) : RO F w (.string ⟨l.toArray⟩) (.str l)
  | v (x : Value) : RO F w x (.v x)
  | agg (cs : List Value) (ds : List D) (hl : cs.length = ds.length) (h1 : ∀ u ∈ cs, u.oneCell' = true)
      (h : ∀ i, i < ds.length → RO F w (cs.getD i undef) (ds.getD i .junk)) : RO F w (.agg cs.toArray) (.agg ds)
  | tup (cs : List Value) (ds : List D) (hl : cs.length = ds.length)
      (h : ∀ i, i < ds.length → RO F w (cs.getD i undef) (ds.getD i .junk)) : RO F w (.tuple cs.toArray) (.tup ds)
  | clo (f : Fn) (cs : List Value) (ds : List D) (hl : cs.length = ds.length)
      (h : ∀ i, i < ds.length → RO F w (cs.getD i undef) (ds.getD i .junk)) : RO F w (.func f #[] cs.toArray) (.clo f ds)
  | slnil (s : Nat) (a : Option Addr) (cap : Nat) : RO F w (.slice a 0 cap) (.sl s [])
  | sl (s : Nat) (es : List (List D)) (b off len cap : Nat) (c : Nat → Nat → Value) (hlen : len = es.length) (hF : F b) (hcap : len ≤ cap) (hm : cap ≤ maxLen)
      (hs : ∀ i, i < es.length → (es.getD i []).length = s)
      (hc : ∀ i j, i < es.length → j < s → w.cell? ⟨b, off + i * s + j, none⟩ = some (c i j) ∧ (c i j).oneCell' = true)
      (hr : ∀ i j, i < es.length → j < s → RO F w (c i j) ((es.getD i []).getD j .junk)) : RO F w (.slice (some ⟨b, off, none⟩) len cap) (.sl s es)
  | rp (cs : List D) (b off : Nat) (c : Nat → Value) (hF : F b)
      (hc : ∀ j, j < cs.length → w.cell? ⟨b, off + j, none⟩ = some (c j) ∧ (c j).oneCell' = true)
      (hr : ∀ j, j < cs.length → RO F w (c j) (cs.getD j .junk)) : RO F w (.pointer (some ⟨b, off, none⟩)) (.rp cs)

theorem cell?_heap {w w' : World} {a : Addr} (h : w'.heap[a.block]? = w.heap[a.block]?) : w'.cell? a = w.cell? a := World.cell?_of_block h

theorem RO.mono {F F' : Nat → Prop} {w w' : World} (hF : ∀ b, F b → F' b ∧ w'.heap[b]? = w.heap[b]?) {v : Value} {d : D} (h : RO F w v d) : RO F' w' v d := by
  induction h with
  | junk x => exact .junk x
  | int k n => exact .int k n
  | bool b => exact .bool b
  | str l hl => exact .str l hl
  | v x => exact .v x
  | agg cs ds hl h1 _ ih => exact .agg cs ds hl h1 ih
  | tup cs ds hl _ ih => exact .tup cs ds hl ih
  | clo f cs ds hl _ ih => exact .clo f cs ds hl ih
  | slnil s a cap => exact .slnil s a cap
  | sl s es b off len cap c hlen hb hcap hm hs hc _ ih =>
    exact .sl s es b off len cap c hlen (hF b hb).1 hcap hm hs (fun i j hi hj => by rw [cell?_heap (hF b hb).2]; exact hc i j hi hj) ih
  | rp cs b off c hb hc _ ih =>
    exact .rp cs b off c (hF b hb).1 (fun j hj => by rw [cell?_heap (hF b hb).2]; exact hc j hj) ih

/-- A package variable's block: its cells, all of them, as data. -/
def GlobOK (F : Nat → Prop) (w : World) (g : Nat) (cs : List D) : Prop :=
  RO F w (.pointer (some ⟨g, 0, none⟩)) (.rp cs) ∧ F g ∧ ∃ c T fr, w.heap[g]? = some (.cells c T fr) ∧ c.size = cs.length
theorem GlobOK.mono {F F' : Nat → Prop} {w w' : World} {g : Nat} {cs : List D} (h : GlobOK F w g cs) (hF : ∀ b, F b → F' b ∧ w'.heap[b]? = w.heap[b]?) : GlobOK F' w' g cs := by
  obtain ⟨h1, h2, c, T, fr, h3, h4⟩ := h
  exact ⟨h1.mono hF, (hF g h2).1, c, T, fr, by rw [(hF g h2).2]; exact h3, h4⟩

/-- The block that a value leads to. -/
def blk : Value → Option Nat
  | .slice (some a) _ _ => some a.block
  | .pointer (some a) => some a.block
  | _ => none

/-- The elements from a to b of a slice x, as a slice. -/
def Sub (s a b : Nat) (x v : Value) : Prop := ∃ p len cap q, x = .slice p len cap ∧ a ≤ b ∧ b ≤ cap ∧ len ≤ cap ∧ v = .slice q (b - a) (cap - a) ∧ (a < cap ∨ a = 0 → q = p.map (·.add (a * s)))

/-- The same, with handles: what β says of an object of the call's own. -/
inductive Rep (F : Nat → Prop) (β : Nat → Option Value) (w : World) : Value → D → Prop
  | ro (x : Value) (d : D) (h : RO F w x d) : Rep F β w x d
  | h (o : Nat) (x : Value) (h : β o = some x) : Rep F β w x (.h o)
  | hp (o off b : Nat) (x : Value) (h : β o = some x) (hb : blk x = some b) : Rep F β w (.pointer (some ⟨b, off, none⟩)) (.hp o off)
  | hr (o s i off b : Nat) (x : Value) (h : β o = some x) (hb : blk x = some b) : Rep F β w (.pointer (some ⟨b, i * s + off, none⟩)) (.hr o s i off)
  | hs (o s a b : Nat) (x v : Value) (h : β o = some x) (hv : Sub s a b x v) : Rep F β w v (.hs o s a b)
  | agg (cs : List Value) (ds : List D) (hl : cs.length = ds.length) (h1 : ∀ u ∈ cs, u.oneCell' = true)
      (h : ∀ i, i < ds.length → Rep F β w (cs.getD i undef) (ds.getD i .junk)) : Rep F β w (.agg cs.toArray) (.agg ds)
  | tup (cs : List Value) (ds : List D) (hl : cs.length = ds.length)
      (h : ∀ i, i < ds.length → Rep F β w (cs.getD i undef) (ds.getD i .junk)) : Rep F β w (.tuple cs.toArray) (.tup ds)
  | clo (f : Fn) (cs : List Value) (ds : List D) (hl : cs.length = ds.length)
      (h : ∀ i, i < ds.length → Rep F β w (cs.getD i undef) (ds.getD i .junk)) : Rep F β w (.func f #[] cs.toArray) (.clo f ds)
end Go.Eng
