/-
  Plain laws: the lines of an archive.
  No conditions.
-/
import Derived.Test.YtlkjechbejfnhaaGreatDoorSP0
import Derived.Test.YtlkjechbejfnhaaGreatDoorCR0
import Derived.Test.YtlkjechbejfnhaaGreatDoorBA
import Derived.Lib.ItoaLen
set_option linter.unusedVariables false
set_option linter.unusedSimpArgs false
namespace Go.Eng
open Go Go.RowKit

/-- A text with zeros ahead, of five bytes at least. -/
def fiveL (l : List UInt8) : List UInt8 := List.replicate (5 - l.length) 48 ++ l
theorem fiveL_step {l : List UInt8} {j : Nat} (h : (List.replicate j (48 : UInt8) ++ l).length < 5) : (48 : UInt8) :: (List.replicate j 48 ++ l) = List.replicate (j + 1) 48 ++ l := rfl
theorem fiveL_end {l : List UInt8} {j : Nat} (h : ¬ (List.replicate j (48 : UInt8) ++ l).length < 5) (hj : j ≤ 5 - l.length) : List.replicate j (48 : UInt8) ++ l = fiveL l := by
  have : j = 5 - l.length := by simp at h; omega
  rw [this]; rfl
def crcT (rest : List UInt8) : List UInt8 := fiveL (Lib.itoa (crcL rest 65535 : Nat))
def restB (b : TBlock) : List UInt8 := b.fKind ++ [32] ++ b.fName ++ [32] ++ b.fText
def lineOf (b : TBlock) : List UInt8 := crcT (restB b) ++ [32] ++ restB b ++ [10]
def headL (n : Nat) : List UInt8 := [97, 114, 99, 104, 105, 118, 101, 32] ++ Lib.itoa n ++ [10]
def saveTo (a : List TBlock) (k : Nat) : List UInt8 := headL a.length ++ ((a.take k).map lineOf).flatten
theorem saveTo_zero (a : List TBlock) : saveTo a 0 = headL a.length := by simp [saveTo]
theorem saveTo_succ {a : List TBlock} {k : Nat} {b : TBlock} (h : a[k]? = some b) : saveTo a (k + 1) = saveTo a k ++ lineOf b := by
  simp [saveTo, List.take_add_one, h]
def noBlk : TBlock := ⟨[], [], []⟩
/-- The block of a line, and a code. -/
def parseB (line : List UInt8) : TBlock × Int :=
  if line.length < 6 ∨ line[5]? ≠ some 32 then (noBlk, 9)
  else if line.take 5 ≠ crcT (line.drop 6) then (noBlk, 10)
  else if (cutTx 32 (cutTx 32 (line.drop 6)).2.1).2.2 = false then (noBlk, 9)
  else if validB ⟨(cutTx 32 (line.drop 6)).1, (cutTx 32 (cutTx 32 (line.drop 6)).2.1).1, (cutTx 32 (cutTx 32 (line.drop 6)).2.1).2.1⟩ = false then (noBlk, 9)
  else (⟨(cutTx 32 (line.drop 6)).1, (cutTx 32 (cutTx 32 (line.drop 6)).2.1).1, (cutTx 32 (cutTx 32 (line.drop 6)).2.1).2.1⟩, 0)
/-- The block of what follows the check value. -/
def parseR (r : List UInt8) : TBlock × Int :=
  if (cutTx 32 (cutTx 32 r).2.1).2.2 = false then (noBlk, 9)
  else if validB ⟨(cutTx 32 r).1, (cutTx 32 (cutTx 32 r).2.1).1, (cutTx 32 (cutTx 32 r).2.1).2.1⟩ = false then (noBlk, 9)
  else (⟨(cutTx 32 r).1, (cutTx 32 (cutTx 32 r).2.1).1, (cutTx 32 (cutTx 32 r).2.1).2.1⟩, 0)
theorem parseB_a {line : List UInt8} (h : line.length < 6 ∨ line[5]? ≠ some 32) : parseB line = (noBlk, 9) := by unfold parseB; rw [if_pos h]
theorem parseB_b {line : List UInt8} (h : ¬ (line.length < 6 ∨ line[5]? ≠ some 32)) (h2 : line.take 5 ≠ crcT (line.drop 6)) : parseB line = (noBlk, 10) := by unfold parseB; rw [if_neg h, if_pos h2]
theorem parseB_c {line : List UInt8} (h : ¬ (line.length < 6 ∨ line[5]? ≠ some 32)) (h2 : line.take 5 = crcT (line.drop 6)) : parseB line = parseR (line.drop 6) := by
  unfold parseB parseR
  rw [if_neg h, if_neg (not_not_intro h2)]
/-- The numbers of the lines from k on that are damaged. -/
def damR : List (List UInt8) → Nat → List Int
  | [], _ => []
  | l :: r, k => if (parseB l).2 = 0 then damR r (k + 1) else ((k : Int) + 1) :: damR r (k + 1)
def damAll (s : List UInt8) : List Int :=
  damR ((splitC 10 s).dropLast.drop 1) 1 ++ (if (splitC 10 s).getLast? = some [] then [] else [((splitC 10 s).dropLast.length : Int) + 1])
theorem damR_ok {L : List (List UInt8)} {k : Nat} {l : List UInt8} (h : L[k]? = some l) (hc : (parseB l).2 = 0) (n : Nat) : damR (L.drop k) n = damR (L.drop (k + 1)) (n + 1) := by
  have hk := (List.getElem?_eq_some_iff.1 h)
  rw [List.drop_eq_getElem_cons hk.1, hk.2, damR, if_pos hc]
theorem damR_bad {L : List (List UInt8)} {k : Nat} {l : List UInt8} (h : L[k]? = some l) (hc : ¬ (parseB l).2 = 0) (n : Nat) : damR (L.drop k) n = ((n : Int) + 1) :: damR (L.drop (k + 1)) (n + 1) := by
  have hk := (List.getElem?_eq_some_iff.1 h)
  rw [List.drop_eq_getElem_cons hk.1, hk.2, damR, if_neg hc]
/-- The blocks of the lines that are not damaged. -/
def salR : List (List UInt8) → List TBlock → List TBlock
  | [], a => a
  | l :: r, a => if (parseB l).2 = 0 then salR r (putB a (parseB l).1) else salR r a
theorem salR_ok {L : List (List UInt8)} {k : Nat} {l : List UInt8} (h : L[k]? = some l) (hc : (parseB l).2 = 0) (a : List TBlock) : salR (L.drop k) a = salR (L.drop (k + 1)) (putB a (parseB l).1) := by
  have hk := (List.getElem?_eq_some_iff.1 h)
  rw [List.drop_eq_getElem_cons hk.1, hk.2, salR, if_pos hc]
theorem salR_bad {L : List (List UInt8)} {k : Nat} {l : List UInt8} (h : L[k]? = some l) (hc : ¬ (parseB l).2 = 0) (a : List TBlock) : salR (L.drop k) a = salR (L.drop (k + 1)) a := by
  have hk := (List.getElem?_eq_some_iff.1 h)
  rw [List.drop_eq_getElem_cons hk.1, hk.2, salR, if_neg hc]
theorem putB_chain {a : List TBlock} (h : chain ltBlk a = true) (t : TBlock) : chain ltBlk (putB a t) = true := by
  unfold putB
  split
  · exact insB_chain h t
  · exact h
theorem putB_le {a : List TBlock} (h : a.length ≤ 32) (t : TBlock) : (putB a t).length ≤ 32 := by
  unfold putB
  split
  · rename_i hr
    rw [roomB_iff h t] at hr
    simpa using hr
  · exact h
def salAll (s : List UInt8) : List TBlock := salR ((splitC 10 s).dropLast.drop 1) []
/-- A block may follow the ones before. -/
def nextOk (a : List TBlock) (b : TBlock) : Bool := match a.getLast? with
  | none => true
  | some x => ltBlk x b
/-- The blocks of lines, or where it fails and the code. -/
def loadR : List (List UInt8) → Nat → List TBlock → (Nat × Int) ⊕ List TBlock
  | [], _, a => .inr a
  | l :: r, k, a => if (parseB l).2 = 0 then (if nextOk a (parseB l).1 = true then loadR r (k + 1) (a ++ [(parseB l).1]) else .inl (k + 1, 7)) else .inl (k + 1, (parseB l).2)
theorem loadR_step {L : List (List UInt8)} {k : Nat} {l : List UInt8} (h : L[k]? = some l) (n : Nat) (a : List TBlock) : loadR (L.drop k) n a = if (parseB l).2 = 0 then (if nextOk a (parseB l).1 = true then loadR (L.drop (k + 1)) (n + 1) (a ++ [(parseB l).1]) else .inl (n + 1, 7)) else .inl (n + 1, (parseB l).2) := by
  have hk := (List.getElem?_eq_some_iff.1 h)
  rw [List.drop_eq_getElem_cons hk.1, hk.2, loadR]
theorem loadR_end {L : List (List UInt8)} {k : Nat} (h : L.length ≤ k) (n : Nat) (a : List TBlock) : loadR (L.drop k) n a = .inr a := by
  rw [List.drop_of_length_le h, loadR]
theorem salR_len : ∀ (L : List (List UInt8)) {a : List TBlock}, a.length ≤ 32 → (salR L a).length ≤ 32
  | [], a, h => h
  | l :: r, a, h => by
    rw [salR]
    split
    · exact salR_len r (putB_le h _)
    · exact salR_len r h
theorem salAll_len (s : List UInt8) : (salAll s).length ≤ 32 := salR_len _ (by simp)
theorem splitC_le (c : UInt8) : ∀ (l : List UInt8), ∀ p ∈ splitC c l, p.length ≤ l.length
  | [], p, h => by
    have : p = [] := by simpa [splitC] using h
    rw [this]
    simp
  | b :: r, p, h => by
    have ih := splitC_le c r
    rw [splitC] at h
    by_cases hb : b = c
    · rw [if_pos hb, List.mem_cons] at h
      rcases h with h | h
      · rw [h]; simp
      · have := ih p h
        simp; omega
    · rw [if_neg hb] at h
      cases hs : splitC c r with
      | nil => exact absurd hs (splitC_ne c r)
      | cons q qs =>
        rw [hs] at h ih
        rcases List.mem_cons.1 h with h | h
        · have := ih q (by simp)
          rw [h]
          simp; omega
        · have := ih p (by simp [h])
          simp; omega
theorem split_last (c : UInt8) (l : List UInt8) : ∃ L z, splitC c l = L ++ [z] := ⟨(splitC c l).dropLast, (splitC c l).getLast (splitC_ne c l), (List.dropLast_concat_getLast (splitC_ne c l)).symm⟩
theorem split_sizes {c : UInt8} {l : List UInt8} {L : List (List UInt8)} {z : List UInt8} (h : splitC c l = L ++ [z]) : L.length ≤ l.length ∧ ∀ (k : Nat) (p : List UInt8), L[k]? = some p → p.length ≤ l.length := by
  have h1 := splitC_length c l
  have h2 := List.count_le_length (a := c) (l := l)
  rw [h, List.length_append, List.length_singleton] at h1
  refine ⟨by omega, fun k p hp => splitC_le c l p ?_⟩
  rw [h]
  exact List.mem_append_left _ (List.mem_of_getElem? hp)
theorem damAll_eq {s : List UInt8} {L : List (List UInt8)} {z : List UInt8} (h : splitC 10 s = L ++ [z]) : damAll s = damR (L.drop 1) 1 ++ (if z = [] then [] else [(L.length : Int) + 1]) := by
  unfold damAll
  rw [h, List.dropLast_concat, List.getLast?_concat]
  simp
theorem salAll_eq {s : List UInt8} {L : List (List UInt8)} {z : List UInt8} (h : splitC 10 s = L ++ [z]) : salAll s = salR (L.drop 1) [] := by
  unfold salAll
  rw [h, List.dropLast_concat]
theorem damR_len : ∀ (L : List (List UInt8)) (k : Nat), (damR L k).length ≤ L.length
  | [], k => by simp [damR]
  | l :: r, k => by
    have := damR_len r (k + 1)
    rw [damR]
    split <;> simp <;> omega
theorem damAll_len (s : List UInt8) : (damAll s).length ≤ s.length + 1 := by
  obtain ⟨L, z, h⟩ := split_last 10 s
  have h1 := (split_sizes h).1
  have h2 := damR_len (L.drop 1) 1
  rw [damAll_eq h, List.length_append]
  rw [List.length_drop] at h2
  split
  · rw [List.length_nil]; omega
  · rw [List.length_singleton]; omega
end Go.Eng
