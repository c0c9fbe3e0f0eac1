/-
  Names, and blocks that are valid: the contracts of the program's functions and of the reference's.
  No conditions.
-/
import Derived.Test.YtieiboeboejmkaaGreatEC
import Derived.Test.YtieiboeboejmkaaGreatV0
import Derived.Test.YtieiboeboejmkaaGreatTX
import Derived.Test.YtieiboeboejmkaaGreatProg
set_option linter.unusedVariables false
set_option linter.unusedSimpArgs false
namespace Go.Eng
open Go Go.RowKit Go.Proofs
set_option maxRecDepth 100000

/-- A text without a line's end. -/
def lineB (l : List UInt8) : Bool := l.all fun c => !decide ((c.toNat : Int) = 10)
theorem indexByte_line (l : List UInt8) : decide (0 ≤ Lib.indexByte l 10) = !lineB l := by
  induction l with
  | nil => rfl
  | cons b r ih =>
    have h1 := Lib.indexByte_ge r 10
    have h2 : (b == 10) = decide ((b.toNat : Int) = 10) := by
      rw [Bool.eq_iff_iff]
      simp only [beq_iff_eq, decide_eq_true_eq]
      constructor
      · rintro rfl; rfl
      · intro h
        apply UInt8.toNat_inj.1
        have : b.toNat = 10 := by omega
        rw [this]
        rfl
    unfold Lib.indexByte lineB
    rw [List.all_cons, h2]
    have h3 : (r.all fun c => !decide ((c.toNat : Int) = 10)) = lineB r := rfl
    rw [h3]
    by_cases h : (b.toNat : Int) = 10
    · simp [h]
    · simp only [h, decide_false, Bool.false_eq_true, if_false, Bool.not_false, Bool.true_and]
      rw [← ih]
      by_cases h4 : Lib.indexByte r 10 = -1
      · simp [h4]
      · have h5 : (Lib.indexByte r 10 == -1) = false := by simpa using h4
        rw [h5]
        simp only [Bool.false_eq_true, if_false]
        rw [decide_eq_true (by omega : 0 ≤ Lib.indexByte r 10 + 1), decide_eq_true (by omega : 0 ≤ Lib.indexByte r 10)]

def validB (b : TBlock) : Bool := nameB b.fKind && (nameB b.fName && (decide (b.fText.length ≤ 400) && lineB b.fText))
end Go.Eng
