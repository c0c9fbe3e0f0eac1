/-
  Names, and blocks that are valid: the contracts of the program's functions and of the reference's.
  No conditions.
-/
import Derived.Test.YtlkjechbejfnhaaGreatDoorED
import Derived.Test.YtlkjechbejfnhaaGreatDoorEC
import Derived.Test.YtlkjechbejfnhaaGreatDoorV0
import Derived.Test.YtlkjechbejfnhaaGreatDoorTB
import Derived.Test.YtlkjechbejfnhaaGreatDoorProg
set_option linter.unusedVariables false
set_option linter.unusedSimpArgs false
set_option maxHeartbeats 4000000
namespace Go.Eng
open Go Go.RowKit Go.Proofs
set_option maxRecDepth 100000

/-- A text without a line's end. -/
def lineB (l : List UInt8) : Bool := l.all fun c => !decide ((c.toNat : Int) = 10)
theorem indexByte_line (l : List UInt8) : decide (0 ≤ Lib.indexByte l 10) = !lineB l := by
  induction l with
  | nil => rfl
  | cons b r ih =>
    have h1 := Lib.indexByte_ge r 10
    have h2 : (b == 10) = decide ((b.toNat : Int) = 10) := by
      rw [Bool.eq_iff_iff]
      simp only [beq_iff_eq, decide_eq_true_eq]
      constructor
      · rintro rfl; rfl
      · intro h
        apply UInt8.toNat_inj.1
        have : b.toNat = 10 := by omega
        rw [this]
        rfl
    unfold Lib.indexByte lineB
    rw [List.all_cons, h2]
    have h3 : (r.all fun c => !decide ((c.toNat : Int) = 10)) = lineB r := rfl
    rw [h3]
    by_cases h : (b.toNat : Int) = 10
    · simp [h]
    · simp only [h, decide_false, Bool.false_eq_true, if_false, Bool.not_false, Bool.true_and]
      rw [← ih]
      by_cases h4 : Lib.indexByte r 10 = -1
      · simp [h4]
      · have h5 : (Lib.indexByte r 10 == -1) = false := by simpa using h4
        rw [h5]
        simp only [Bool.false_eq_true, if_false]
        rw [decide_eq_true (by omega : 0 ≤ Lib.indexByte r 10 + 1), decide_eq_true (by omega : 0 ≤ Lib.indexByte r 10)]

theorem c_stringslite_IndexByte (l : List UInt8) (c : UInt8) : FnC Tryz.prog 230 G0 0 [] [.str l, .int .u8 c.toNat] (fun d os => d = .int .i64 (Lib.indexByte l c) ∧ os = []) := by
  refine fn_rule Tryz.func230 rfl (by decide +kernel) rfl (fun w0 F0 lent β0 => ?_)
  repeat' (first | refine sC ?_ | ((with_reducible refine isAwp ?_); first | (refine sS ?_; intro Q' hn he hr) | refine sA ?_) | (refine sH ?_; clear hn he hr Q') | refine sO ?_ | ((conv => whnf); first | refine sK ?_ | (refine sB ?_; repeat' (first | refine sb0 ?_ | (refine sb2 ?_ ?_ <;> intro hb <;> try exact cls))) | (refine CallS.ext (ext_indexByte Tryz.func289 (by decide +kernel) rfl (by kernel_rfl) (by kernel_rfl) ?_)) | refine sP ?_ | (refine sE ?_; intro x hx) | (refine sF ?_; intro i y hi hy) | (refine sI ?_; intro i hi) | (refine sL ?_; intro hlen) | (refine sQ ?_; intro c hc hcm; try simp only [lnM, lnA, lnC, lnN] at hc) | (refine sX ?_; intro i1 i2 hi1 hi2 hj1 hj2; try simp only [cutL, lnM, lnA, lnC, lnN, lnT, lnD, lnR] at hi1 hi2 hj2) | refine sD ?_ | (refine ret_pick [] rfl rfl rfl ⟨?_, rfl⟩; conv => lhs; whnf) | (refine ret_pick [0] rfl rfl rfl ⟨rfl, ?_⟩) | (refine sH ?_; clear hn he hr Q')))
theorem c_stringslite_Index10 (l : List UInt8) : FnC Tryz.prog 226 G0 0 [] [.str l, .str [10]] (fun d os => d = .int .i64 (Lib.indexByte l 10) ∧ os = []) := by
  have h10 : ([10] : List UInt8).length = 1 := rfl
  refine fn_rule Tryz.func226 rfl (by decide +kernel) rfl (fun w0 F0 lent β0 => ?_)
  repeat' (first | refine sC ?_ | ((with_reducible refine isAwp ?_); first | (refine sS ?_; intro Q' hn he hr) | refine sA ?_) | (refine sH ?_; clear hn he hr Q') | refine sO ?_ | ((conv => whnf); first | refine sK ?_ | (refine sB ?_; repeat' (first | refine sb0 ?_ | (refine sb2 ?_ ?_ <;> intro hb <;> try exact cls))) | (refine ByteS.lit 0 rfl rfl ?_) | ((with_reducible refine isCall ?_); first | (refine call_pure (c_stringslite_IndexByte l 10) rfl rfl ?_)) | refine sP ?_ | (refine sE ?_; intro x hx) | (refine sF ?_; intro i y hi hy) | (refine sI ?_; intro i hi) | (refine sL ?_; intro hlen) | (refine sQ ?_; intro c hc hcm; try simp only [lnM, lnA, lnC, lnN] at hc) | (refine sX ?_; intro i1 i2 hi1 hi2 hj1 hj2; try simp only [cutL, lnM, lnA, lnC, lnN, lnT, lnD, lnR] at hi1 hi2 hj2) | refine sD ?_ | (refine ret_pick [] rfl rfl rfl ⟨?_, rfl⟩; conv => lhs; whnf) | (refine ret_pick [0] rfl rfl rfl ⟨rfl, ?_⟩) | (refine sH ?_; clear hn he hr Q')))
  rw [← hb]
  rfl
theorem c_strings_Index10 (l : List UInt8) : FnC Tryz.prog 284 G0 0 [] [.str l, .str [10]] (fun d os => d = .int .i64 (Lib.indexByte l 10) ∧ os = []) := by
  refine fn_rule Tryz.func284 rfl (by decide +kernel) rfl (fun w0 F0 lent β0 => ?_)
  repeat' (first | refine sC ?_ | ((with_reducible refine isAwp ?_); first | (refine sS ?_; intro Q' hn he hr) | refine sA ?_) | (refine sH ?_; clear hn he hr Q') | refine sO ?_ | ((conv => whnf); first | refine sK ?_ | (refine sB ?_; repeat' (first | refine sb0 ?_ | (refine sb2 ?_ ?_ <;> intro hb <;> try exact cls))) | ((with_reducible refine isCall ?_); first | (refine call_pure (c_stringslite_Index10 l) rfl rfl ?_)) | refine sP ?_ | (refine sE ?_; intro x hx) | (refine sF ?_; intro i y hi hy) | (refine sI ?_; intro i hi) | (refine sL ?_; intro hlen) | (refine sQ ?_; intro c hc hcm; try simp only [lnM, lnA, lnC, lnN] at hc) | (refine sX ?_; intro i1 i2 hi1 hi2 hj1 hj2; try simp only [cutL, lnM, lnA, lnC, lnN, lnT, lnD, lnR] at hi1 hi2 hj2) | refine sD ?_ | (refine ret_pick [] rfl rfl rfl ⟨?_, rfl⟩; conv => lhs; whnf) | (refine ret_pick [0] rfl rfl rfl ⟨rfl, ?_⟩) | (refine sH ?_; clear hn he hr Q')))
def validB (b : TBlock) : Bool := nameB b.fKind && (nameB b.fName && (decide (b.fText.length ≤ 400) && lineB b.fText))
end Go.Eng
