/-
  Arguments that are rows of bytes.
  No conditions.
-/
import Derived.Test.YtieiboeboejmkaaGreatDoorED
set_option linter.unusedVariables false
set_option linter.unusedSimpArgs false
namespace Go.Eng
open Go Go.RowKit
theorem Opens.byte {P : Program} {t : TypeId} (ht : P.underlying t = some (.int .u8)) : Opens P t byteE (fun _ : UInt8 => True) := by
  intro H e w fuel cs d h
  obtain ⟨n, rfl, _, hw⟩ := DataW.trod_int ht h
  have hb : 0 ≤ n ∧ n ≤ 255 := by
    simp only [Lit.wf, Bool.and_eq_true, decide_eq_true_eq] at hw
    exact hw
  have e2 : ((UInt8.ofNat n.toNat).toNat : Int) = n := by
    rw [UInt8.toNat_ofNat_of_lt' (by show n.toNat < 256; omega)]
    omega
  refine ⟨UInt8.ofNat n.toNat, trivial, rfl, one1 rfl, fun i hi => ?_⟩
  have : i = 0 := by simpa using hi
  subst this
  show RO _ w (.int .u8 n) (.int .u8 ((UInt8.ofNat n.toNat).toNat))
  rw [e2]
  exact .int _ _
end Go.Eng
