/-
  Numbers in decimal: what the program's and the reference's functions hand back.
  No conditions.
-/
import Derived.Test.YtieiboeboejmkaaGreatEC
import Derived.Test.YtieiboeboejmkaaGreatShelf
import Derived.Lib.ItoaLen
import Derived.Test.YtieiboeboejmkaaGreatProg
set_option linter.unusedVariables false
set_option linter.unusedSimpArgs false
namespace Go.Eng
open Go Go.RowKit Go.Proofs
set_option maxRecDepth 100000
theorem digs_dec : ∀ (f n : Nat) (l : List UInt8), 0 < n → n < 10 ^ f → digs f n l = Lib.decDigits n ++ l
  | 0, n, l, h, h2 => by simp at h2; omega
  | f + 1, n, l, h, h2 => by
    rw [digs, if_neg (by omega), Lib.decDigits]
    by_cases h9 : n < 10
    · rw [dif_pos h9]
      have e1 : n / 10 = 0 := by omega
      have e2 : n % 10 = n := by omega
      rw [e1, e2]
      cases f <;> simp [digs]
    · rw [dif_neg h9, digs_dec f (n / 10) _ (by omega) (by rw [Nat.pow_succ] at h2; omega)]
      simp
theorem byteE_ofNat {z : Int} {k : Nat} (h : z = (k : Int)) (hk : k < 256) : [D.int .u8 z] = byteE (UInt8.ofNat k) := by
  subst h
  show [D.int .u8 (k : Int)] = [D.int .u8 ((UInt8.ofNat k).toNat : Int)]
  rw [UInt8.toNat_ofNat_of_lt' hk]
/-- A row of bytes, handed back as a text in the other order. -/
theorem itoa_pos {k : Nat} (h : 0 < k) (hk : k < 10 ^ 20) : Lib.itoa (k : Int) = digs 20 k [] := by
  rw [digs_dec 20 k [] h hk, Lib.itoa, if_neg (by omega)]
  simp
theorem itoa_negs {k : Nat} (h : 0 < k) (hk : k < 10 ^ 20) : Lib.itoa (-(k : Int)) = 45 :: digs 20 k [] := by
  rw [digs_dec 20 k [] h hk, Lib.itoa, if_pos (by omega)]
  simp
theorem drop_last_step {l : List UInt8} {j : Nat} {c : UInt8} (hj : l[j]? = some c) : (l.drop j).reverse = (l.drop (j + 1)).reverse ++ [c] := by
  have hlt := (List.getElem?_eq_some_iff.1 hj).1
  rw [List.drop_eq_getElem_cons hlt, (List.getElem?_eq_some_iff.1 hj).2]
  simp
end Go.Eng
