/-
  The reference's drawing of choices from bytes.
  No conditions.
-/
import Derived.Test.YtieiboeboejmkaaGreatDoorED
import Derived.Test.YtieiboeboejmkaaGreatDoorPK
import Derived.Test.YtieiboeboejmkaaGreatDoorProg
set_option linter.unusedVariables false
set_option linter.unusedSimpArgs false
set_option maxHeartbeats 4000000
namespace Go.Eng
open Go Go.RowKit Go.Proofs
set_option maxRecDepth 100000
theorem and255 (a : Int) : 0 ≤ bitsD .and .u64 a 255 ∧ bitsD .and .u64 a 255 ≤ 255 := by
  have h1 : ((BitVec.ofInt 64 a) &&& (BitVec.ofInt 64 255)).toNat ≤ 255 := by
    rw [BitVec.toNat_and]
    exact Nat.and_le_right
  show 0 ≤ IntKind.u64.wrap (((BitVec.ofInt 64 a) &&& (BitVec.ofInt 64 255)).toNat : Int) ∧ IntKind.u64.wrap (((BitVec.ofInt 64 a) &&& (BitVec.ofInt 64 255)).toNat : Int) ≤ 255
  generalize ((BitVec.ofInt 64 a) &&& (BitVec.ofInt 64 255)).toNat = n at h1
  have e : (2 : Int) ^ IntKind.u64.bits = 18446744073709551616 := by decide
  have : IntKind.u64.wrap (n : Int) = n := by
    simp only [IntKind.wrap]
    rw [e]
    exact Int.emod_eq_of_lt (by omega) (by omega)
  omega
theorem ArithS.mkU {n : Int} {K : Int → Prop} (h : K (IntKind.u64.wrap n)) : ArithS .u64 n K := ArithS.mk h
theorem ArithS.and255 {a : Int} {K : Int → Prop} (hk : K (bitsD .and .u64 a 255)) : ArithS .i64 (bitsD .and .u64 a 255) K := by
  have := Go.Eng.and255 a
  exact ArithS.in64 (by omega) hk
theorem c_next (code : List UInt8) (p sd : Int) (hp : 0 ≤ p ∧ p ≤ 4611686018427387904) : FnC Tryz.prog 208 G0 1 [.box [.sl 1 (code.map byteE), .int .i64 p, .int .u64 sd]] [.hp 0 0] (fun d os => ∃ x sd', d = .int .i64 x ∧ (0 ≤ x ∧ x ≤ 255) ∧ os = [.box [.sl 1 (code.map byteE), .int .i64 (p + 1), .int .u64 sd']]) := by
  refine fn_rule Tryz.func208 rfl (by decide +kernel) rfl (fun w0 F0 lent β0 => ?_)
  repeat' (first | refine sC ?_ | ((with_reducible refine isAwp ?_); first | (refine sS ?_; intro Q' hn he hr) | refine sA ?_) | (refine sH ?_; clear hn he hr Q') | refine sO ?_ | ((conv => whnf); first | refine sK ?_ | (refine sB ?_; repeat' (refine sb2 ?_ ?_ <;> intro hb <;> try exact cls)) | (refine AskS.mk ⟨by decide, ?_⟩) | (refine ArithS.mkU ?_) | (with_reducible refine ArithS.and255 ?_) | (refine ArithS.in64 (by have h77 := y.toNat_lt; omega) ?_) | (refine draw_n 12 (by decide +kernel) (by decide +kernel) ?_) | ((with_reducible refine isRet ?_); (refine ret_pick [0] rfl rfl rfl ⟨_, _, rfl, ?_, rfl⟩)) | refine sP ?_ | (refine sF ?_; intro i y hi hy) | (refine sL ?_; intro hlen) | refine sD ?_))
  all_goals first | exact and255 _ | (have h77 := y.toNat_lt; omega) | trace_state
theorem c_pick (code : List UInt8) (p sd n : Int) (hp : 0 ≤ p ∧ p ≤ 2305843009213693952) (hn1 : n ≤ 1048576) : FnC Tryz.prog 116 G0 1 [.box [.sl 1 (code.map byteE), .int .i64 p, .int .u64 sd]] [.hp 0 0, .int .i64 n] (fun d os => ∃ x p' sd', d = .int .i64 x ∧ (0 ≤ x ∧ x < max n 1) ∧ (p ≤ p' ∧ p' ≤ p + 2) ∧ os = [.box [.sl 1 (code.map byteE), .int .i64 p', .int .u64 sd']]) := by
  refine fn_rule Tryz.func116 rfl (by decide +kernel) rfl (fun w0 F0 lent β0 => ?_)
  repeat' (first | refine sC ?_ | ((with_reducible refine isAwp ?_); first | (refine sS ?_; intro Q' hn he hr) | refine sA ?_) | (refine sH ?_; clear hn he hr Q') | ((conv => whnf); first | refine sK ?_ | (refine sB ?_; repeat' (refine sb2 ?_ ?_ <;> intro hb <;> try exact cls)) | (refine AskS.mk ⟨by omega, ?_⟩) | ((with_reducible refine isCall ?_); (refine call_lend 0 rfl (c_next code _ _ (by omega)) ?_; rintro d os ⟨z, sd1, rfl, hz, rfl⟩; refine ⟨_, _, rfl, ?_⟩)) | ((with_reducible refine isRet ?_); (refine ret_pick [0] rfl rfl rfl ⟨_, _, _, rfl, ?_, ?_, rfl⟩)) | refine sP ?_))
  all_goals first | omega | (constructor <;> omega) | skip
  all_goals (rw [Int.max_eq_left (by omega)]; exact ⟨Int.tmod_nonneg _ (by omega), Int.tmod_lt_of_pos _ (by omega)⟩)
theorem c_one (code : List UInt8) (p sd n : Int) (hp : 0 ≤ p ∧ p ≤ 2305843009213693952) (hn1 : n ≤ 1048576) : FnC Tryz.prog 206 G0 1 [.box [.sl 1 (code.map byteE), .int .i64 p, .int .u64 sd]] [.hp 0 0, .int .i64 n] (fun d os => ∃ b p' sd', d = .bool b ∧ (p ≤ p' ∧ p' ≤ p + 2) ∧ os = [.box [.sl 1 (code.map byteE), .int .i64 p', .int .u64 sd']]) := by
  refine fn_rule Tryz.func206 rfl (by decide +kernel) rfl (fun w0 F0 lent β0 => ?_)
  repeat' (first | refine sC ?_ | ((with_reducible refine isAwp ?_); first | (refine sS ?_; intro Q' hn he hr) | refine sA ?_) | (refine sH ?_; clear hn he hr Q') | ((conv => whnf); first | refine sK ?_ | ((with_reducible refine isCall ?_); (refine call_lend 0 rfl (c_pick code _ _ _ (by omega) (by omega)) ?_; rintro d os ⟨z, p1, sd1, rfl, hz, hz2, rfl⟩; refine ⟨_, _, rfl, ?_⟩)) | ((with_reducible refine isRet ?_); (refine ret_pick [0] rfl rfl rfl ⟨_, _, _, rfl, ?_, rfl⟩))))
  all_goals omega
theorem c_text (code : List UInt8) (p sd : Int) (l : List (List UInt8)) (hp : 0 ≤ p ∧ p ≤ 2305843009213693952) (h0 : 0 < l.length) (hl : l.length ≤ 1048576) : FnC Tryz.prog 209 G0 1 [.box [.sl 1 (code.map byteE), .int .i64 p, .int .u64 sd]] [.hp 0 0, .sl 1 (l.map encS)] (fun d os => ∃ t p' sd', d = .str t ∧ t ∈ l ∧ (p ≤ p' ∧ p' ≤ p + 2) ∧ os = [.box [.sl 1 (code.map byteE), .int .i64 p', .int .u64 sd']]) := by
  refine fn_rule Tryz.func209 rfl (by decide +kernel) rfl (fun w0 F0 lent β0 => ?_)
  repeat' (first | refine sC ?_ | ((with_reducible refine isAwp ?_); first | (refine sS ?_; intro Q' hn he hr) | refine sA ?_) | (refine sH ?_; clear hn he hr Q') | ((conv => whnf); first | refine sK ?_ | ((with_reducible refine isCall ?_); (refine call_lend 0 rfl (c_pick code _ _ _ (by omega) (by omega)) ?_; rintro d os ⟨z, p1, sd1, rfl, hz, hz2, rfl⟩; refine ⟨_, _, rfl, ?_⟩)) | ((with_reducible refine isRet ?_); (refine ret_pick [0] rfl rfl rfl ⟨_, _, _, rfl, ?_, ?_, rfl⟩)) | (refine sF ?_; intro i y hi hy) | (refine sL ?_; intro hlen)))
  all_goals first | omega | exact List.mem_of_getElem? hy
end Go.Eng
