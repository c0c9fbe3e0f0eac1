/-
  Texts divided by a byte: strings.Split and strings.Cut of the program's library, and the reference's l01Split.
  No conditions.
-/
import Derived.Test.YtpleljnhaoejdaaED
import Derived.Test.YtpleljnhaoejdaaSP0
import Derived.Test.YtpleljnhaoejdaaV1
set_option linter.unusedVariables false
set_option linter.unusedSimpArgs false
set_option maxHeartbeats 4000000
namespace Go.Eng
open Go Go.RowKit Go.Proofs
set_option maxRecDepth 100000
theorem set_mid {α : Type} (a : List α) (n : Nat) (d x : α) : (a ++ List.replicate (n + 1) d).set a.length x = (a ++ [x]) ++ List.replicate n d := by
  rw [List.set_append_right _ _ (Nat.le_refl _), Nat.sub_self, List.replicate_succ, List.set_cons_zero]
  simp
theorem count_part {c : UInt8} {l : List UInt8} {m : Nat} (h : Lib.indexByte l c = (m : Int)) : l.count c = (l.drop (m + 1)).count c + 1 := by
  have h1 := splitC_length c l
  rw [splitC_hit (indexByte_hit h).1 (indexByte_hit h).2, List.length_cons, splitC_length] at h1
  omega
theorem splitC_zero {c : UInt8} {l : List UInt8} (h : l.count c = 0) : splitC c l = [l] :=
  splitC_none fun j hj => absurd (List.count_pos_iff.2 (List.mem_of_getElem? hj)) (by omega)
theorem MakeS.to (n : Nat) {bytes : Nat} {l c : Int} {K : Nat → Prop} (hl : l = (n : Int)) (hc : c = (n : Int)) (hb : Nat.ble bytes 65536 = true) (h : (n : Int) ≤ 4294967296) (hk : K n) : MakeS l c bytes K := by
  subst hl
  subst hc
  exact MakeS.nat hb h hk
theorem indexByte_or (l : List UInt8) (c : UInt8) : Lib.indexByte l c < 0 ∨ ∃ m : Nat, Lib.indexByte l c = m := by
  rcases Int.lt_or_le (Lib.indexByte l c) 0 with h | h
  · exact .inl h
  · exact .inr ⟨(Lib.indexByte l c).toNat, by omega⟩
set_option maxHeartbeats 4000000 in
theorem c_stringslite_IndexC (l : List UInt8) (c : UInt8) : FnC Try.prog 49 G0 0 [] [.str l, .str [c]] (fun d os => d = .int .i64 (Lib.indexByte l c) ∧ os = []) := by
  have h10 : ([c] : List UInt8).length = 1 := rfl
  refine fn_rule Try.func49 rfl (by decide +kernel) rfl (fun w0 F0 lent β0 => ?_)
  repeat' (first | refine sC ?_ | ((with_reducible refine isAwp ?_); first | (refine sS ?_; intro Q' hn he hr) | refine sA ?_) | (refine sH ?_; clear hn he hr Q') | refine sO ?_ | ((conv => whnf); first | refine sK ?_ | (refine sB ?_; repeat' (first | refine sb0 ?_ | (refine sb2 ?_ ?_ <;> intro hb <;> try exact cls))) | (refine ByteS.lit 0 rfl rfl ?_) | ((with_reducible refine isCall ?_); first | (refine call_pure (c_stringslite_IndexByte l c) rfl rfl ?_)) | ((with_reducible refine isCallQ ?_); first | (refine callQ_pure (c_stringslite_IndexByte l c) rfl rfl ?_)) | refine sP ?_ | (refine sE ?_; intro x hx) | (refine sF ?_; intro i y hi hy) | (refine sI ?_; intro i hi) | (refine sL ?_; intro hlen) | (refine sQ ?_; intro c hc hcm; try simp only [lnM, lnA, lnC, lnN] at hc) | (refine sX ?_; intro i1 i2 hi1 hi2 hj1 hj2; try simp only [cutL, lnM, lnA, lnC, lnN, lnT, lnD, lnR] at hi1 hi2 hj2) | refine sD ?_ | (refine ret_pick [] rfl rfl rfl ⟨?_, rfl⟩; conv => lhs; whnf) | (refine ret_pick [0] rfl rfl rfl ⟨rfl, ?_⟩) | (refine sH ?_; clear hn he hr Q')))
  rw [← hb]
  simp [Lib.indexByte]
theorem c_strings_IndexC (l : List UInt8) (c : UInt8) : FnC Try.prog 42 G0 0 [] [.str l, .str [c]] (fun d os => d = .int .i64 (Lib.indexByte l c) ∧ os = []) := by
  refine fn_rule Try.func42 rfl (by decide +kernel) rfl (fun w0 F0 lent β0 => ?_)
  repeat' (first | refine sC ?_ | ((with_reducible refine isAwp ?_); first | (refine sS ?_; intro Q' hn he hr) | refine sA ?_) | (refine sH ?_; clear hn he hr Q') | refine sO ?_ | ((conv => whnf); first | refine sK ?_ | (refine sB ?_; repeat' (first | refine sb0 ?_ | (refine sb2 ?_ ?_ <;> intro hb <;> try exact cls))) | ((with_reducible refine isCall ?_); first | (refine call_pure (c_stringslite_IndexC l c) rfl rfl ?_)) | ((with_reducible refine isCallQ ?_); first | (refine callQ_pure (c_stringslite_IndexC l c) rfl rfl ?_)) | refine sP ?_ | (refine sE ?_; intro x hx) | (refine sF ?_; intro i y hi hy) | (refine sI ?_; intro i hi) | (refine sL ?_; intro hlen) | (refine sQ ?_; intro c hc hcm; try simp only [lnM, lnA, lnC, lnN] at hc) | (refine sX ?_; intro i1 i2 hi1 hi2 hj1 hj2; try simp only [cutL, lnM, lnA, lnC, lnN, lnT, lnD, lnR] at hi1 hi2 hj2) | refine sD ?_ | (refine ret_pick [] rfl rfl rfl ⟨?_, rfl⟩; conv => lhs; whnf) | (refine ret_pick [0] rfl rfl rfl ⟨rfl, ?_⟩) | (refine sH ?_; clear hn he hr Q')))
end Go.Eng
