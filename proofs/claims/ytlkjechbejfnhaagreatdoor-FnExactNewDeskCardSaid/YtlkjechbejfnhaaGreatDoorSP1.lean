/-
  Texts divided by a byte: strings.Split and strings.Cut of the program's library, and the reference's l01Split.
  No conditions.
-/
import Derived.Test.YtlkjechbejfnhaaGreatDoorED
import Derived.Test.YtlkjechbejfnhaaGreatDoorSP0
import Derived.Test.YtlkjechbejfnhaaGreatDoorV1
set_option linter.unusedVariables false
set_option linter.unusedSimpArgs false
set_option maxHeartbeats 4000000
namespace Go.Eng
open Go Go.RowKit Go.Proofs
set_option maxRecDepth 100000
theorem set_mid {α : Type} (a : List α) (n : Nat) (d x : α) : (a ++ List.replicate (n + 1) d).set a.length x = (a ++ [x]) ++ List.replicate n d := by
  rw [List.set_append_right _ _ (Nat.le_refl _), Nat.sub_self, List.replicate_succ, List.set_cons_zero]
  simp
theorem count_part {c : UInt8} {l : List UInt8} {m : Nat} (h : Lib.indexByte l c = (m : Int)) : l.count c = (l.drop (m + 1)).count c + 1 := by
  have h1 := splitC_length c l
  rw [splitC_hit (indexByte_hit h).1 (indexByte_hit h).2, List.length_cons, splitC_length] at h1
  omega
theorem splitC_zero {c : UInt8} {l : List UInt8} (h : l.count c = 0) : splitC c l = [l] :=
  splitC_none fun j hj => absurd (List.count_pos_iff.2 (List.mem_of_getElem? hj)) (by omega)
theorem MakeS.to (n : Nat) {bytes : Nat} {l c : Int} {K : Nat → Prop} (hl : l = (n : Int)) (hc : c = (n : Int)) (hb : Nat.ble bytes 65536 = true) (h : (n : Int) ≤ 4294967296) (hk : K n) : MakeS l c bytes K := by
  subst hl
  subst hc
  exact MakeS.nat hb h hk
theorem indexByte_or (l : List UInt8) (c : UInt8) : Lib.indexByte l c < 0 ∨ ∃ m : Nat, Lib.indexByte l c = m := by
  rcases Int.lt_or_le (Lib.indexByte l c) 0 with h | h
  · exact .inl h
  · exact .inr ⟨(Lib.indexByte l c).toNat, by omega⟩
set_option maxHeartbeats 4000000 in
theorem c_stringslite_IndexC (l : List UInt8) (c : UInt8) : FnC Tryz.prog 226 G0 0 [] [.str l, .str [c]] (fun d os => d = .int .i64 (Lib.indexByte l c) ∧ os = []) := by
  have h10 : ([c] : List UInt8).length = 1 := rfl
  refine fn_rule Tryz.func226 rfl (by decide +kernel) rfl (fun w0 F0 lent β0 => ?_)
  repeat' (first | refine sC ?_ | ((with_reducible refine isAwp ?_); first | (refine sS ?_; intro Q' hn he hr) | refine sA ?_) | (refine sH ?_; clear hn he hr Q') | refine sO ?_ | ((conv => whnf); first | refine sK ?_ | (refine sB ?_; repeat' (first | refine sb0 ?_ | (refine sb2 ?_ ?_ <;> intro hb <;> try exact cls))) | (refine ByteS.lit 0 rfl rfl ?_) | ((with_reducible refine isCall ?_); first | (refine call_pure (c_stringslite_IndexByte l c) rfl rfl ?_)) | ((with_reducible refine isCallQ ?_); first | (refine callQ_pure (c_stringslite_IndexByte l c) rfl rfl ?_)) | refine sP ?_ | (refine sE ?_; intro x hx) | (refine sF ?_; intro i y hi hy) | (refine sI ?_; intro i hi) | (refine sL ?_; intro hlen) | (refine sQ ?_; intro c hc hcm; try simp only [lnM, lnA, lnC, lnN] at hc) | (refine sX ?_; intro i1 i2 hi1 hi2 hj1 hj2; try simp only [cutL, lnM, lnA, lnC, lnN, lnT, lnD, lnR] at hi1 hi2 hj2) | refine sD ?_ | (refine ret_pick [] rfl rfl rfl ⟨?_, rfl⟩; conv => lhs; whnf) | (refine ret_pick [0] rfl rfl rfl ⟨rfl, ?_⟩) | (refine sH ?_; clear hn he hr Q')))
  rw [← hb]
  simp [Lib.indexByte]
theorem c_strings_IndexC (l : List UInt8) (c : UInt8) : FnC Tryz.prog 284 G0 0 [] [.str l, .str [c]] (fun d os => d = .int .i64 (Lib.indexByte l c) ∧ os = []) := by
  refine fn_rule Tryz.func284 rfl (by decide +kernel) rfl (fun w0 F0 lent β0 => ?_)
  repeat' (first | refine sC ?_ | ((with_reducible refine isAwp ?_); first | (refine sS ?_; intro Q' hn he hr) | refine sA ?_) | (refine sH ?_; clear hn he hr Q') | refine sO ?_ | ((conv => whnf); first | refine sK ?_ | (refine sB ?_; repeat' (first | refine sb0 ?_ | (refine sb2 ?_ ?_ <;> intro hb <;> try exact cls))) | ((with_reducible refine isCall ?_); first | (refine call_pure (c_stringslite_IndexC l c) rfl rfl ?_)) | ((with_reducible refine isCallQ ?_); first | (refine callQ_pure (c_stringslite_IndexC l c) rfl rfl ?_)) | refine sP ?_ | (refine sE ?_; intro x hx) | (refine sF ?_; intro i y hi hy) | (refine sI ?_; intro i hi) | (refine sL ?_; intro hlen) | (refine sQ ?_; intro c hc hcm; try simp only [lnM, lnA, lnC, lnN] at hc) | (refine sX ?_; intro i1 i2 hi1 hi2 hj1 hj2; try simp only [cutL, lnM, lnA, lnC, lnN, lnT, lnD, lnR] at hi1 hi2 hj2) | refine sD ?_ | (refine ret_pick [] rfl rfl rfl ⟨?_, rfl⟩; conv => lhs; whnf) | (refine ret_pick [0] rfl rfl rfl ⟨rfl, ?_⟩) | (refine sH ?_; clear hn he hr Q')))
theorem c_strings_CountC (l : List UInt8) (c : UInt8) : FnC Tryz.prog 283 G0 0 [] [.str l, .str [c]] (fun d os => d = .int .i64 (l.count c : Nat) ∧ os = []) := by
  have h10 : ([c] : List UInt8).length = 1 := rfl
  refine fn_rule Tryz.func283 rfl (by decide +kernel) rfl (fun w0 F0 lent β0 => ?_)
  repeat' (first | refine sC ?_ | ((with_reducible refine isAwp ?_); first | (refine sS ?_; intro Q' hn he hr) | refine sA ?_) | (refine sH ?_; clear hn he hr Q') | refine sO ?_ | ((conv => whnf); first | refine sK ?_ | (refine sB ?_; repeat' (first | refine sb0 ?_ | (refine sb2 ?_ ?_ <;> intro hb <;> try exact cls))) | (refine ByteS.lit 0 rfl rfl ?_) | (refine CallS.ext (ext_countByte Tryz.func321 (by decide +kernel) rfl (by kernel_rfl) (by kernel_rfl) ?_)) | refine sP ?_ | (refine sE ?_; intro x hx) | (refine sF ?_; intro i y hi hy) | (refine sI ?_; intro i hi) | (refine sL ?_; intro hlen) | (refine sQ ?_; intro c hc hcm; try simp only [lnM, lnA, lnC, lnN] at hc) | (refine sX ?_; intro i1 i2 hi1 hi2 hj1 hj2; try simp only [cutL, lnM, lnA, lnC, lnN, lnT, lnD, lnR] at hi1 hi2 hj2) | refine sD ?_ | (refine ret_pick [] rfl rfl rfl ⟨?_, rfl⟩; conv => lhs; whnf) | (refine ret_pick [0] rfl rfl rfl ⟨rfl, ?_⟩) | (refine sH ?_; clear hn he hr Q')))
theorem c_stringslite_CutC (l : List UInt8) (c : UInt8) (hl : l.length ≤ 16777216) : FnC Tryz.prog 169 G0 0 [] [.str l, .str [c]] (fun d os => d = .tup [.str (cutTx c l).1, .str (cutTx c l).2.1, .bool (cutTx c l).2.2] ∧ os = []) := by
  have h10 : ([c] : List UInt8).length = 1 := rfl
  have h1 := c_stringslite_IndexC l c
  rcases indexByte_or l c with h0 | ⟨m, hm⟩
  · refine fn_rule Tryz.func169 rfl (by decide +kernel) rfl (fun w0 F0 lent β0 => ?_)
    repeat' (first | refine sC ?_ | ((with_reducible refine isAwp ?_); first | (refine sS ?_; intro Q' hn he hr) | refine sA ?_) | (refine sH ?_; clear hn he hr Q') | refine sO ?_ | ((conv => whnf); first | refine sK ?_ | (refine sB ?_; repeat' (first | refine sb0 ?_ | (refine sb2 ?_ ?_ <;> intro hb <;> try exact cls))) | ((with_reducible refine isCall ?_); first | (refine call_pure (h1) rfl rfl ?_)) | ((with_reducible refine isCallQ ?_); first | (refine callQ_pure (h1) rfl rfl ?_)) | refine sP ?_ | (refine sE ?_; intro x hx) | (refine sF ?_; intro i y hi hy) | (refine sI ?_; intro i hi) | (refine sL ?_; intro hlen) | (refine sQ ?_; intro c hc hcm; try simp only [lnM, lnA, lnC, lnN] at hc) | (refine sX ?_; intro i1 i2 hi1 hi2 hj1 hj2; try simp only [cutL, lnM, lnA, lnC, lnN, lnT, lnD, lnR] at hi1 hi2 hj2) | refine sD ?_ | (refine ret_pick [] rfl rfl rfl ⟨?_, rfl⟩; conv => lhs; whnf) | (refine ret_pick [0] rfl rfl rfl ⟨rfl, ?_⟩) | (refine sH ?_; clear hn he hr Q')))
    rw [cutTx_none (indexByte_none h0)]
    rfl
  · rw [hm] at h1
    have hm2 := indexByte_lt hm
    refine fn_rule Tryz.func169 rfl (by decide +kernel) rfl (fun w0 F0 lent β0 => ?_)
    repeat' (first | refine sC ?_ | ((with_reducible refine isAwp ?_); first | (refine sS ?_; intro Q' hn he hr) | refine sA ?_) | (refine sH ?_; clear hn he hr Q') | refine sO ?_ | ((conv => whnf); first | refine sK ?_ | (refine sB ?_; repeat' (first | refine sb0 ?_ | (refine sb2 ?_ ?_ <;> intro hb <;> try exact cls))) | ((with_reducible refine isCall ?_); first | (refine call_pure (h1) rfl rfl ?_)) | ((with_reducible refine isCallQ ?_); first | (refine callQ_pure (h1) rfl rfl ?_)) | refine sP ?_ | (refine sE ?_; intro x hx) | (refine sF ?_; intro i y hi hy) | (refine sI ?_; intro i hi) | (refine sL ?_; intro hlen) | (refine sQ ?_; intro c hc hcm; try simp only [lnM, lnA, lnC, lnN] at hc) | (refine sX ?_; intro i1 i2 hi1 hi2 hj1 hj2; try simp only [cutL, lnM, lnA, lnC, lnN, lnT, lnD, lnR] at hi1 hi2 hj2) | refine sD ?_ | (refine ret_pick [] rfl rfl rfl ⟨?_, rfl⟩; conv => lhs; whnf) | (refine ret_pick [0] rfl rfl rfl ⟨rfl, ?_⟩) | (refine sH ?_; clear hn he hr Q')))
    rw [cutTx_hit (indexByte_hit hm).1 (indexByte_hit hm).2]
    obtain rfl : i1 = m + 1 := by omega
    rfl
theorem c_strings_Cut (l : List UInt8) (c : UInt8) (hl : l.length ≤ 16777216) : FnC Tryz.prog 97 G0 0 [] [.str l, .str [c]] (fun d os => d = .tup [.str (cutTx c l).1, .str (cutTx c l).2.1, .bool (cutTx c l).2.2] ∧ os = []) := by
  refine fn_rule Tryz.func97 rfl (by decide +kernel) rfl (fun w0 F0 lent β0 => ?_)
  repeat' (first | refine sC ?_ | ((with_reducible refine isAwp ?_); first | (refine sS ?_; intro Q' hn he hr) | refine sA ?_) | (refine sH ?_; clear hn he hr Q') | refine sO ?_ | ((conv => whnf); first | refine sK ?_ | (refine sB ?_; repeat' (first | refine sb0 ?_ | (refine sb2 ?_ ?_ <;> intro hb <;> try exact cls))) | ((with_reducible refine isCall ?_); first | (refine call_pure (c_stringslite_CutC l c hl) rfl rfl ?_)) | ((with_reducible refine isCallQ ?_); first | (refine callQ_pure (c_stringslite_CutC l c hl) rfl rfl ?_)) | refine sP ?_ | (refine sE ?_; intro x hx) | (refine sF ?_; intro i y hi hy) | (refine sI ?_; intro i hi) | (refine sL ?_; intro hlen) | (refine sQ ?_; intro c hc hcm; try simp only [lnM, lnA, lnC, lnN] at hc) | (refine sX ?_; intro i1 i2 hi1 hi2 hj1 hj2; try simp only [cutL, lnM, lnA, lnC, lnN, lnT, lnD, lnR] at hi1 hi2 hj2) | refine sD ?_ | (refine ret_pick [] rfl rfl rfl ⟨?_, rfl⟩; conv => lhs; whnf) | (refine ret_pick [0] rfl rfl rfl ⟨rfl, ?_⟩) | (refine sH ?_; clear hn he hr Q')))
  all_goals rfl
set_option maxHeartbeats 4000000 in
theorem c_strings_genSplit (l : List UInt8) (c : UInt8) (hl : l.length ≤ 16777216) : FnC Tryz.prog 227 G0 0 [] [.str l, .str [c], .int .i64 0, .int .i64 (-1)] (fun d os => d = .sl 1 ((splitC c l).map encS) ∧ os = []) := by
  have h10 : ([c] : List UInt8).length = 1 := rfl
  have hcn := List.count_le_length (a := c) (l := l)
  refine fn_rule Tryz.func227 rfl (by decide +kernel) rfl (fun w0 F0 lent β0 => ?_)
  repeat' (first | refine sC ?_ | ((with_reducible refine isAwp ?_); first | (refine sS ?_; intro Q' hn he hr) | refine sA ?_) | (refine sH ?_; clear hn he hr Q') | refine sO ?_ | ((conv => whnf); first | refine sK ?_ | (refine sB ?_; repeat' (first | refine sb0 ?_ | (refine sb2 ?_ ?_ <;> intro hb <;> try exact cls))) | ((with_reducible refine isCall ?_); first | (refine call_pure (c_strings_CountC l c) rfl rfl ?_)) | ((with_reducible refine isCallQ ?_); first | (refine callQ_pure (c_strings_CountC l c) rfl rfl ?_)) | refine sP ?_ | (refine sE ?_; intro x hx) | (refine sF ?_; intro i y hi hy) | (refine sI ?_; intro i hi) | (refine sL ?_; intro hlen) | (refine sQ ?_; intro c hc hcm; try simp only [lnM, lnA, lnC, lnN] at hc) | (refine sX ?_; intro i1 i2 hi1 hi2 hj1 hj2; try simp only [cutL, lnM, lnA, lnC, lnN, lnT, lnD, lnR] at hi1 hi2 hj2) | refine sD ?_ | (refine ret_pick [] rfl rfl rfl ⟨?_, rfl⟩; conv => lhs; whnf) | (refine ret_pick [0] rfl rfl rfl ⟨rfl, ?_⟩) | (refine sH ?_; clear hn he hr Q')))
  rw [show ∀ a b : Int, (bif false then a else b) = b from fun _ _ => rfl, if_neg (show ¬ ((l.length : Int) + 1 < (l.count c : Nat) + 1) by omega)]
  repeat' (first | refine sC ?_ | ((with_reducible refine isAwp ?_); first | (refine sS ?_; intro Q' hn he hr) | refine sA ?_) | (refine sH ?_; clear hn he hr Q') | refine sO ?_ | ((conv => whnf); first | refine sK ?_ | (refine sB ?_; repeat' (first | refine sb0 ?_ | (refine sb2 ?_ ?_ <;> intro hb <;> try exact cls))) | (refine MakeS.to (l.count c + 1) (by omega) (by omega) rfl (by omega) ?_) | refine sP ?_ | (refine sE ?_; intro x hx) | (refine sF ?_; intro i y hi hy) | (refine sI ?_; intro i hi) | (refine sL ?_; intro hlen) | (refine sQ ?_; intro c hc hcm; try simp only [lnM, lnA, lnC, lnN] at hc) | (refine sX ?_; intro i1 i2 hi1 hi2 hj1 hj2; try simp only [cutL, lnM, lnA, lnC, lnN, lnT, lnD, lnR] at hi1 hi2 hj2) | refine sD ?_ | (refine ret_pick [] rfl rfl rfl ⟨?_, rfl⟩; conv => lhs; whnf) | (refine ret_pick [0] rfl rfl rfl ⟨rfl, ?_⟩) | (refine sH ?_; clear hn he hr Q')))
  have hsl := splitC_length c l
  refine loop_env2 (fun (r : List UInt8) (k : Nat) => [(0,.str r),(1,.str [c]),(2,.int .i64 0),(3,.int .i64 (l.count c : Nat)),(9,.h 0),(10,.int .i64 k)]) (fun r k => [.row 9 1 (fill encS [.str []] (splitC c l) k)]) (fun r k => (splitC c l).drop k = splitC c r ∧ k + r.count c = l.count c ∧ r.length ≤ l.length) (fun r k => r.length) l 0 ⟨rfl, by simp, by omega⟩ (by refine weak_to rfl rfl (by rw [fill_zero, hsl]; rfl) ?_; ((repeat' (first | exact trivial | refine And.intro ?_ ?_)) <;> (first | rfl | (conv => rhs; whnf) <;> (first | rfl | (refine congrArg (D.int _) ?_; omega))))) (fun r k hk Q' hn he hr => ?_)
  obtain ⟨hk1, hk2, hk3⟩ := hk
  have hc1 := c_strings_IndexC r c
  have hkl : k < (splitC c l).length := by omega
  rcases indexByte_or r c with h0 | ⟨m, hm⟩
  · have hz : r.count c = 0 := by
      apply Classical.byContradiction
      intro h
      have := indexByte_some (l := r) (c := c) (by omega)
      omega
    have hat : (splitC c l)[k]? = some r := by
      have h := congrArg (fun l => l[0]?) hk1
      simp only [List.getElem?_drop, splitC_zero hz] at h
      simpa using h
    repeat' (first | refine sC ?_ | ((with_reducible refine isAwp ?_); first | (refine sS ?_; intro Q' hn he hr) | refine sA ?_) | (refine sH ?_; clear hn he hr Q') | refine sO ?_ | ((conv => whnf); first | refine sK ?_ | (refine sB ?_; repeat' (first | refine sb0 ?_ | (refine sb2 ?_ ?_ <;> intro hb <;> try exact cls))) | (refine ret_trim ?_) | ((with_reducible refine isCall ?_); first | (refine call_pure (hc1) rfl rfl ?_)) | ((with_reducible refine isCallQ ?_); first | (refine callQ_pure (hc1) rfl rfl ?_)) | refine sP ?_ | (refine sE ?_; intro x hx) | (refine sF ?_; intro i y hi hy) | (refine sI ?_; intro i hi) | (refine sL ?_; intro hlen) | (refine sQ ?_; intro c hc hcm; try simp only [lnM, lnA, lnC, lnN] at hc) | (refine sX ?_; intro i1 i2 hi1 hi2 hj1 hj2; try simp only [cutL, lnM, lnA, lnC, lnN, lnT, lnD, lnR] at hi1 hi2 hj2) | refine sD ?_ | (refine ret_pick [] rfl rfl rfl ⟨?_, rfl⟩; conv => lhs; whnf) | (refine ret_pick [0] rfl rfl rfl ⟨rfl, ?_⟩) | (refine sH ?_; clear hn he hr Q')))
    have e : (fill encS [.str []] (splitC c l) k).set k [D.str r] = (splitC c l).map encS := by
      rw [show [D.str r] = encS r from rfl, fill_set _ _ _ hat, show k + 1 = (splitC c l).length by omega, fill_all]
    rw [e]
    repeat' (first | refine sC ?_ | ((with_reducible refine isAwp ?_); first | (refine sS ?_; intro Q' hn he hr) | refine sA ?_) | (refine sH ?_; clear hn he hr Q') | refine sO ?_ | ((conv => whnf); first | refine sK ?_ | (refine sB ?_; repeat' (first | refine sb0 ?_ | (refine sb2 ?_ ?_ <;> intro hb <;> try exact cls))) | (refine ret_trim ?_) | ((with_reducible refine isRet ?_); first | (refine ret_freeze 0 rfl (Nat.zero_le _) ?_; refine ret_pick [] rfl rfl rfl ⟨?_, rfl⟩)) | refine sP ?_ | (refine sE ?_; intro x hx) | (refine sF ?_; intro i y hi hy) | (refine sI ?_; intro i hi) | (refine sL ?_; intro hlen) | (refine sQ ?_; intro c hc hcm; try simp only [lnM, lnA, lnC, lnN] at hc) | (refine sX ?_; intro i1 i2 hi1 hi2 hj1 hj2; try simp only [cutL, lnM, lnA, lnC, lnN, lnT, lnD, lnR] at hi1 hi2 hj2) | refine sD ?_ | (refine ret_pick [] rfl rfl rfl ⟨?_, rfl⟩; conv => lhs; whnf) | (refine ret_pick [0] rfl rfl rfl ⟨rfl, ?_⟩) | (refine sH ?_; clear hn he hr Q')))
    show D.sl 1 (List.take (k + 1) ((splitC c l).map encS)) = _
    rw [List.take_of_length_le (by rw [List.length_map]; omega)]
  · rw [hm] at hc1
    have hm2 := indexByte_lt hm
    have hm3 := count_part hm
    have hsp := splitC_hit (indexByte_hit hm).1 (indexByte_hit hm).2
    have hat : (splitC c l)[k]? = some (r.take m) := by
      have h := congrArg (fun l => l[0]?) hk1
      simp only [List.getElem?_drop, hsp] at h
      simpa using h
    repeat' (first | refine sC ?_ | ((with_reducible refine isAwp ?_); first | (refine sS ?_; intro Q' hn he hr) | refine sA ?_) | (refine sH ?_; clear hn he hr Q') | refine sO ?_ | ((conv => whnf); first | refine sK ?_ | (refine sB ?_; repeat' (first | refine sb0 ?_ | (refine sb2 ?_ ?_ <;> intro hb <;> try exact cls))) | ((with_reducible refine isCall ?_); first | (refine call_pure (hc1) rfl rfl ?_)) | ((with_reducible refine isCallQ ?_); first | (refine callQ_pure (hc1) rfl rfl ?_)) | refine sP ?_ | (refine sE ?_; intro x hx) | (refine sF ?_; intro i y hi hy) | (refine sI ?_; intro i hi) | (refine sL ?_; intro hlen) | (refine sQ ?_; intro c hc hcm; try simp only [lnM, lnA, lnC, lnN] at hc) | (refine sX ?_; intro i1 i2 hi1 hi2 hj1 hj2; try simp only [cutL, lnM, lnA, lnC, lnN, lnT, lnD, lnR] at hi1 hi2 hj2) | refine sD ?_ | (refine ret_pick [] rfl rfl rfl ⟨?_, rfl⟩; conv => lhs; whnf) | (refine ret_pick [0] rfl rfl rfl ⟨rfl, ?_⟩) | (refine sH ?_; clear hn he hr Q')))
    obtain rfl : i1 = m + 1 := by omega
    refine ⟨r.drop (m + 1), k + 1, ⟨?_, by omega, by simp; omega⟩, by simp; omega, ?_⟩
    · have h := congrArg List.tail hk1
      rw [hsp] at h
      simpa using h
    · exact (by refine weak_to rfl rfl (by rw [← fill_set _ _ _ hat]; rfl) ?_; ((repeat' (first | exact trivial | refine And.intro ?_ ?_)) <;> (first | rfl | (conv => rhs; whnf) <;> (first | rfl | (refine congrArg (D.int _) ?_; omega)))))
theorem c_strings_Split (l : List UInt8) (c : UInt8) (hl : l.length ≤ 16777216) : FnC Tryz.prog 170 G0 0 [] [.str l, .str [c]] (fun d os => d = .sl 1 ((splitC c l).map encS) ∧ os = []) := by
  refine fn_rule Tryz.func170 rfl (by decide +kernel) rfl (fun w0 F0 lent β0 => ?_)
  repeat' (first | refine sC ?_ | ((with_reducible refine isAwp ?_); first | (refine sS ?_; intro Q' hn he hr) | refine sA ?_) | (refine sH ?_; clear hn he hr Q') | refine sO ?_ | ((conv => whnf); first | refine sK ?_ | (refine sB ?_; repeat' (first | refine sb0 ?_ | (refine sb2 ?_ ?_ <;> intro hb <;> try exact cls))) | ((with_reducible refine isCall ?_); first | (refine call_pure (c_strings_genSplit l c hl) rfl rfl ?_)) | ((with_reducible refine isCallQ ?_); first | (refine callQ_pure (c_strings_genSplit l c hl) rfl rfl ?_)) | refine sP ?_ | (refine sE ?_; intro x hx) | (refine sF ?_; intro i y hi hy) | (refine sI ?_; intro i hi) | (refine sL ?_; intro hlen) | (refine sQ ?_; intro c hc hcm; try simp only [lnM, lnA, lnC, lnN] at hc) | (refine sX ?_; intro i1 i2 hi1 hi2 hj1 hj2; try simp only [cutL, lnM, lnA, lnC, lnN, lnT, lnD, lnR] at hi1 hi2 hj2) | refine sD ?_ | (refine ret_pick [] rfl rfl rfl ⟨?_, rfl⟩; conv => lhs; whnf) | (refine ret_pick [0] rfl rfl rfl ⟨rfl, ?_⟩) | (refine sH ?_; clear hn he hr Q')))
end Go.Eng
