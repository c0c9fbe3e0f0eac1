/-
  Blocks as bytes, by the reference.
  No conditions.
-/
import Derived.Test.YtbpbhjlochijdaaGreatDoorED
import Derived.Test.YtbpbhjlochijdaaGreatDoorAR1
import Derived.Test.YtbpbhjlochijdaaGreatDoorBA
import Derived.Test.YtbpbhjlochijdaaGreatDoorD1
import Derived.Test.YtbpbhjlochijdaaGreatDoorLT
import Derived.Test.YtbpbhjlochijdaaGreatDoorPB0
import Derived.Lib.ItoaLen
set_option linter.unusedVariables false
set_option linter.unusedSimpArgs false
set_option maxHeartbeats 4000000
namespace Go.Eng
open Go Go.RowKit Go.Proofs
set_option maxRecDepth 100000
theorem nameB_len {l : List UInt8} (h : nameB l = true) : l.length ≤ 10 := by
  simp only [nameB, Bool.and_eq_true, decide_eq_true_eq] at h
  exact h.2.1
theorem partsB_len {b : TBlock} (h : validB b = true) : b.fKind.length ≤ 10 ∧ b.fName.length ≤ 10 ∧ b.fText.length ≤ 400 := by
  simp only [validB, Bool.and_eq_true, decide_eq_true_eq] at h
  exact ⟨nameB_len h.1, nameB_len h.2.1, h.2.2.1⟩
theorem restB_len {b : TBlock} (h : validB b = true) : (restB b).length ≤ 422 := by
  have := partsB_len h
  simp [restB]
  omega
theorem fiveL_len (l : List UInt8) (h : l.length ≤ 21) : (fiveL l).length ≤ 26 := by
  simp [fiveL]
  omega
theorem crc_text_len (n : Nat) (h : n ≤ 65535) : (Lib.itoa (n : Int)).length ≤ 21 := by
  have := Lib.itoa_length_le (n : Int) (by omega) (by omega)
  omega
theorem lineOf_len {b : TBlock} (hv : validB b = true) : (lineOf b).length ≤ 460 := by
  have hrl := restB_len hv
  have hn : crcL (restB b) 65535 ≤ 65535 := by have := crcL_lt (x := 65535) (l := restB b) (by decide); omega
  have h1 := fiveL_len _ (crc_text_len _ hn)
  unfold lineOf
  simp only [List.length_append, List.length_cons, List.length_nil]
  unfold crcT
  omega
theorem c_spec_l29Line (b : TBlock) (hv : validB b = true) : FnC Tryz.prog 112 G0 0 [] [.rp (encBlock b)] (fun d os => d = .str (lineOf b) ∧ os = []) := by
  have hrl := restB_len hv
  obtain ⟨hp1, hp2, hp3⟩ := partsB_len hv
  have hcn : crcL (restB b) 65535 ≤ 65535 := by have := crcL_lt (x := 65535) (l := restB b) (by decide); omega
  have h1 := fiveL_len _ (crc_text_len _ hcn)
  refine fn_rule Tryz.func112 rfl (by decide +kernel) rfl (fun w0 F0 lent β0 => ?_)
  repeat' (first | refine sC ?_ | ((with_reducible refine isAwp ?_); first | (refine sS ?_; intro Q' hn he hr) | refine sA ?_) | (refine sH ?_; clear hn he hr Q') | refine sO ?_ | ((conv => whnf); first | refine sK ?_ | (refine sB ?_; repeat' (first | refine sb0 ?_ | (refine sb2 ?_ ?_ <;> intro hb <;> try exact cls))) | (refine AskS.mk ⟨by (first | (simp; unfold maxLen; omega) | (simp [restB] at *; unfold maxLen; omega)), ?_⟩) | ((with_reducible refine isCall ?_); first | (refine call_pure ((c_spec_l01Crc (restB b) (by omega))) rfl rfl ?_) | (refine call_pure ((c_spec_l29Five _ hcn)) rfl rfl ?_)) | ((with_reducible refine isCallQ ?_); first | (refine callQ_pure ((c_spec_l01Crc (restB b) (by omega))) rfl rfl ?_) | (refine callQ_pure ((c_spec_l29Five _ hcn)) rfl rfl ?_)) | refine sP ?_ | (refine sE ?_; intro x hx) | (refine sF ?_; intro i y hi hy) | (refine sI ?_; intro i hi) | (refine sL ?_; intro hlen) | (refine sQ ?_; intro c hc hcm; try simp only [lnM, lnA, lnC, lnN] at hc) | (refine sX ?_; intro i1 i2 hi1 hi2 hj1 hj2; try simp only [cutL, lnM, lnA, lnC, lnN, lnT, lnD, lnR] at hi1 hi2 hj2) | refine sD ?_ | (refine ret_pick [] rfl rfl rfl ⟨?_, rfl⟩; conv => lhs; whnf) | (refine ret_pick [0] rfl rfl rfl ⟨rfl, ?_⟩) | (refine sH ?_; clear hn he hr Q')))
  all_goals exact congrArg D.str (by simp [lineOf, crcT, restB])
theorem saveTo_len {L : List TBlock} (hv : validBs L = true) (k : Nat) : (saveTo L k).length ≤ 20000 := by
  obtain ⟨hl, hval, hch⟩ := validBs_iff.1 hv
  have h1 : ∀ (M : List TBlock), (∀ b ∈ M, validB b = true) → ((M.map lineOf).flatten).length ≤ 460 * M.length := by
    intro M
    induction M with
    | nil => intro _; simp
    | cons m M ih =>
      intro h
      have h2 := ih fun b hb => h b (by simp [hb])
      have h3 := lineOf_len (h m (by simp))
      rw [List.map_cons, List.flatten_cons, List.length_append, List.length_cons]
      omega
  have h2 := h1 (L.take k) fun b hb => hval b (List.mem_of_mem_take hb)
  have h3 := crc_text_len L.length (by omega)
  have h4 : (L.take k).length ≤ 32 := by rw [List.length_take]; omega
  unfold saveTo headL
  simp only [List.length_append, List.length_cons, List.length_nil]
  omega
theorem c_spec_l29Save (L : List TBlock) (hv : validBs L = true) : FnC Tryz.prog 74 G0 0 [] [.sl 3 (L.map encBlock)] (fun d os => d = .str (saveTo L L.length) ∧ os = []) := by
  obtain ⟨hl, hval, hch⟩ := validBs_iff.1 hv
  have h3 := crc_text_len L.length (by omega)
  refine fn_rule Tryz.func74 rfl (by decide +kernel) rfl (fun w0 F0 lent β0 => ?_)
  repeat' (first | refine sC ?_ | ((with_reducible refine isAwp ?_); first | (refine sS ?_; intro Q' hn he hr) | refine sA ?_) | (refine sH ?_; clear hn he hr Q') | refine sO ?_ | ((conv => whnf); first | refine sK ?_ | (refine sB ?_; repeat' (first | refine sb0 ?_ | (refine sb2 ?_ ?_ <;> intro hb <;> try exact cls))) | (refine AskS.mk ⟨by (first | (simp; unfold maxLen; omega)), ?_⟩) | ((with_reducible refine isCall ?_); first | (refine call_pure ((c_spec_l01Dec L.length (by omega))) rfl rfl ?_)) | ((with_reducible refine isCallQ ?_); first | (refine callQ_pure ((c_spec_l01Dec L.length (by omega))) rfl rfl ?_)) | refine sP ?_ | (refine sE ?_; intro x hx) | (refine sF ?_; intro i y hi hy) | (refine sI ?_; intro i hi) | (refine sL ?_; intro hlen) | (refine sQ ?_; intro c hc hcm; try simp only [lnM, lnA, lnC, lnN] at hc) | (refine sX ?_; intro i1 i2 hi1 hi2 hj1 hj2; try simp only [cutL, lnM, lnA, lnC, lnN, lnT, lnD, lnR] at hi1 hi2 hj2) | refine sD ?_ | (refine ret_pick [] rfl rfl rfl ⟨?_, rfl⟩; conv => lhs; whnf) | (refine ret_pick [0] rfl rfl rfl ⟨rfl, ?_⟩) | (refine sH ?_; clear hn he hr Q')))
  have e0 : D.str ((List.append [97, 114, 99, 104, 105, 118, 101, 32] (Lib.itoa L.length)) ++ [10]) = D.str (saveTo L 0) := congrArg D.str (by simp [saveTo, headL])
  refine loop_env (fun k : Nat => [(0,.sl 3 (L.map encBlock)),(3,.str (saveTo L k)),(4,.int .i64 k)]) (fun k => []) (fun k => k ≤ L.length) (fun k => L.length - k) 0 (by omega) (by refine weak_to rfl rfl rfl ?_; exact ⟨rfl, e0.symm, rfl, trivial⟩) (fun k hk Q' hn he hr => ?_)
  have hsl := saveTo_len hv k
  repeat' (first | refine sC ?_ | ((with_reducible refine isAwp ?_); first | (refine sS ?_; intro Q' hn he hr) | refine sA ?_) | (refine sH ?_; clear hn he hr Q') | refine sO ?_ | ((conv => whnf); first | refine sK ?_ | (refine sB ?_; repeat' (first | refine sb0 ?_ | (refine sb2 ?_ ?_ <;> intro hb <;> try exact cls))) | (refine AskS.mk ⟨by (first | (have := lineOf_len (hval x (List.mem_of_getElem? hx)); unfold maxLen; omega)), ?_⟩) | ((with_reducible refine isCall ?_); first | (refine call_pure ((c_spec_l29Line x (hval x (List.mem_of_getElem? hx)))) rfl rfl ?_)) | ((with_reducible refine isCallQ ?_); first | (refine callQ_pure ((c_spec_l29Line x (hval x (List.mem_of_getElem? hx)))) rfl rfl ?_)) | refine sP ?_ | (refine sE ?_; intro x hx) | (refine sF ?_; intro i y hi hy) | (refine sI ?_; intro i hi) | (refine sL ?_; intro hlen) | (refine sQ ?_; intro c hc hcm; try simp only [lnM, lnA, lnC, lnN] at hc) | (refine sX ?_; intro i1 i2 hi1 hi2 hj1 hj2; try simp only [cutL, lnM, lnA, lnC, lnN, lnT, lnD, lnR] at hi1 hi2 hj2) | refine sD ?_ | (refine ret_pick [] rfl rfl rfl ⟨?_, rfl⟩; conv => lhs; whnf) | (refine ret_pick [0] rfl rfl rfl ⟨rfl, ?_⟩) | (refine sH ?_; clear hn he hr Q')))
  · exact ⟨k + 1, by omega, by omega, (by refine weak_to rfl rfl rfl ?_; exact ⟨rfl, congrArg D.str (saveTo_succ hx), rfl, trivial⟩)⟩
  · have : k = L.length := by omega
    rw [this]
theorem c_spec_SaveBlocks_ok (L : List TBlock) (hv : validBs L = true) : FnC Tryz.prog 28 G0 0 [] [.sl 3 (L.map encBlock)] (fun d os => d = .tup [.str (saveTo L L.length), .int .i64 0] ∧ os = []) := by
  obtain ⟨hl, hval, hch⟩ := validBs_iff.1 hv
  refine fn_rule Tryz.func28 rfl (by decide +kernel) rfl (fun w0 F0 lent β0 => ?_)
  repeat' (first | refine sC ?_ | ((with_reducible refine isAwp ?_); first | (refine sS ?_; intro Q' hn he hr) | refine sA ?_) | (refine sH ?_; clear hn he hr Q') | refine sO ?_ | ((conv => whnf); first | refine sK ?_ | (refine sB ?_; repeat' (first | refine sb0 ?_ | (refine sb2 ?_ ?_ <;> intro hb <;> try exact cls))) | ((with_reducible refine isCall ?_); first | (refine call_pure (c_spec_l29Ok L) rfl rfl ?_) | (refine call_pure ((c_spec_l29Save L hv)) rfl rfl ?_)) | ((with_reducible refine isCallQ ?_); first | (refine callQ_pure (c_spec_l29Ok L) rfl rfl ?_) | (refine callQ_pure ((c_spec_l29Save L hv)) rfl rfl ?_)) | refine sP ?_ | (refine sE ?_; intro x hx) | (refine sF ?_; intro i y hi hy) | (refine sI ?_; intro i hi) | (refine sL ?_; intro hlen) | (refine sQ ?_; intro c hc hcm; try simp only [lnM, lnA, lnC, lnN] at hc) | (refine sX ?_; intro i1 i2 hi1 hi2 hj1 hj2; try simp only [cutL, lnM, lnA, lnC, lnN, lnT, lnD, lnR] at hi1 hi2 hj2) | refine sD ?_ | (refine ret_pick [] rfl rfl rfl ⟨?_, rfl⟩; conv => lhs; whnf) | (refine ret_pick [0] rfl rfl rfl ⟨rfl, ?_⟩) | (refine sH ?_; clear hn he hr Q')))
  all_goals first | rfl | (rw [hv] at hb; cases hb)
theorem c_spec_SaveBlocks_bad (L : List TBlock) (hv : validBs L = false) : FnC Tryz.prog 28 G0 0 [] [.sl 3 (L.map encBlock)] (fun d os => d = .tup [.str [], .int .i64 1] ∧ os = []) := by
  refine fn_rule Tryz.func28 rfl (by decide +kernel) rfl (fun w0 F0 lent β0 => ?_)
  repeat' (first | refine sC ?_ | ((with_reducible refine isAwp ?_); first | (refine sS ?_; intro Q' hn he hr) | refine sA ?_) | (refine sH ?_; clear hn he hr Q') | refine sO ?_ | ((conv => whnf); first | refine sK ?_ | (refine sB ?_; repeat' (first | refine sb0 ?_ | (refine sb2 ?_ ?_ <;> intro hb <;> try exact cls))) | ((with_reducible refine isCall ?_); first | (refine call_pure (c_spec_l29Ok L) rfl rfl ?_)) | ((with_reducible refine isCallQ ?_); first | (refine callQ_pure (c_spec_l29Ok L) rfl rfl ?_)) | refine sP ?_ | (refine sE ?_; intro x hx) | (refine sF ?_; intro i y hi hy) | (refine sI ?_; intro i hi) | (refine sL ?_; intro hlen) | (refine sQ ?_; intro c hc hcm; try simp only [lnM, lnA, lnC, lnN] at hc) | (refine sX ?_; intro i1 i2 hi1 hi2 hj1 hj2; try simp only [cutL, lnM, lnA, lnC, lnN, lnT, lnD, lnR] at hi1 hi2 hj2) | refine sD ?_ | (refine ret_pick [] rfl rfl rfl ⟨?_, rfl⟩; conv => lhs; whnf) | (refine ret_pick [0] rfl rfl rfl ⟨rfl, ?_⟩) | (refine sH ?_; clear hn he hr Q')))
  all_goals first | rfl | (rw [hv] at hb; cases hb)
end Go.Eng
