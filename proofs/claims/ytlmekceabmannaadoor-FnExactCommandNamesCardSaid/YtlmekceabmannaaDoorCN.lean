/-
  The names of the commands, by the program and by the reference.
  No conditions.
-/
import Derived.Test.YtlmekceabmannaaDoorED
import Derived.Test.YtlmekceabmannaaDoorRW
import Derived.Test.YtlmekceabmannaaDoorShelf2
import Derived.Test.YtlmekceabmannaaDoorP1
set_option linter.unusedVariables false
set_option linter.unusedSimpArgs false
set_option maxHeartbeats 4000000
namespace Go.Eng
open Go Go.RowKit Go.Proofs
set_option maxRecDepth 100000
def cmdB : List UInt8 := "ask audit cue day dome fixture help hold level note offer projector real show site sky star uncue unpatch".toUTF8.data.toList
def cmds : List (List UInt8) := ["ask", "audit", "cue", "day", "dome", "fixture", "help", "hold", "level", "note", "offer", "projector", "real", "show", "site", "sky", "star", "uncue", "unpatch"].map fun s => s.toUTF8.data.toList
/-- The library's table of blanks. -/
def GB : Nat → Option (List D) := G1 0 (Lib.asciiSpaceTab.map fun z => .int .u8 z)
theorem cmd_fields : Lib.fields cmdB = cmds := by decide +kernel
theorem cmd_ascii : ∀ b ∈ cmdB, b.toNat < 128 := by decide +kernel
theorem cmd_lens : (∀ t ∈ cmds, t.length ≤ 20) ∧ cmds.length = 19 ∧ cmdB.length ≤ 200 := by decide +kernel
theorem alloc_grown (w : World) (o : Go.Obj) : w.grownBy (w.alloc o) none := by
  refine ⟨rfl, rfl, rfl, ?_, fun k hk _ => ?_⟩
  · show w.heap.size ≤ (w.heap.push o).size
    rw [Array.size_push]
    omega
  · show (w.heap.push o)[k]? = _
    rw [Array.getElem?_push_lt hk, Array.getElem?_eq_getElem hk]
theorem c_strings_Fields : FnC Tryd.prog 58 GB 0 [] [.str cmdB] (fun d os => d = .h 0 ∧ os = [.row 9 1 (cmds.map encS)]) := by
  refine FnC.of_calls_new (callFunc_enter Tryd.func58 rfl (by decide +kernel)) fun w F vs hF hl hro hG => ?_
  have h0 : vs.getD 0 undef = .string ⟨cmdB.toArray⟩ := (Rep.ro (β := fun _ => none) _ _ (hro 0 (Nat.lt_of_sub_eq_succ rfl))).str_inv
  have hvs : vs = [vs.getD 0 undef] := by
    match vs, hl with
    | [v], _ => rfl
  rw [hvs, h0]
  obtain ⟨hc1, hc2, hc3⟩ := cmd_lens
  have htab := tabIs_of (g := 0) (name := "strings.asciiSpace") (P := Tryd.prog) (by kernel_rfl) (hG 0 _ rfl)
  refine (Tryd.strings_Fields ⟨cmdB.toArray⟩ w (by simp [ByteArray.size]; omega) (fun j b hb => cmd_ascii b (List.mem_of_getElem? (by simpa using hb))) htab).mono ?_
  rintro e w' ⟨rfl, rfl⟩
  have ef : Lib.fields (⟨cmdB.toArray⟩ : ByteArray).data.toList = cmds := by
    rw [show (⟨cmdB.toArray⟩ : ByteArray).data.toList = cmdB by simp]
    exact cmd_fields
  rw [ef]
  refine ⟨_, rfl, alloc_grown _ _, ?_, fun b hb => ?_⟩
  · refine strRow_in (cur := (cmds.map fun l => Value.string ⟨l.toArray⟩).toArray) ?_ (Nat.le_refl _) (by rw [hc2]; decide) (by simp) (fun i t ht => ?_) (fun t ht => Nat.le_trans (hc1 t ht) (by decide))
    · exact Go.Eng.heap_new w _
    · rw [List.getElem?_toArray, List.getElem?_map, ht]
      rfl
  · have : w.heap.size = b := Option.some.inj hb
    omega
theorem c_impl_CommandNames : FnC Tryd.prog 15 GB 0 [] [] (fun d os => d = .h 0 ∧ os = [.row 9 1 (cmds.map encS)]) := by
  refine fn_rule Tryd.func15 rfl (by decide +kernel) rfl (fun w0 F0 lent β0 => ?_)
  repeat' (first | refine sC ?_ | ((with_reducible refine isAwp ?_); first | (refine sS ?_; intro Q' hn he hr) | refine sA ?_) | (refine sH ?_; clear hn he hr Q') | refine sO ?_ | ((conv => whnf); first | refine sK ?_ | (refine sB ?_; repeat' (first | refine sb0 ?_ | (refine sb2 ?_ ?_ <;> intro hb <;> try exact cls))) | ((with_reducible refine isCall ?_); first | (refine call_mk_look c_strings_Fields rfl (flat_one (FlatO.map fun _ => rfl)) (by first | exact (rfl : _ = 0) | exact (rfl : _ = 1) | exact (rfl : _ = 2) | exact (rfl : _ = 3) | exact (rfl : _ = 4) | exact (rfl : _ = 5) | exact (rfl : _ = 6) | exact (rfl : _ = 7) | exact (rfl : _ = 8) | exact (rfl : _ = 9) | exact (rfl : _ = 10) | exact (rfl : _ = 11) | exact (rfl : _ = 12) | exact (rfl : _ = 13) | exact (rfl : _ = 14) | exact (rfl : _ = 15) | exact (rfl : _ = 16) | exact (rfl : _ = 17) | exact (rfl : _ = 18) | exact (rfl : _ = 19) | exact (rfl : _ = 20) | exact (rfl : _ = 21) | exact (rfl : _ = 22) | exact (rfl : _ = 23) | exact (rfl : _ = 24) | exact (rfl : _ = 25) | exact (rfl : _ = 26) | exact (rfl : _ = 27) | exact (rfl : _ = 28) | exact (rfl : _ = 29) | exact (rfl : _ = 30) | exact (rfl : _ = 31) | exact (rfl : _ = 32) | exact (rfl : _ = 33) | exact (rfl : _ = 34) | exact (rfl : _ = 35) | exact (rfl : _ = 36) | exact (rfl : _ = 37) | exact (rfl : _ = 38) | exact (rfl : _ = 39)) ?_)) | refine sP ?_ | (refine sE ?_; intro x hx) | (refine sF ?_; intro i y hi hy) | (refine sI ?_; intro i hi) | (refine sL ?_; intro hlen) | (refine sQ ?_; intro c hc hcm; try simp only [lnM, lnA, lnC, lnN] at hc) | (refine sX ?_; intro i1 i2 hi1 hi2 hj1 hj2; try simp only [cutL, lnM, lnA, lnC, lnN, lnT, lnD, lnR] at hi1 hi2 hj2) | refine sD ?_ | (refine ret_pick [] rfl rfl rfl ⟨?_, rfl⟩; conv => lhs; whnf) | (refine ret_pick [0] rfl rfl rfl ⟨rfl, ?_⟩) | (refine sH ?_; clear hn he hr Q')))
  all_goals rfl
theorem c_spec_CommandNames : FnC Tryd.prog 14 G0 0 [] [] (fun d os => d = .h 0 ∧ os = [.row 9 1 (cmds.map encS)]) := by
  refine fn_rule Tryd.func14 rfl (by decide +kernel) rfl (fun w0 F0 lent β0 => ?_)
  repeat' (first | refine sC ?_ | ((with_reducible refine isAwp ?_); first | (refine sS ?_; intro Q' hn he hr) | refine sA ?_) | (refine sH ?_; clear hn he hr Q') | refine sO ?_ | ((conv => whnf); first | refine sK ?_ | (refine sB ?_; repeat' (first | refine sb0 ?_ | (refine sb2 ?_ ?_ <;> intro hb <;> try exact cls))) | refine sP ?_ | (refine sE ?_; intro x hx) | (refine sF ?_; intro i y hi hy) | (refine sI ?_; intro i hi) | (refine sL ?_; intro hlen) | (refine sQ ?_; intro c hc hcm; try simp only [lnM, lnA, lnC, lnN] at hc) | (refine sX ?_; intro i1 i2 hi1 hi2 hj1 hj2; try simp only [cutL, lnM, lnA, lnC, lnN, lnT, lnD, lnR] at hi1 hi2 hj2) | refine sD ?_ | (refine ret_pick [] rfl rfl rfl ⟨?_, rfl⟩; conv => lhs; whnf) | (refine ret_pick [0] rfl rfl rfl ⟨rfl, ?_⟩) | (refine sH ?_; clear hn he hr Q')))
  all_goals rfl
end Go.Eng
