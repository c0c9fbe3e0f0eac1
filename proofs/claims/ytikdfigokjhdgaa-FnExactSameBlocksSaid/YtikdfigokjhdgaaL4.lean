/-
  The program's SameBlocks returns what the reference's returns, for all arguments.
  No conditions.
-/
import Derived.Test.YtikdfigokjhdgaaT6
import Derived.Test.YtikdfigokjhdgaaRows
import Derived.Test.YtikdfigokjhdgaaChecked
import Derived.ProofKit
import Derived.OpenShut
import Derived.ShutString
import Derived.ChangeOld
namespace Go.Proofs.Ytikdfigokjhdgaa
open Go Go.ChangeShapes Go.WideShapes Go.ChangeAt Go.RowKit Go.Eng

theorem own : ownKnob Try.prog.godebug = none := by kernel_rfl
theorem laidOut : laidOutB Try.prog = true := by kernel_rfl

theorem opensString : Opens Try.prog 9 (fun l : List UInt8 => [.str l]) (fun l => l.length ≤ maxLen) := Opens.string Try.underlying9
theorem opensBlk : Opens Try.prog 46 encBlk (fun _ => True) :=
  Opens.turn (fun x : List UInt8 × List UInt8 × List UInt8 × Unit => Blk.mk x.1 x.2.1 x.2.2.1) (fun _ => rfl) (fun _ _ => trivial)
    (Opens.struct 3 Try.underlying46 (by kernel_rfl) (fun _ => rfl) (OpensF.cons (k := 1) rfl (fun _ => rfl) opensString (OpensF.cons (k := 1) rfl (fun _ => rfl) opensString (OpensF.cons (k := 1) rfl (fun _ => rfl) opensString OpensF.nil))))
theorem opensBlks : Opens Try.prog 28 (fun l : List Blk => [.sl 3 (l.map encBlk)]) (fun l => ∀ x ∈ l, True) := Opens.slice 3 Try.underlying28 (by kernel_rfl) (by decide) opensBlk

set_option maxRecDepth 100000 in
theorem lifted4 (os : Os) (started : os.Started) (H : Type) (enc : TypeId × Value → H) :
    ReturnsInHanded {} Try.checked os 4 .any (Rows.fnExactSameBlocksSpec.pre6 enc Try.prog Try.f4 Rows.fnExactSameBlocksRow.domain false) (Rows.fnExactSameBlocksSpec.post enc Try.prog Try.f4 false true false false) := by
  refine returnsInHanded_of_change (C := Try.checked) own started (by kernel_rfl) Try.func4
    (ChangeSpec.witness6 (enc := enc) (C := Try.checked) false ⟨#[], #[.slice none 0 0, .slice none 0 0], []⟩ 8 (by kernel_rfl) (by kernel_rfl) (by kernel_rfl) (by kernel_rfl)) ?_
  intro W base args ds gs before hval0 hW hcnd _
  have hval : ∀ (j : Nat) t v, Try.f4.params[j]? = some t → args[j]? = some v → Value.okWide Try.prog W .any base t v := hval0
  have hW' := hW
  obtain ⟨p, q, hA0, hV, rfl, hfz, hnd⟩ := hW
  have hA : DataW.TrodAll enc Try.prog W 0 (fun _ => true) true Try.f4.params.toList args.toList ds p := hA0
  rw [Try.params4] at hA hval
  obtain ⟨v0, vs0, d0, ds0, p0, q0, hargs, rfl, rfl, h0, r0⟩ := trodAll_cons hA
  obtain ⟨v1, vs1, d1, ds1, p1, q1, rfl, rfl, rfl, h1, r1⟩ := trodAll_cons r0
  obtain ⟨rfl, rfl, rfl⟩ := trodAll_nil r1
  obtain rfl : args = #[v0, v1] := by cases args; simp_all
  obtain ⟨rfl, rfl⟩ := trodVars_none hV
  have lt0 : ∀ x ∈ p0, x.block < W.heap.size := by obtain ⟨m, hm⟩ := h0; exact DataW.trod_lt m _ _ _ hm
  have lt1 : ∀ x ∈ p1, x.block < W.heap.size := by obtain ⟨m, hm⟩ := h1; exact DataW.trod_lt m _ _ _ hm
  obtain ⟨a0, len0, cap0, rfl⟩ := okWide_slice Try.underlying28 (hval 0 28 v0 rfl rfl)
  obtain ⟨a1, len1, cap1, rfl⟩ := okWide_slice Try.underlying28 (hval 1 28 v1 rfl rfl)
  obtain ⟨x0, k0, w0⟩ := opensBlks.one (by simp [Value.cells]) h0
  obtain ⟨x1, k1, w1⟩ := opensBlks.one (by simp [Value.cells]) h1
  clear hA0 hval0
  refine ((c4 x0 x1).truth (w := W) (vs := [_, _]) rfl (fun i hi => ?_)).mono fun e W' ⟨he, bel⟩ => ?_
  · match i, hi with
    | 0, _ => exact w0
    | 1, _ => exact w1
  subst he
  exact ⟨_, rfl, _, _, _, [], _, [], hW', trodAll_mk1 (shut_bool Try.underlying4 _), (trodAll_cons_mk (Below.trod laidOut (by kernel_rfl) (of_decide_eq_true (by kernel_rfl)) h0 bel lt0) (trodAll_cons_mk (Below.trod laidOut (by kernel_rfl) (of_decide_eq_true (by kernel_rfl)) h1 bel lt1) trodAll_mk0)), rfl, bel.frame _, fun h => by cases h⟩

theorem over4 : Rows.fnExactSameBlocksRow.holds Try.pinned (OpenSpec.ofChange Rows.fnExactSameBlocksSpec) :=
  OpenClaim.holds_of_wide 4 Try.f4 rfl rfl rfl rfl rfl rfl rfl ⟨rfl, rfl, rfl, rfl, rfl⟩ rfl rfl rfl rfl rfl (by kernel_rfl) Try.func4 (by kernel_rfl)
    (of_decide_eq_true (by kernel_rfl)) (by unfold Func.isWrapper; first | (rw [if_pos (by decide +kernel)]; kernel_rfl) | (rw [if_neg (by decide +kernel)]; exact ⟨rfl, rfl⟩))
    (fun os started H enc _ => lifted4 os started H enc)

theorem sameBlocks : Rows.FnExactSameBlocksSaid := over4
#print axioms sameBlocks
end Go.Proofs.Ytikdfigokjhdgaa
