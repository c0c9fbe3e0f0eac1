/-
  All findings are those of the parts, a house passes exactly if there are none, and without fixtures all cues miss their targets.
  No conditions.
-/
import Derived.Test.YtieiboeboejmkaaGreatDoorAUD
import Derived.Test.YtieiboeboejmkaaGreatDoorOB
import Derived.Test.YtieiboeboejmkaaGreatDoorRows
import Derived.Test.YtieiboeboejmkaaGreatDoorCards
import Derived.Test.YtieiboeboejmkaaGreatDoorTie
import Derived.Test.YtieiboeboejmkaaGreatDoorChecked
import Derived.Test.YtieiboeboejmkaaGreatDoorPF
import Derived.Test.YtieiboeboejmkaaGreatDoorPG
import Derived.ProofKit
import Derived.OpenShut
import Derived.ShutString
import Derived.ChangeOld
import Derived.LaidMore
import Derived.Lay
import Derived.LaidHandle
import Derived.MakeChecks
import Derived.OpenVars
import Derived.SevenTiedAt
import Derived.Stop.Joined
set_option linter.unusedVariables false
set_option linter.unusedSimpArgs false
namespace Go.Eng
open Go Go.RowKit Go.Proofs
set_option maxRecDepth 100000
end Go.Eng

namespace Go.Proofs.YtieiboeboejmkaaGreatDoor
open Go Go.ChangeShapes Go.WideShapes Go.ChangeAt Go.WideMaps Go.WideElems Go.RowKit Go.Eng

theorem gV0 : Tryz.prog.globalNamed "math/bits.deBruijn32tab" = some 6 := by kernel_rfl
theorem gV1 : Tryz.prog.globalNamed "math/bits.deBruijn64tab" = some 7 := by kernel_rfl
theorem gV2 : Tryz.prog.globalNamed "internal/strconv.uint64pow10" = some 3 := by kernel_rfl
theorem gV3 : Tryz.prog.globalNamed "loop.example/g00955/impl.codeNames" = some 1 := by kernel_rfl
theorem gV4 : Tryz.prog.globalNamed "loop.example/g00955/impl.sines" = some 2 := by kernel_rfl
theorem gV5 : Tryz.prog.globalNamed "loop.example/g00955/impl.findingNames" = some 0 := by kernel_rfl
theorem opens_uint8 : Opens Tryz.prog 5 byteE (fun _ : UInt8 => True) := Opens.byte Tryz.underlying5
theorem opens_uint8S : Opens Tryz.prog 22 (fun l : List (UInt8) => [.sl 1 (l.map byteE)]) (fun l : List (UInt8) => ∀ x ∈ l, (fun _ : UInt8 => True) x) := Opens.slice 1 Tryz.underlying22 (by kernel_rfl) (by decide) opens_uint8
theorem door_met (os : Os) (args : Array Value) : laidMetH Tryz.prog [("math/bits.deBruijn32tab", Rows.laid_math_bits_deBruijn32tab), ("math/bits.deBruijn64tab", Rows.laid_math_bits_deBruijn64tab), ("internal/strconv.uint64pow10", Rows.laid_internal_strconv_uint64pow10), ("loop.example/g00955/impl.codeNames", Rows.laid_loop_example_g00955_impl_codeNames), ("loop.example/g00955/impl.sines", Rows.laid_loop_example_g00955_impl_sines), ("loop.example/g00955/impl.findingNames", Rows.laid_loop_example_g00955_impl_findingNames)] ((World.laidAll Tryz.prog os [("math/bits.deBruijn32tab", Rows.laid_math_bits_deBruijn32tab), ("math/bits.deBruijn64tab", Rows.laid_math_bits_deBruijn64tab), ("internal/strconv.uint64pow10", Rows.laid_internal_strconv_uint64pow10), ("loop.example/g00955/impl.codeNames", Rows.laid_loop_example_g00955_impl_codeNames), ("loop.example/g00955/impl.sines", Rows.laid_loop_example_g00955_impl_sines), ("loop.example/g00955/impl.findingNames", Rows.laid_loop_example_g00955_impl_findingNames)]).forCall (fun _ _ => 0) ⟨#[], args, []⟩).memory := by
  rw [MakeChecks.laidMetH_plain _ _ _ (by kernel_rfl)]
  exact laidMet_laidAll args (by kernel_rfl) (by kernel_rfl)
theorem trodVars_len {H : Type} {enc : TypeId × Value → H} {P : Program} {w : World} {spare : Nat → Bool} : ∀ {ns : List String} {gs : List (DataW H)} {ps : List MemPlace}, DataW.TrodVars enc P w spare ns gs ps → gs.length = ns.length
  | [], [], _, _ => rfl
  | _ :: _, _ :: _, _, h => by
    obtain ⟨_, _, _, _, _, _, _, _, _, _, h2, _⟩ := h
    simp [trodVars_len h2]
  | [], _ :: _, _, h => h.elim
  | _ :: _, [], _, h => h.elim
theorem vars_split3 {α : Type} {gs : List α} (h : gs.length = 3) : ∃ a0 a1 a2, gs = [a0, a1, a2] :=
  match gs, h with
  | [a0, a1, a2], _ => ⟨a0, a1, a2, rfl⟩
theorem of_laid {W : World} (h : laidMetH Tryz.prog [("math/bits.deBruijn32tab", Rows.laid_math_bits_deBruijn32tab), ("math/bits.deBruijn64tab", Rows.laid_math_bits_deBruijn64tab), ("internal/strconv.uint64pow10", Rows.laid_internal_strconv_uint64pow10), ("loop.example/g00955/impl.codeNames", Rows.laid_loop_example_g00955_impl_codeNames), ("loop.example/g00955/impl.sines", Rows.laid_loop_example_g00955_impl_sines), ("loop.example/g00955/impl.findingNames", Rows.laid_loop_example_g00955_impl_findingNames)] W) : ∀ g cs, GF g = some cs → GlobOK (fun b => b < W.heap.size) W g cs := by
  rw [MakeChecks.laidMetH_plain _ _ _ (by kernel_rfl)] at h
  obtain ⟨ps, hA, _⟩ := h
  obtain ⟨g0, t0, cs0, f0, p0, q0, hg0, ht0, hv0, hd0, hA0, _⟩ := hA
  obtain rfl := Option.some.inj (gV0.symm.trans hg0)
  obtain ⟨g1, t1, cs1, f1, p1, q1, hg1, ht1, hv1, hd1, hA1, _⟩ := hA0
  obtain rfl := Option.some.inj (gV1.symm.trans hg1)
  obtain ⟨g2, t2, cs2, f2, p2, q2, hg2, ht2, hv2, hd2, hA2, _⟩ := hA1
  obtain rfl := Option.some.inj (gV2.symm.trans hg2)
  obtain ⟨g3, t3, cs3, f3, p3, q3, hg3, ht3, hv3, hd3, hA3, _⟩ := hA2
  obtain rfl := Option.some.inj (gV3.symm.trans hg3)
  obtain ⟨g4, t4, cs4, f4, p4, q4, hg4, ht4, hv4, hd4, hA4, _⟩ := hA3
  obtain rfl := Option.some.inj (gV4.symm.trans hg4)
  obtain ⟨g5, t5, cs5, f5, p5, q5, hg5, ht5, hv5, hd5, hA5, _⟩ := hA4
  obtain rfl := Option.some.inj (gV5.symm.trans hg5)
  intro g cs hG
  simp only [GF, G1] at hG
  split at hG
  · rename_i he
    subst he
    cases hG
    obtain rfl : t2 = 365 := Option.some.inj (ht2.symm.trans (show (Tryz.prog.globals[3]?).map (·.type) = some 365 by kernel_rfl))
    have e := ints_of_array (ls := Lib.pow10Tab) (p := p2) Tryz.underlying365 Tryz.underlying169 (by kernel_rfl) (by kernel_rfl) hd2
    exact glob_ints gV2 hv2 e
  split at hG
  · rename_i he
    subst he
    cases hG
    obtain rfl : t3 = 288 := Option.some.inj (ht3.symm.trans (show (Tryz.prog.globals[1]?).map (·.type) = some 288 by kernel_rfl))
    have e := strs_of_array (ls := codeL) (p := p3) Tryz.underlying288 Tryz.underlying9 (by kernel_rfl) (by kernel_rfl) hd3
    exact glob_strs gV3 hv3 e.1 e.2
  split at hG
  · rename_i he
    subst he
    cases hG
    obtain rfl : t4 = 345 := Option.some.inj (ht4.symm.trans (show (Tryz.prog.globals[2]?).map (·.type) = some 345 by kernel_rfl))
    have e := ints_of_array (ls := sineT) (p := p4) Tryz.underlying345 Tryz.underlying2 (by kernel_rfl) (by kernel_rfl) hd4
    exact glob_ints gV4 hv4 e
  split at hG
  · rename_i he
    subst he
    cases hG
    obtain rfl : t5 = 130 := Option.some.inj (ht5.symm.trans (show (Tryz.prog.globals[0]?).map (·.type) = some 130 by kernel_rfl))
    have e := strs_of_array (ls := kindNames) (p := p5) Tryz.underlying130 Tryz.underlying9 (by kernel_rfl) (by kernel_rfl) hd5
    exact glob_strs gV5 hv5 e.1 e.2
  cases hG

set_option maxRecDepth 100000 in
theorem lifted (os : Os) (started : os.Started) (H : Type) (enc : TypeId × Value → H) :
    ReturnsInHanded {} Tryz.checked os 4 .any (fun w args => (Rows.fnAuditSpec.pre enc Tryz.prog Tryz.f4 [] false w args ∧ laidMetH Tryz.prog [("math/bits.deBruijn32tab", Rows.laid_math_bits_deBruijn32tab), ("math/bits.deBruijn64tab", Rows.laid_math_bits_deBruijn64tab), ("internal/strconv.uint64pow10", Rows.laid_internal_strconv_uint64pow10), ("loop.example/g00955/impl.codeNames", Rows.laid_loop_example_g00955_impl_codeNames), ("loop.example/g00955/impl.sines", Rows.laid_loop_example_g00955_impl_sines), ("loop.example/g00955/impl.findingNames", Rows.laid_loop_example_g00955_impl_findingNames)] w) ∧ sizedMet enc Tryz.prog Tryz.f4 (OpenSpec.ofChange Rows.fnAuditSpec) false w args)
      (Rows.fnAuditSpec.post enc Tryz.prog Tryz.f4 false true false false) := by
  refine returnsInHanded_of_change_and (C := Tryz.checked) (X := fun w _ => laidMetH Tryz.prog [("math/bits.deBruijn32tab", Rows.laid_math_bits_deBruijn32tab), ("math/bits.deBruijn64tab", Rows.laid_math_bits_deBruijn64tab), ("internal/strconv.uint64pow10", Rows.laid_internal_strconv_uint64pow10), ("loop.example/g00955/impl.codeNames", Rows.laid_loop_example_g00955_impl_codeNames), ("loop.example/g00955/impl.sines", Rows.laid_loop_example_g00955_impl_sines), ("loop.example/g00955/impl.findingNames", Rows.laid_loop_example_g00955_impl_findingNames)] w) (fun _ _ _ hh h => h.of_heap hh) own started (by kernel_rfl) Tryz.func4
    (ChangeSpec.witness_shaped (enc := enc) (C := Tryz.checked) (os := os) (X := fun w _ => laidMetH Tryz.prog [("math/bits.deBruijn32tab", Rows.laid_math_bits_deBruijn32tab), ("math/bits.deBruijn64tab", Rows.laid_math_bits_deBruijn64tab), ("internal/strconv.uint64pow10", Rows.laid_internal_strconv_uint64pow10), ("loop.example/g00955/impl.codeNames", Rows.laid_loop_example_g00955_impl_codeNames), ("loop.example/g00955/impl.sines", Rows.laid_loop_example_g00955_impl_sines), ("loop.example/g00955/impl.findingNames", Rows.laid_loop_example_g00955_impl_findingNames)] w) false (World.laidAll Tryz.prog os [("math/bits.deBruijn32tab", Rows.laid_math_bits_deBruijn32tab), ("math/bits.deBruijn64tab", Rows.laid_math_bits_deBruijn64tab), ("internal/strconv.uint64pow10", Rows.laid_internal_strconv_uint64pow10), ("loop.example/g00955/impl.codeNames", Rows.laid_loop_example_g00955_impl_codeNames), ("loop.example/g00955/impl.sines", Rows.laid_loop_example_g00955_impl_sines), ("loop.example/g00955/impl.findingNames", Rows.laid_loop_example_g00955_impl_findingNames)]) #[.slice none 0 0] 8 (World.laidAll_os _ _ _) (World.shaped_of_ZipB (by kernel_rfl) (by kernel_rfl)) (by kernel_rfl) (by kernel_rfl) (by kernel_rfl) (door_met os _)) ?_
  intro W base args ds gs before hval0 hW _ _ hL _
  have hval : ∀ (j : Nat) t v, Tryz.f4.params[j]? = some t → args[j]? = some v → Value.okWide Tryz.prog W .any base t v := hval0
  have hW' := hW
  obtain ⟨p, q, hA0, hV, rfl, hfz, hnd⟩ := hW
  have hA : DataW.TrodAll enc Tryz.prog W 0 (fun _ => true) true Tryz.f4.params.toList args.toList ds p := hA0
  rw [Tryz.params4] at hA hval
  have hlaid := of_laid hL
  obtain ⟨v0, vs0, d0, ds0, p0, q0, hargs, rfl, rfl, h0, r0⟩ := trodAll_cons hA
  obtain ⟨rfl, rfl, rfl⟩ := trodAll_nil r0
  obtain rfl : args = #[v0] := by cases args; simp_all
  obtain ⟨dq0, dq1, dq2, rfl⟩ : ∃ dq0 dq1 dq2, gs = [dq0, dq1, dq2] := vars_split3 (trodVars_len hV)
  have lt0 : ∀ x ∈ p0, x.block < W.heap.size := by obtain ⟨m, hm⟩ := h0; exact DataW.trod_lt m _ _ _ hm
  obtain ⟨a0, len0, cap0, rfl⟩ := okWide_slice Tryz.underlying22 (hval 0 22 v0 rfl rfl)
  obtain ⟨x0, k0, w0⟩ := opens_uint8S.one (by simp [Value.cells]) h0
  clear hA0 hval0
  refine ((c_FnAudit x0 k0).truthG (w := W) (vs := [_]) rfl hlaid (fun i hi => ?_)).mono fun e W' ⟨he, bel⟩ => ?_
  · match i, hi with
    | 0, _ => exact w0
  subst he
  exact ⟨_, rfl, _, _, _, [], _, _, hW', trodAll_mk1 (shut_bool Tryz.underlying4 _), (trodAll_cons_mk (Below.trod laidOut (by kernel_rfl) (of_decide_eq_true (by kernel_rfl)) h0 bel lt0) trodAll_mk0), Below.trodVars laidOut bel (by kernel_rfl) hV, bel.frame _, fun h => by cases h⟩

end Go.Proofs.YtieiboeboejmkaaGreatDoor
