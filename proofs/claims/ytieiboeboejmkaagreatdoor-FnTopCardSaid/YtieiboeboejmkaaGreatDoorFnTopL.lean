/-
  A house that the audit passes is lit everywhere with the same total weight, no two cues drive the same thing at the same time, booked seats are good enough, files come in time, and a show has the same state whether it is played or sought.
  No conditions.
-/
import Derived.Test.YtieiboeboejmkaaGreatDoorTPX
import Derived.Test.YtieiboeboejmkaaGreatDoorOB
import Derived.Test.YtieiboeboejmkaaGreatDoorRows
import Derived.Test.YtieiboeboejmkaaGreatDoorCards
import Derived.Test.YtieiboeboejmkaaGreatDoorTie
import Derived.Test.YtieiboeboejmkaaGreatDoorChecked
import Derived.Test.YtieiboeboejmkaaGreatDoorPF
import Derived.Test.YtieiboeboejmkaaGreatDoorPG
import Derived.ProofKit
import Derived.OpenShut
import Derived.ShutString
import Derived.ChangeOld
import Derived.LaidMore
import Derived.Lay
import Derived.LaidHandle
import Derived.MakeChecks
import Derived.OpenVars
import Derived.SevenTiedAt
import Derived.Stop.Joined
set_option linter.unusedVariables false
set_option linter.unusedSimpArgs false
namespace Go.Eng
open Go Go.RowKit Go.Proofs
set_option maxRecDepth 100000
end Go.Eng

namespace Go.Proofs.YtieiboeboejmkaaGreatDoor
open Go Go.ChangeShapes Go.WideShapes Go.ChangeAt Go.WideMaps Go.WideElems Go.RowKit Go.Eng

theorem gV0 : Tryz.prog.globalNamed "math/bits.deBruijn32tab" = some 6 := by kernel_rfl
theorem gV1 : Tryz.prog.globalNamed "math/bits.deBruijn64tab" = some 7 := by kernel_rfl
theorem gV2 : Tryz.prog.globalNamed "internal/strconv.uint64pow10" = some 3 := by kernel_rfl
theorem gV3 : Tryz.prog.globalNamed "loop.example/g00955/impl.codeNames" = some 1 := by kernel_rfl
theorem gV4 : Tryz.prog.globalNamed "loop.example/g00955/impl.sines" = some 2 := by kernel_rfl
theorem opens_uint8 : Opens Tryz.prog 5 byteE (fun _ : UInt8 => True) := Opens.byte Tryz.underlying5
theorem opens_uint8S : Opens Tryz.prog 22 (fun l : List (UInt8) => [.sl 1 (l.map byteE)]) (fun l : List (UInt8) => ∀ x ∈ l, (fun _ : UInt8 => True) x) := Opens.slice 1 Tryz.underlying22 (by kernel_rfl) (by decide) opens_uint8
theorem door_met (os : Os) (args : Array Value) : laidMetH Tryz.prog [("math/bits.deBruijn32tab", Rows.laid_math_bits_deBruijn32tab), ("math/bits.deBruijn64tab", Rows.laid_math_bits_deBruijn64tab), ("internal/strconv.uint64pow10", Rows.laid_internal_strconv_uint64pow10), ("loop.example/g00955/impl.codeNames", Rows.laid_loop_example_g00955_impl_codeNames), ("loop.example/g00955/impl.sines", Rows.laid_loop_example_g00955_impl_sines)] ((World.laidAll Tryz.prog os [("math/bits.deBruijn32tab", Rows.laid_math_bits_deBruijn32tab), ("math/bits.deBruijn64tab", Rows.laid_math_bits_deBruijn64tab), ("internal/strconv.uint64pow10", Rows.laid_internal_strconv_uint64pow10), ("loop.example/g00955/impl.codeNames", Rows.laid_loop_example_g00955_impl_codeNames), ("loop.example/g00955/impl.sines", Rows.laid_loop_example_g00955_impl_sines)]).forCall (fun _ _ => 0) ⟨#[], args, []⟩).memory := by
  rw [MakeChecks.laidMetH_plain _ _ _ (by kernel_rfl)]
  exact laidMet_laidAll args (by kernel_rfl) (by kernel_rfl)
theorem of_laid {W : World} (h : laidMetH Tryz.prog [("math/bits.deBruijn32tab", Rows.laid_math_bits_deBruijn32tab), ("math/bits.deBruijn64tab", Rows.laid_math_bits_deBruijn64tab), ("internal/strconv.uint64pow10", Rows.laid_internal_strconv_uint64pow10), ("loop.example/g00955/impl.codeNames", Rows.laid_loop_example_g00955_impl_codeNames), ("loop.example/g00955/impl.sines", Rows.laid_loop_example_g00955_impl_sines)] W) : ∀ g cs, GA g = some cs → GlobOK (fun b => b < W.heap.size) W g cs := by
  rw [MakeChecks.laidMetH_plain _ _ _ (by kernel_rfl)] at h
  obtain ⟨ps, hA, _⟩ := h
  obtain ⟨g0, t0, cs0, f0, p0, q0, hg0, ht0, hv0, hd0, hA0, _⟩ := hA
  obtain rfl := Option.some.inj (gV0.symm.trans hg0)
  obtain ⟨g1, t1, cs1, f1, p1, q1, hg1, ht1, hv1, hd1, hA1, _⟩ := hA0
  obtain rfl := Option.some.inj (gV1.symm.trans hg1)
  obtain ⟨g2, t2, cs2, f2, p2, q2, hg2, ht2, hv2, hd2, hA2, _⟩ := hA1
  obtain rfl := Option.some.inj (gV2.symm.trans hg2)
  obtain ⟨g3, t3, cs3, f3, p3, q3, hg3, ht3, hv3, hd3, hA3, _⟩ := hA2
  obtain rfl := Option.some.inj (gV3.symm.trans hg3)
  obtain ⟨g4, t4, cs4, f4, p4, q4, hg4, ht4, hv4, hd4, hA4, _⟩ := hA3
  obtain rfl := Option.some.inj (gV4.symm.trans hg4)
  intro g cs hG
  simp only [GA, G1] at hG
  split at hG
  · rename_i he
    subst he
    cases hG
    obtain rfl : t2 = 365 := Option.some.inj (ht2.symm.trans (show (Tryz.prog.globals[3]?).map (·.type) = some 365 by kernel_rfl))
    have e := ints_of_array (ls := Lib.pow10Tab) (p := p2) Tryz.underlying365 Tryz.underlying169 (by kernel_rfl) (by kernel_rfl) hd2
    exact glob_ints gV2 hv2 e
  split at hG
  · rename_i he
    subst he
    cases hG
    obtain rfl : t3 = 288 := Option.some.inj (ht3.symm.trans (show (Tryz.prog.globals[1]?).map (·.type) = some 288 by kernel_rfl))
    have e := strs_of_array (ls := codeL) (p := p3) Tryz.underlying288 Tryz.underlying9 (by kernel_rfl) (by kernel_rfl) hd3
    exact glob_strs gV3 hv3 e.1 e.2
  split at hG
  · rename_i he
    subst he
    cases hG
    obtain rfl : t4 = 345 := Option.some.inj (ht4.symm.trans (show (Tryz.prog.globals[2]?).map (·.type) = some 345 by kernel_rfl))
    have e := ints_of_array (ls := sineT) (p := p4) Tryz.underlying345 Tryz.underlying2 (by kernel_rfl) (by kernel_rfl) hd4
    exact glob_ints gV4 hv4 e
  · cases hG

set_option maxRecDepth 100000 in
theorem lifted (os : Os) (started : os.Started) (H : Type) (enc : TypeId × Value → H) :
    ReturnsInHanded {} Tryz.checked os 3 .any (fun w args => (Rows.fnTopSpec.pre enc Tryz.prog Tryz.f3 [] false w args ∧ laidMetH Tryz.prog [("math/bits.deBruijn32tab", Rows.laid_math_bits_deBruijn32tab), ("math/bits.deBruijn64tab", Rows.laid_math_bits_deBruijn64tab), ("internal/strconv.uint64pow10", Rows.laid_internal_strconv_uint64pow10), ("loop.example/g00955/impl.codeNames", Rows.laid_loop_example_g00955_impl_codeNames), ("loop.example/g00955/impl.sines", Rows.laid_loop_example_g00955_impl_sines)] w) ∧ sizedMet enc Tryz.prog Tryz.f3 (OpenSpec.ofChange Rows.fnTopSpec) false w args)
      (Rows.fnTopSpec.post enc Tryz.prog Tryz.f3 false true false false) := by
  refine returnsInHanded_of_change_and (C := Tryz.checked) (X := fun w _ => laidMetH Tryz.prog [("math/bits.deBruijn32tab", Rows.laid_math_bits_deBruijn32tab), ("math/bits.deBruijn64tab", Rows.laid_math_bits_deBruijn64tab), ("internal/strconv.uint64pow10", Rows.laid_internal_strconv_uint64pow10), ("loop.example/g00955/impl.codeNames", Rows.laid_loop_example_g00955_impl_codeNames), ("loop.example/g00955/impl.sines", Rows.laid_loop_example_g00955_impl_sines)] w) (fun _ _ _ hh h => h.of_heap hh) own started (by kernel_rfl) Tryz.func3
    (ChangeSpec.witness_shaped (enc := enc) (C := Tryz.checked) (os := os) (X := fun w _ => laidMetH Tryz.prog [("math/bits.deBruijn32tab", Rows.laid_math_bits_deBruijn32tab), ("math/bits.deBruijn64tab", Rows.laid_math_bits_deBruijn64tab), ("internal/strconv.uint64pow10", Rows.laid_internal_strconv_uint64pow10), ("loop.example/g00955/impl.codeNames", Rows.laid_loop_example_g00955_impl_codeNames), ("loop.example/g00955/impl.sines", Rows.laid_loop_example_g00955_impl_sines)] w) false (World.laidAll Tryz.prog os [("math/bits.deBruijn32tab", Rows.laid_math_bits_deBruijn32tab), ("math/bits.deBruijn64tab", Rows.laid_math_bits_deBruijn64tab), ("internal/strconv.uint64pow10", Rows.laid_internal_strconv_uint64pow10), ("loop.example/g00955/impl.codeNames", Rows.laid_loop_example_g00955_impl_codeNames), ("loop.example/g00955/impl.sines", Rows.laid_loop_example_g00955_impl_sines)]) #[.slice none 0 0, .slice none 0 0] 8 (World.laidAll_os _ _ _) (World.shaped_of_ZipB (by kernel_rfl) (by kernel_rfl)) (by kernel_rfl) (by kernel_rfl) (by kernel_rfl) (door_met os _)) ?_
  intro W base args ds gs before hval0 hW _ _ hL _
  have hval : ∀ (j : Nat) t v, Tryz.f3.params[j]? = some t → args[j]? = some v → Value.okWide Tryz.prog W .any base t v := hval0
  have hW' := hW
  obtain ⟨p, q, hA0, hV, rfl, hfz, hnd⟩ := hW
  have hA : DataW.TrodAll enc Tryz.prog W 0 (fun _ => true) true Tryz.f3.params.toList args.toList ds p := hA0
  rw [Tryz.params3] at hA hval
  have hlaid := of_laid hL
  obtain ⟨v0, vs0, d0, ds0, p0, q0, hargs, rfl, rfl, h0, r0⟩ := trodAll_cons hA
  obtain ⟨v1, vs1, d1, ds1, p1, q1, rfl, rfl, rfl, h1, r1⟩ := trodAll_cons r0
  obtain ⟨rfl, rfl, rfl⟩ := trodAll_nil r1
  obtain rfl : args = #[v0, v1] := by cases args; simp_all
  obtain ⟨gq, tq, csq, fq, dq, pq, gr, tr, csr, fr, dr, pr, rfl, hgq, htq, hvq, hdq, hgr, htr, hvr, hdr, hqq⟩ := trodVars_two hV
  have lt0 : ∀ x ∈ p0, x.block < W.heap.size := by obtain ⟨m, hm⟩ := h0; exact DataW.trod_lt m _ _ _ hm
  have lt1 : ∀ x ∈ p1, x.block < W.heap.size := by obtain ⟨m, hm⟩ := h1; exact DataW.trod_lt m _ _ _ hm
  obtain ⟨a0, len0, cap0, rfl⟩ := okWide_slice Tryz.underlying22 (hval 0 22 v0 rfl rfl)
  obtain ⟨x0, k0, w0⟩ := opens_uint8S.one (by simp [Value.cells]) h0
  obtain ⟨a1, len1, cap1, rfl⟩ := okWide_slice Tryz.underlying22 (hval 1 22 v1 rfl rfl)
  obtain ⟨x1, k1, w1⟩ := opens_uint8S.one (by simp [Value.cells]) h1
  clear hA0 hval0
  refine ((c_FnTop x0 x1 k0 k1).truthG (w := W) (vs := [_, _]) rfl hlaid (fun i hi => ?_)).mono fun e W' ⟨he, bel⟩ => ?_
  · match i, hi with
    | 0, _ => exact w0
    | 1, _ => exact w1
  subst he
  exact ⟨_, rfl, _, _, _, [], _, _, hW', trodAll_mk1 (shut_bool Tryz.underlying4 _), (trodAll_cons_mk (Below.trod laidOut (by kernel_rfl) (of_decide_eq_true (by kernel_rfl)) h0 bel lt0) (trodAll_cons_mk (Below.trod laidOut (by kernel_rfl) (of_decide_eq_true (by kernel_rfl)) h1 bel lt1) trodAll_mk0)), Below.trodVars laidOut bel (by kernel_rfl) hV, bel.frame _, fun h => by cases h⟩

end Go.Proofs.YtieiboeboejmkaaGreatDoor
