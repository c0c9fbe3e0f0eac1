/-
  The program's SessionOf returns what the reference's returns, for all arguments.
  No conditions.
-/
import Derived.Test.YtlmekceabmannaaDoorA16
import Derived.Test.YtlmekceabmannaaDoorTE
import Derived.Test.YtlmekceabmannaaDoorMKS
import Derived.Test.YtlmekceabmannaaDoorRows
import Derived.Test.YtlmekceabmannaaDoorCards
import Derived.Test.YtlmekceabmannaaDoorTie
import Derived.Test.YtlmekceabmannaaDoorChecked
import Derived.Test.YtlmekceabmannaaDoorPF
import Derived.Test.YtlmekceabmannaaDoorPG
import Derived.ProofKit
import Derived.OpenShut
import Derived.ShutString
import Derived.ChangeOld
import Derived.LaidMore
import Derived.LaidHandle
import Derived.MakeChecks
import Derived.OpenVars
import Derived.SevenTiedAt
import Derived.Stop.Joined
set_option linter.unusedVariables false
set_option linter.unusedSimpArgs false
namespace Go.Eng
open Go Go.RowKit Go.Proofs
set_option maxRecDepth 100000
/-- Both sides hand back the same. -/
theorem both_SessionOf (a : List TMark) (day : Int) : ∃ d t l e c, FnC Tryd.prog 26 G0 0 [] [.sl 4 (a.map encMark), .int .i64 day] (fun r os => r = .tup [.agg (encSession ⟨d, t, l, e⟩), .int .i64 c] ∧ os = []) ∧ FnC Tryd.prog 27 GS 0 [] [.sl 4 (a.map encMark), .int .i64 day] (fun r os => r = .tup [.agg (encSession ⟨d, t, l, e⟩), .int .i64 c] ∧ os = []) := by
  by_cases h : askMk a = 0
  · cases hv : inB day 0 100000 with
    | false => exact ⟨_, _, _, _, _, c_spec_SessionOf_day a day h hv, c_impl_SessionOf_day a day h hv⟩
    | true =>
      by_cases hc : corrOk (turnM a) (liftM a) a
      · exact ⟨_, _, _, _, _, c_spec_SessionOf_ok a day h hv hc, c_impl_SessionOf_ok a day h hv hc⟩
      · exact ⟨_, _, _, _, _, c_spec_SessionOf_state a day h hv hc, c_impl_SessionOf_state a day h hv hc⟩
  · exact ⟨_, _, _, _, _, c_spec_SessionOf_bad a day h, c_impl_SessionOf_bad a day h⟩
set_option maxHeartbeats 40000000 in
theorem c_FnExactSessionOf (a : List TMark) (day : Int) (_ : ∀ x ∈ a, okMark x) (_ : (Lit.int .i64 day).wf = true) : FnC Tryd.prog 6 GS 0 [] [.sl 4 (a.map encMark), .int .i64 day] (fun d os => d = .bool true ∧ os = []) := by
  have ha := szL_len noSz a
  obtain ⟨d, t, l, e, c, h1, h2⟩ := both_SessionOf a day
  refine fn_rule Tryd.func6 rfl (by decide +kernel) rfl (fun w0 F0 lent β0 => ?_)
  repeat' (first | (with_reducible first | refine awp_seq_k (fun Q' hn he hr => ?_) | refine awp_block_k (fun Q' hn he hr => ?_) | refine awp_cond_k ?_ | refine awp_region_k ?_ | refine awp_draw_k ?_ | refine awp_ret_k ?_ | refine awp_exit_k ?_ | refine awp_skip_k ?_ | refine awp_label_k ?_ | refine awp_scope_k ?_ | refine awp_loop_k ?_) | (with_reducible refine hn _ ?_; clear hn he hr Q') | (with_reducible refine hr _ ?_; clear hn he hr Q') | (with_reducible refine he _ _ ?_; clear hn he hr Q') | (with_reducible first | refine opsK_go ?_ | refine quietK_go ?_ | refine opsD_one ?_ | refine opsD_end ?_ | refine quietD_one ?_ | refine quietD_end ?_) | ((with_reducible refine isOps ?_); refine opsD_one ?_) | ((with_reducible refine isOps ?_); refine opsD_end ?_) | ((with_reducible refine isQuiet ?_); refine quietD_one ?_) | ((with_reducible refine isQuiet ?_); refine quietD_end ?_) | ((conv => whnf); first | (with_reducible first | refine opsK_go ?_ | refine quietK_go ?_) | ((with_reducible first | refine br_t ?_ | refine br_f ?_ | refine br_c ?_); repeat' (first | (with_reducible first | refine Br.tt ?_ | refine Br.ff ?_ | refine Br.nt ?_ | refine Br.nf ?_ | refine Br.condt ?_ | refine Br.condf ?_ | refine Br.ncondt ?_ | refine Br.ncondf ?_) | ((with_reducible first | refine Br.lt (fun hb => ?_) (fun hb => ?_) | refine Br.le (fun hb => ?_) (fun hb => ?_) | refine Br.eqn (fun hb => ?_) (fun hb => ?_) | refine Br.nlt (fun hb => ?_) (fun hb => ?_) | refine Br.nle (fun hb => ?_) (fun hb => ?_) | refine Br.neqn (fun hb => ?_) (fun hb => ?_) | refine Br.dec (fun hb => ?_) (fun hb => ?_) | refine Br.beq (fun hb => ?_) (fun hb => ?_) | refine Br.ndec (fun hb => ?_) (fun hb => ?_) | refine Br.nbeq (fun hb => ?_) (fun hb => ?_) | refine Br.nsym (fun hb => ?_) (fun hb => ?_) | refine Br.sym (fun hb => ?_) (fun hb => ?_)) <;> (try (first | exact absurd rfl hb | exact absurd (hb.symm.trans hv) (by decide) | exact absurd (hb.symm.trans hv2) (by decide) | exact absurd (hb.symm.trans hv3) (by decide) | exact absurd hb (List.cons_ne_nil _ _) | exact absurd hb (by decide) | (exfalso; omega)))))) | ((with_reducible refine isCall ?_); first | (refine call_pure ((c_szMarkS _ _ (by omega) (by omega)).anyG) rfl rfl ?_) | (refine call_new (c_toMarkS a (by omega)).anyG rfl (by first | exact (rfl : _ = 0) | exact (rfl : _ = 1) | exact (rfl : _ = 2) | exact (rfl : _ = 3) | exact (rfl : _ = 4) | exact (rfl : _ = 5) | exact (rfl : _ = 6) | exact (rfl : _ = 7) | exact (rfl : _ = 8) | exact (rfl : _ = 9) | exact (rfl : _ = 10) | exact (rfl : _ = 11) | exact (rfl : _ = 12) | exact (rfl : _ = 13) | exact (rfl : _ = 14) | exact (rfl : _ = 15) | exact (rfl : _ = 16) | exact (rfl : _ = 17) | exact (rfl : _ = 18) | exact (rfl : _ = 19) | exact (rfl : _ = 20) | exact (rfl : _ = 21) | exact (rfl : _ = 22) | exact (rfl : _ = 23) | exact (rfl : _ = 24) | exact (rfl : _ = 25) | exact (rfl : _ = 26) | exact (rfl : _ = 27) | exact (rfl : _ = 28) | exact (rfl : _ = 29) | exact (rfl : _ = 30) | exact (rfl : _ = 31) | exact (rfl : _ = 32) | exact (rfl : _ = 33) | exact (rfl : _ = 34) | exact (rfl : _ = 35) | exact (rfl : _ = 36) | exact (rfl : _ = 37) | exact (rfl : _ = 38) | exact (rfl : _ = 39)) ?_) | (refine call_mk_look h1.anyG rfl flat_none (by first | exact (rfl : _ = 0) | exact (rfl : _ = 1) | exact (rfl : _ = 2) | exact (rfl : _ = 3) | exact (rfl : _ = 4) | exact (rfl : _ = 5) | exact (rfl : _ = 6) | exact (rfl : _ = 7) | exact (rfl : _ = 8) | exact (rfl : _ = 9) | exact (rfl : _ = 10) | exact (rfl : _ = 11) | exact (rfl : _ = 12) | exact (rfl : _ = 13) | exact (rfl : _ = 14) | exact (rfl : _ = 15) | exact (rfl : _ = 16) | exact (rfl : _ = 17) | exact (rfl : _ = 18) | exact (rfl : _ = 19) | exact (rfl : _ = 20) | exact (rfl : _ = 21) | exact (rfl : _ = 22) | exact (rfl : _ = 23) | exact (rfl : _ = 24) | exact (rfl : _ = 25) | exact (rfl : _ = 26) | exact (rfl : _ = 27) | exact (rfl : _ = 28) | exact (rfl : _ = 29) | exact (rfl : _ = 30) | exact (rfl : _ = 31) | exact (rfl : _ = 32) | exact (rfl : _ = 33) | exact (rfl : _ = 34) | exact (rfl : _ = 35) | exact (rfl : _ = 36) | exact (rfl : _ = 37) | exact (rfl : _ = 38) | exact (rfl : _ = 39)) ?_) | (refine call_mk_look h2 rfl flat_none (by first | exact (rfl : _ = 0) | exact (rfl : _ = 1) | exact (rfl : _ = 2) | exact (rfl : _ = 3) | exact (rfl : _ = 4) | exact (rfl : _ = 5) | exact (rfl : _ = 6) | exact (rfl : _ = 7) | exact (rfl : _ = 8) | exact (rfl : _ = 9) | exact (rfl : _ = 10) | exact (rfl : _ = 11) | exact (rfl : _ = 12) | exact (rfl : _ = 13) | exact (rfl : _ = 14) | exact (rfl : _ = 15) | exact (rfl : _ = 16) | exact (rfl : _ = 17) | exact (rfl : _ = 18) | exact (rfl : _ = 19) | exact (rfl : _ = 20) | exact (rfl : _ = 21) | exact (rfl : _ = 22) | exact (rfl : _ = 23) | exact (rfl : _ = 24) | exact (rfl : _ = 25) | exact (rfl : _ = 26) | exact (rfl : _ = 27) | exact (rfl : _ = 28) | exact (rfl : _ = 29) | exact (rfl : _ = 30) | exact (rfl : _ = 31) | exact (rfl : _ = 32) | exact (rfl : _ = 33) | exact (rfl : _ = 34) | exact (rfl : _ = 35) | exact (rfl : _ = 36) | exact (rfl : _ = 37) | exact (rfl : _ = 38) | exact (rfl : _ = 39)) ?_) | (refine call_look ((c_eqMarkS _ _).anyG) rfl ?_) | (refine call_pure ((c_eqSession ⟨d, t, l, e⟩ ⟨d, t, l, e⟩).anyG) rfl rfl ?_)) | ((with_reducible refine isCallQ ?_); first | (refine callQ_pure ((c_szMarkS _ _ (by omega) (by omega)).anyG) rfl rfl ?_) | (refine callQ_look ((c_eqMarkS _ _).anyG) rfl ?_) | (refine callQ_pure ((c_eqSession ⟨d, t, l, e⟩ ⟨d, t, l, e⟩).anyG) rfl rfl ?_)) | (refine SameV.mk ?_) | (refine NeedS.mk (by (try simp only [cutL, lnM, lnA, lnC, lnN, lnT, lnD, lnR]); omega) ?_) | (refine CapS.mk fun c hc hcm => ?_; try simp only [lnM, lnA, lnC, lnN] at hc) | (refine CutS.zn (by (try simp only [cutL, lnM, lnA, lnC, lnN, lnT, lnD, lnR]); omega) ?_) | (refine CutS.nn (by omega) (by (try simp only [cutL, lnM, lnA, lnC, lnN, lnT, lnD, lnR]); omega) ?_) | (refine CutS.at (by (try simp only [cutL, lnM, lnA, lnC, lnN, lnT, lnD, lnR]); omega) fun i1 i2 hi1 hi2 hj1 hj2 => ?_; try simp only [cutL, lnM, lnA, lnC, lnN, lnT, lnD, lnR] at hi1 hi2 hj2) | (refine SameL.mk ?_) | (refine LenS.nil ?_) | (refine LenS.one ?_) | (refine LenS.map fun hlen => ?_) | (refine LenS.int fun hlen => ?_) | (refine ArithS.in64 (by omega) ?_) | (refine MakeS.nat rfl (by omega) ?_) | (refine InS.fill (by omega) ?_) | (refine ElemS.fill (by omega) ?_) | (refine InS.nat (by omega) ?_) | (refine InS.nat (by (try simp only [lnM]); omega) ?_) | (refine ElemS.the (by assumption) ?_) | (refine ElemS.nat (by omega) fun x hx => ?_) | (refine ByteS.the (by assumption) ?_) | (refine ByteS.nat (by omega) fun x hx => ?_) | (refine ElemS.at (by omega) fun i y hi hy => ?_) | (refine ByteS.at (by omega) fun i y hi hy => ?_) | (refine InS.at (by omega) fun i hi => ?_) | (refine AskS.app rfl (by (try simp only [cutL, lnT, lnD, lnR, lnM, lnA, lnC, lnN]); omega) ?_) | (refine draw_k (by decide +kernel) (by decide +kernel) ?_) | (refine draw_kb (by decide +kernel) (by decide +kernel) ?_) | (refine ret_pick [] rfl rfl rfl ⟨?_, rfl⟩; conv => lhs; whnf) | (refine ret_pick [0] rfl rfl rfl ⟨rfl, ?_⟩) | (refine he _ _ ?_; clear hn he hr Q') | (refine hn _ ?_; clear hn he hr Q') | (refine hr _ ?_; clear hn he hr Q')))
  all_goals (exfalso; simp [eqL_refl eqTMark_refl, eqTSession_refl] at hb)
end Go.Eng

namespace Go.Proofs.YtlmekceabmannaaDoor
open Go Go.ChangeShapes Go.WideShapes Go.ChangeAt Go.WideMaps Go.WideElems Go.RowKit Go.Eng

theorem gV0 : Tryd.prog.globalNamed "loop.example/g00955/impl.sines" = some 2 := by kernel_rfl
theorem opens_Int64 : Opens Tryd.prog 2 (fun n : Int => [.int .i64 n]) (fun n : Int => (Lit.int .i64 n).wf = true) := Opens.int Tryd.underlying2
theorem opens_Mark : Opens Tryd.prog 77 encMark okMark :=
  Opens.turn (fun x : Int × Int × Int × Int × Unit => TMark.mk x.1 x.2.1 x.2.2.1 x.2.2.2.1) (fun _ => rfl) (fun x h => ⟨h.1, h.2.1, h.2.2.1, h.2.2.2.1⟩)
    (Opens.struct 4 Tryd.underlying77 (by kernel_rfl) (fun _ => rfl) (OpensF.cons (k := 1) rfl (fun _ => rfl) opens_Int64 (OpensF.cons (k := 1) rfl (fun _ => rfl) opens_Int64 (OpensF.cons (k := 1) rfl (fun _ => rfl) opens_Int64 (OpensF.cons (k := 1) rfl (fun _ => rfl) opens_Int64 OpensF.nil)))))
theorem opens_MarkS : Opens Tryd.prog 27 (fun l : List (TMark) => [.sl 4 (l.map encMark)]) (fun l : List (TMark) => ∀ x ∈ l, okMark x) := Opens.slice 4 Tryd.underlying27 (by kernel_rfl) (by decide) opens_Mark
theorem door_met (os : Os) (args : Array Value) : laidMetH Tryd.prog [("loop.example/g00955/impl.sines", Rows.laid_loop_example_g00955_impl_sines)] ((World.doorLaid Tryd.prog 400 os).forCall (fun _ _ => 0) ⟨#[], args, []⟩).memory :=
  laidMetH_of_parts3 (fuel := 8) (laidMet_of_run' 8 (by kernel_rfl) (by kernel_rfl)) (by kernel_rfl) (by kernel_rfl)
theorem of_laid {W : World} (h : laidMetH Tryd.prog [("loop.example/g00955/impl.sines", Rows.laid_loop_example_g00955_impl_sines)] W) : ∀ g cs, GS g = some cs → GlobOK (fun b => b < W.heap.size) W g cs := by
  rw [MakeChecks.laidMetH_plain _ _ _ (by kernel_rfl)] at h
  obtain ⟨ps, hA, _⟩ := h
  obtain ⟨g0, t0, cs0, f0, p0, q0, hg0, ht0, hv0, hd0, hA0, _⟩ := hA
  obtain rfl := Option.some.inj (gV0.symm.trans hg0)
  intro g cs hG
  simp only [GS, G1] at hG
  split at hG
  · rename_i he
    subst he
    cases hG
    obtain rfl : t0 = 216 := Option.some.inj (ht0.symm.trans (show (Tryd.prog.globals[2]?).map (·.type) = some 216 by kernel_rfl))
    have e := ints_of_array (ls := sineT) (p := p0) Tryd.underlying216 Tryd.underlying2 (by kernel_rfl) (by kernel_rfl) hd0
    exact glob_ints gV0 hv0 e
  · cases hG

set_option maxRecDepth 100000 in
theorem lifted (os : Os) (started : os.Started) (H : Type) (enc : TypeId × Value → H) :
    ReturnsInHanded {} Tryd.checked os 6 .any (fun w args => (Rows.fnExactSessionOfSpec.pre enc Tryd.prog Tryd.f6 [] false w args ∧ laidMetH Tryd.prog [("loop.example/g00955/impl.sines", Rows.laid_loop_example_g00955_impl_sines)] w) ∧ sizedMet enc Tryd.prog Tryd.f6 (OpenSpec.ofChange Rows.fnExactSessionOfSpec) false w args)
      (Rows.fnExactSessionOfSpec.post enc Tryd.prog Tryd.f6 false true false false) := by
  refine returnsInHanded_of_change_and (C := Tryd.checked) (X := fun w _ => laidMetH Tryd.prog [("loop.example/g00955/impl.sines", Rows.laid_loop_example_g00955_impl_sines)] w) (fun _ _ _ hh h => h.of_heap hh) own started (by kernel_rfl) Tryd.func6
    (ChangeSpec.witness_shaped (enc := enc) (C := Tryd.checked) (os := os) (X := fun w _ => laidMetH Tryd.prog [("loop.example/g00955/impl.sines", Rows.laid_loop_example_g00955_impl_sines)] w) false (World.doorLaid Tryd.prog 400 os) #[.slice none 0 0, .int .i64 0] 8 rfl (World.shaped_of_RefB (by kernel_rfl) (by kernel_rfl)) (by kernel_rfl) (by kernel_rfl) (by kernel_rfl) (door_met os _)) ?_
  intro W base args ds gs before hval0 hW _ _ hL _
  have hval : ∀ (j : Nat) t v, Tryd.f6.params[j]? = some t → args[j]? = some v → Value.okWide Tryd.prog W .any base t v := hval0
  have hW' := hW
  obtain ⟨p, q, hA0, hV, rfl, hfz, hnd⟩ := hW
  have hA : DataW.TrodAll enc Tryd.prog W 0 (fun _ => true) true Tryd.f6.params.toList args.toList ds p := hA0
  rw [Tryd.params6] at hA hval
  have hlaid := of_laid hL
  obtain ⟨v0, vs0, d0, ds0, p0, q0, hargs, rfl, rfl, h0, r0⟩ := trodAll_cons hA
  obtain ⟨v1, vs1, d1, ds1, p1, q1, rfl, rfl, rfl, h1, r1⟩ := trodAll_cons r0
  obtain ⟨rfl, rfl, rfl⟩ := trodAll_nil r1
  obtain rfl : args = #[v0, v1] := by cases args; simp_all
  obtain ⟨gq, tq, csq, fq, dq, pq, rfl, hgq, htq, hvq, hdq, hqq⟩ := trodVars_one hV
  have lt0 : ∀ x ∈ p0, x.block < W.heap.size := by obtain ⟨m, hm⟩ := h0; exact DataW.trod_lt m _ _ _ hm
  have lt1 : ∀ x ∈ p1, x.block < W.heap.size := by obtain ⟨m, hm⟩ := h1; exact DataW.trod_lt m _ _ _ hm
  obtain ⟨a0, len0, cap0, rfl⟩ := okWide_slice Tryd.underlying27 (hval 0 27 v0 rfl rfl)
  obtain ⟨x0, k0, w0⟩ := opens_MarkS.one (by simp [Value.cells]) h0
  obtain ⟨s1, rfl, _, _⟩ := open_int Tryd.underlying2 (hval 1 2 v1 rfl rfl) h1
  obtain ⟨x1, k1, w1⟩ := opens_Int64.one (by simp [Value.cells]) h1
  clear hA0 hval0
  refine ((c_FnExactSessionOf x0 x1 k0 k1).truthG (w := W) (vs := [_, _]) rfl hlaid (fun i hi => ?_)).mono fun e W' ⟨he, bel⟩ => ?_
  · match i, hi with
    | 0, _ => exact w0
    | 1, _ => exact w1
  subst he
  exact ⟨_, rfl, _, _, _, [], _, _, hW', trodAll_mk1 (shut_bool Tryd.underlying4 _), (trodAll_cons_mk (Below.trod laidOut (by kernel_rfl) (of_decide_eq_true (by kernel_rfl)) h0 bel lt0) (trodAll_cons_mk (Below.trod laidOut (by kernel_rfl) (of_decide_eq_true (by kernel_rfl)) h1 bel lt1) trodAll_mk0)), Below.trodVars laidOut bel (by kernel_rfl) hV, bel.frame _, fun h => by cases h⟩

end Go.Proofs.YtlmekceabmannaaDoor
