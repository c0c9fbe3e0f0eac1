/-
  The program's ValidHouse returns what the reference's returns, for all arguments.
  No conditions.
-/
import Derived.Test.YtieiboeboejmkaaGreatED
import Derived.Test.YtieiboeboejmkaaGreatVY
import Derived.Test.YtieiboeboejmkaaGreatHX
import Derived.Test.YtieiboeboejmkaaGreatHO
import Derived.Test.YtieiboeboejmkaaGreatRows
import Derived.Test.YtieiboeboejmkaaGreatChecked
import Derived.ProofKit
import Derived.OpenShut
import Derived.ShutString
import Derived.ChangeOld
set_option linter.unusedVariables false
set_option linter.unusedSimpArgs false
set_option maxHeartbeats 4000000
namespace Go.Eng
open Go Go.RowKit Go.Proofs
set_option maxRecDepth 100000
set_option maxHeartbeats 40000000 in
theorem c_FnExactValidHouse (a : THouse) (_ : okHouse a) : FnC Tryz.prog 3 G0 0 [] [.agg (encHouse a)] (fun d os => d = .bool true ∧ os = []) := by
  refine fn_rule Tryz.func3 rfl (by decide +kernel) rfl (fun w0 F0 lent β0 => ?_)
  repeat' (first | refine sC ?_ | ((with_reducible refine isAwp ?_); first | (refine sS ?_; intro Q' hn he hr) | refine sA ?_) | (refine sH ?_; clear hn he hr Q') | refine sO ?_ | ((conv => whnf); first | refine sK ?_ | (refine sB ?_; repeat' (first | refine sb0 ?_ | (refine sb2 ?_ ?_ <;> intro hb <;> try exact cls))) | ((with_reducible refine isCall ?_); first | (refine call_some (c_szHouse a _ (by omega) (by omega)) rfl ?_; rintro d9 ⟨n9, rfl, hs9⟩; refine ⟨rfl, ?_⟩) | (refine call_mk (c_toHouse a (by omega)) rfl (by first | exact (rfl : _ = 0) | exact (rfl : _ = 1) | exact (rfl : _ = 2) | exact (rfl : _ = 3) | exact (rfl : _ = 4) | exact (rfl : _ = 5) | exact (rfl : _ = 6) | exact (rfl : _ = 7) | exact (rfl : _ = 8) | exact (rfl : _ = 9) | exact (rfl : _ = 10) | exact (rfl : _ = 11) | exact (rfl : _ = 12) | exact (rfl : _ = 13) | exact (rfl : _ = 14) | exact (rfl : _ = 15) | exact (rfl : _ = 16) | exact (rfl : _ = 17) | exact (rfl : _ = 18) | exact (rfl : _ = 19) | exact (rfl : _ = 20) | exact (rfl : _ = 21) | exact (rfl : _ = 22) | exact (rfl : _ = 23) | exact (rfl : _ = 24) | exact (rfl : _ = 25) | exact (rfl : _ = 26) | exact (rfl : _ = 27) | exact (rfl : _ = 28) | exact (rfl : _ = 29) | exact (rfl : _ = 30) | exact (rfl : _ = 31) | exact (rfl : _ = 32) | exact (rfl : _ = 33) | exact (rfl : _ = 34) | exact (rfl : _ = 35) | exact (rfl : _ = 36) | exact (rfl : _ = 37) | exact (rfl : _ = 38) | exact (rfl : _ = 39)) ?_) | (refine call_look (c_spec_ValidHouse a) rfl ?_) | (refine call_look (c_impl_ValidHouse a) rfl ?_) | (refine call_look (c_eqHouse a a) rfl ?_)) | ((with_reducible refine isCallQ ?_); first | (refine callQ_plain (.agg (encHouse a)) (c_toHouse a (by omega)) rfl (by rintro d os ⟨rfl, rfl⟩; rfl) ?_) | (refine callQ_look (c_spec_ValidHouse a) rfl ?_) | (refine callQ_look (c_impl_ValidHouse a) rfl ?_) | (refine callQ_look (c_eqHouse a a) rfl ?_)) | refine sP ?_ | (refine sE ?_; intro x hx) | (refine sF ?_; intro i y hi hy) | (refine sI ?_; intro i hi) | (refine sL ?_; intro hlen) | (refine sQ ?_; intro c hc hcm; try simp only [lnM, lnA, lnC, lnN] at hc) | (refine sX ?_; intro i1 i2 hi1 hi2 hj1 hj2; try simp only [cutL, lnM, lnA, lnC, lnN, lnT, lnD, lnR] at hi1 hi2 hj2) | refine sD ?_ | (refine ret_pick [] rfl rfl rfl ⟨?_, rfl⟩; conv => lhs; whnf) | (refine ret_pick [0] rfl rfl rfl ⟨rfl, ?_⟩) | (refine sH ?_; clear hn he hr Q')))
  all_goals first
    | exact absurd rfl hb
    | (exfalso; simp [eqTHouse_refl] at hb; done)
    | (exfalso; exact hb rfl)
    | trace_state
end Go.Eng

namespace Go.Proofs.YtieiboeboejmkaaGreat
open Go Go.ChangeShapes Go.WideShapes Go.ChangeAt Go.RowKit Go.Eng

theorem own : ownKnob Tryz.prog.godebug = none := by kernel_rfl
theorem laidOut : laidOutB Tryz.prog = true := by kernel_rfl

theorem opens_String : Opens Tryz.prog 9 (fun l : List UInt8 => [.str l]) (fun l : List UInt8 => l.length ≤ maxLen) := Opens.string Tryz.underlying9
theorem opens_Int64 : Opens Tryz.prog 2 (fun n : Int => [.int .i64 n]) (fun n : Int => (Lit.int .i64 n).wf = true) := Opens.int Tryz.underlying2
theorem opens_Dome : Opens Tryz.prog 23 encDome okDome :=
  Opens.turn (fun x : List UInt8 × Int × Int × Unit => TDome.mk x.1 x.2.1 x.2.2.1) (fun _ => rfl) (fun x h => ⟨h.1, h.2.1, h.2.2.1⟩)
    (Opens.struct 3 Tryz.underlying23 (by kernel_rfl) (fun _ => rfl) (OpensF.cons (k := 1) rfl (fun _ => rfl) opens_String (OpensF.cons (k := 1) rfl (fun _ => rfl) opens_Int64 (OpensF.cons (k := 1) rfl (fun _ => rfl) opens_Int64 OpensF.nil))))
theorem opens_Projector : Opens Tryz.prog 90 encProjector okProjector :=
  Opens.turn (fun x : List UInt8 × Int × Int × Int × Int × Unit => TProjector.mk x.1 x.2.1 x.2.2.1 x.2.2.2.1 x.2.2.2.2.1) (fun _ => rfl) (fun x h => ⟨h.1, h.2.1, h.2.2.1, h.2.2.2.1, h.2.2.2.2.1⟩)
    (Opens.struct 5 Tryz.underlying90 (by kernel_rfl) (fun _ => rfl) (OpensF.cons (k := 1) rfl (fun _ => rfl) opens_String (OpensF.cons (k := 1) rfl (fun _ => rfl) opens_Int64 (OpensF.cons (k := 1) rfl (fun _ => rfl) opens_Int64 (OpensF.cons (k := 1) rfl (fun _ => rfl) opens_Int64 (OpensF.cons (k := 1) rfl (fun _ => rfl) opens_Int64 OpensF.nil))))))
theorem opens_ProjectorS : Opens Tryz.prog 24 (fun l : List (TProjector) => [.sl 5 (l.map encProjector)]) (fun l : List (TProjector) => ∀ x ∈ l, okProjector x) := Opens.slice 5 Tryz.underlying24 (by kernel_rfl) (by decide) opens_Projector
theorem opens_Ring : Opens Tryz.prog 116 encRing okRing :=
  Opens.turn (fun x : Int × Int × Int × Int × Int × Unit => TRing.mk x.1 x.2.1 x.2.2.1 x.2.2.2.1 x.2.2.2.2.1) (fun _ => rfl) (fun x h => ⟨h.1, h.2.1, h.2.2.1, h.2.2.2.1, h.2.2.2.2.1⟩)
    (Opens.struct 5 Tryz.underlying116 (by kernel_rfl) (fun _ => rfl) (OpensF.cons (k := 1) rfl (fun _ => rfl) opens_Int64 (OpensF.cons (k := 1) rfl (fun _ => rfl) opens_Int64 (OpensF.cons (k := 1) rfl (fun _ => rfl) opens_Int64 (OpensF.cons (k := 1) rfl (fun _ => rfl) opens_Int64 (OpensF.cons (k := 1) rfl (fun _ => rfl) opens_Int64 OpensF.nil))))))
theorem opens_RingS : Opens Tryz.prog 25 (fun l : List (TRing) => [.sl 5 (l.map encRing)]) (fun l : List (TRing) => ∀ x ∈ l, okRing x) := Opens.slice 5 Tryz.underlying25 (by kernel_rfl) (by decide) opens_Ring
theorem opens_Int64S : Opens Tryz.prog 26 (fun l : List (Int) => [.sl 1 (l.map Go.Eng.encI)]) (fun l : List (Int) => ∀ x ∈ l, (fun n : Int => (Lit.int .i64 n).wf = true) x) := Opens.slice 1 Tryz.underlying26 (by kernel_rfl) (by decide) opens_Int64
theorem opens_Fixture : Opens Tryz.prog 93 encFixture okFixture :=
  Opens.turn (fun x : List UInt8 × Int × Int × Int × Unit => TFixture.mk x.1 x.2.1 x.2.2.1 x.2.2.2.1) (fun _ => rfl) (fun x h => ⟨h.1, h.2.1, h.2.2.1, h.2.2.2.1⟩)
    (Opens.struct 4 Tryz.underlying93 (by kernel_rfl) (fun _ => rfl) (OpensF.cons (k := 1) rfl (fun _ => rfl) opens_String (OpensF.cons (k := 1) rfl (fun _ => rfl) opens_Int64 (OpensF.cons (k := 1) rfl (fun _ => rfl) opens_Int64 (OpensF.cons (k := 1) rfl (fun _ => rfl) opens_Int64 OpensF.nil)))))
theorem opens_FixtureS : Opens Tryz.prog 27 (fun l : List (TFixture) => [.sl 4 (l.map encFixture)]) (fun l : List (TFixture) => ∀ x ∈ l, okFixture x) := Opens.slice 4 Tryz.underlying27 (by kernel_rfl) (by decide) opens_Fixture
theorem opens_Cue : Opens Tryz.prog 96 encCue okCue :=
  Opens.turn (fun x : List UInt8 × Int × Int × List UInt8 × Int × Int × Unit => TCue.mk x.1 x.2.1 x.2.2.1 x.2.2.2.1 x.2.2.2.2.1 x.2.2.2.2.2.1) (fun _ => rfl) (fun x h => ⟨h.1, h.2.1, h.2.2.1, h.2.2.2.1, h.2.2.2.2.1, h.2.2.2.2.2.1⟩)
    (Opens.struct 6 Tryz.underlying96 (by kernel_rfl) (fun _ => rfl) (OpensF.cons (k := 1) rfl (fun _ => rfl) opens_String (OpensF.cons (k := 1) rfl (fun _ => rfl) opens_Int64 (OpensF.cons (k := 1) rfl (fun _ => rfl) opens_Int64 (OpensF.cons (k := 1) rfl (fun _ => rfl) opens_String (OpensF.cons (k := 1) rfl (fun _ => rfl) opens_Int64 (OpensF.cons (k := 1) rfl (fun _ => rfl) opens_Int64 OpensF.nil)))))))
theorem opens_CueS : Opens Tryz.prog 28 (fun l : List (TCue) => [.sl 6 (l.map encCue)]) (fun l : List (TCue) => ∀ x ∈ l, okCue x) := Opens.slice 6 Tryz.underlying28 (by kernel_rfl) (by decide) opens_Cue
theorem opens_Line : Opens Tryz.prog 99 encLine okLine :=
  Opens.turn (fun x : Int × List UInt8 × Int × Unit => TLine.mk x.1 x.2.1 x.2.2.1) (fun _ => rfl) (fun x h => ⟨h.1, h.2.1, h.2.2.1⟩)
    (Opens.struct 3 Tryz.underlying99 (by kernel_rfl) (fun _ => rfl) (OpensF.cons (k := 1) rfl (fun _ => rfl) opens_Int64 (OpensF.cons (k := 1) rfl (fun _ => rfl) opens_String (OpensF.cons (k := 1) rfl (fun _ => rfl) opens_Int64 OpensF.nil))))
theorem opens_LineS : Opens Tryz.prog 29 (fun l : List (TLine) => [.sl 3 (l.map encLine)]) (fun l : List (TLine) => ∀ x ∈ l, okLine x) := Opens.slice 3 Tryz.underlying29 (by kernel_rfl) (by decide) opens_Line
theorem opens_Media : Opens Tryz.prog 102 encMedia okMedia :=
  Opens.turn (fun x : List UInt8 × Int × Unit => TMedia.mk x.1 x.2.1) (fun _ => rfl) (fun x h => ⟨h.1, h.2.1⟩)
    (Opens.struct 2 Tryz.underlying102 (by kernel_rfl) (fun _ => rfl) (OpensF.cons (k := 1) rfl (fun _ => rfl) opens_String (OpensF.cons (k := 1) rfl (fun _ => rfl) opens_Int64 OpensF.nil)))
theorem opens_MediaS : Opens Tryz.prog 30 (fun l : List (TMedia) => [.sl 2 (l.map encMedia)]) (fun l : List (TMedia) => ∀ x ∈ l, okMedia x) := Opens.slice 2 Tryz.underlying30 (by kernel_rfl) (by decide) opens_Media
theorem opens_Need : Opens Tryz.prog 105 encNeed okNeed :=
  Opens.turn (fun x : List UInt8 × Int × Unit => TNeed.mk x.1 x.2.1) (fun _ => rfl) (fun x h => ⟨h.1, h.2.1⟩)
    (Opens.struct 2 Tryz.underlying105 (by kernel_rfl) (fun _ => rfl) (OpensF.cons (k := 1) rfl (fun _ => rfl) opens_String (OpensF.cons (k := 1) rfl (fun _ => rfl) opens_Int64 OpensF.nil)))
theorem opens_NeedS : Opens Tryz.prog 31 (fun l : List (TNeed) => [.sl 2 (l.map encNeed)]) (fun l : List (TNeed) => ∀ x ∈ l, okNeed x) := Opens.slice 2 Tryz.underlying31 (by kernel_rfl) (by decide) opens_Need
theorem opens_House : Opens Tryz.prog 33 encHouse okHouse :=
  Opens.turn (fun x : TDome × List (TProjector) × Int × List (TRing) × List (Int) × Int × List (TFixture) × List (TCue) × List (TLine) × Int × List (TMedia) × List (TNeed) × Int × Unit => THouse.mk x.1 x.2.1 x.2.2.1 x.2.2.2.1 x.2.2.2.2.1 x.2.2.2.2.2.1 x.2.2.2.2.2.2.1 x.2.2.2.2.2.2.2.1 x.2.2.2.2.2.2.2.2.1 x.2.2.2.2.2.2.2.2.2.1 x.2.2.2.2.2.2.2.2.2.2.1 x.2.2.2.2.2.2.2.2.2.2.2.1 x.2.2.2.2.2.2.2.2.2.2.2.2.1) (fun _ => rfl) (fun x h => ⟨h.1, h.2.1, h.2.2.1, h.2.2.2.1, h.2.2.2.2.1, h.2.2.2.2.2.1, h.2.2.2.2.2.2.1, h.2.2.2.2.2.2.2.1, h.2.2.2.2.2.2.2.2.1, h.2.2.2.2.2.2.2.2.2.1, h.2.2.2.2.2.2.2.2.2.2.1, h.2.2.2.2.2.2.2.2.2.2.2.1, h.2.2.2.2.2.2.2.2.2.2.2.2.1⟩)
    (Opens.struct 15 Tryz.underlying33 (by kernel_rfl) (fun _ => rfl) (OpensF.cons (k := 3) rfl (fun _ => rfl) opens_Dome (OpensF.cons (k := 1) rfl (fun _ => rfl) opens_ProjectorS (OpensF.cons (k := 1) rfl (fun _ => rfl) opens_Int64 (OpensF.cons (k := 1) rfl (fun _ => rfl) opens_RingS (OpensF.cons (k := 1) rfl (fun _ => rfl) opens_Int64S (OpensF.cons (k := 1) rfl (fun _ => rfl) opens_Int64 (OpensF.cons (k := 1) rfl (fun _ => rfl) opens_FixtureS (OpensF.cons (k := 1) rfl (fun _ => rfl) opens_CueS (OpensF.cons (k := 1) rfl (fun _ => rfl) opens_LineS (OpensF.cons (k := 1) rfl (fun _ => rfl) opens_Int64 (OpensF.cons (k := 1) rfl (fun _ => rfl) opens_MediaS (OpensF.cons (k := 1) rfl (fun _ => rfl) opens_NeedS (OpensF.cons (k := 1) rfl (fun _ => rfl) opens_Int64 OpensF.nil))))))))))))))

set_option maxRecDepth 100000 in
theorem lifted (os : Os) (started : os.Started) (H : Type) (enc : TypeId × Value → H) :
    ReturnsInHanded {} Tryz.checked os 3 .any (Rows.fnExactValidHouseSpec.pre6 enc Tryz.prog Tryz.f3 Rows.fnExactValidHouseRow.domain false) (Rows.fnExactValidHouseSpec.post enc Tryz.prog Tryz.f3 false true false false) := by
  refine returnsInHanded_of_change (C := Tryz.checked) own started (by kernel_rfl) Tryz.func3
    (ChangeSpec.witness6 (enc := enc) (C := Tryz.checked) false ⟨#[], #[.agg #[.string ⟨#[]⟩, .int .i64 0, .int .i64 0, .slice none 0 0, .int .i64 0, .slice none 0 0, .slice none 0 0, .int .i64 0, .slice none 0 0, .slice none 0 0, .slice none 0 0, .int .i64 0, .slice none 0 0, .slice none 0 0, .int .i64 0]], []⟩ 8 (by kernel_rfl) (by kernel_rfl) (by kernel_rfl) (by kernel_rfl)) ?_
  intro W base args ds gs before hval0 hW hcnd _
  have hval : ∀ (j : Nat) t v, Tryz.f3.params[j]? = some t → args[j]? = some v → Value.okWide Tryz.prog W .any base t v := hval0
  have hW' := hW
  obtain ⟨p, q, hA0, hV, rfl, hfz, hnd⟩ := hW
  have hA : DataW.TrodAll enc Tryz.prog W 0 (fun _ => true) true Tryz.f3.params.toList args.toList ds p := hA0
  rw [Tryz.params3] at hA hval
  obtain ⟨v0, vs0, d0, ds0, p0, q0, hargs, rfl, rfl, h0, r0⟩ := trodAll_cons hA
  obtain ⟨rfl, rfl, rfl⟩ := trodAll_nil r0
  obtain rfl : args = #[v0] := by cases args; simp_all
  obtain ⟨rfl, rfl⟩ := trodVars_none hV
  have lt0 : ∀ x ∈ p0, x.block < W.heap.size := by obtain ⟨m, hm⟩ := h0; exact DataW.trod_lt m _ _ _ hm
  obtain ⟨s0, rfl, _⟩ := okWide_struct Tryz.underlying33 (hval 0 33 v0 rfl rfl)
  obtain ⟨x0, k0, w0⟩ := opens_House.many h0
  clear hA0 hval0
  refine ((c_FnExactValidHouse x0 k0).truth (w := W) (vs := [_]) rfl (fun i hi => ?_)).mono fun e W' ⟨he, bel⟩ => ?_
  · match i, hi with
    | 0, _ => exact w0
  subst he
  exact ⟨_, rfl, _, _, _, [], _, [], hW', trodAll_mk1 (shut_bool Tryz.underlying4 _), (trodAll_cons_mk (Below.trod laidOut (by kernel_rfl) (of_decide_eq_true (by kernel_rfl)) h0 bel lt0) trodAll_mk0), rfl, bel.frame _, fun h => by cases h⟩

theorem over : Rows.fnExactValidHouseRow.holds Tryz.pinned (OpenSpec.ofChange Rows.fnExactValidHouseSpec) :=
  OpenClaim.holds_of_wide 3 Tryz.f3 rfl rfl rfl rfl rfl rfl rfl ⟨rfl, rfl, rfl, rfl, rfl⟩ rfl rfl rfl rfl rfl (by kernel_rfl) Tryz.func3 (by kernel_rfl)
    (of_decide_eq_true (by kernel_rfl)) (by unfold Func.isWrapper; first | (rw [if_pos (by decide +kernel)]; kernel_rfl) | (rw [if_neg (by decide +kernel)]; exact ⟨rfl, rfl⟩))
    (fun os started H enc _ => lifted os started H enc)

theorem validHouse : Rows.FnExactValidHouseSaid := over
#print axioms validHouse
end Go.Proofs.YtieiboeboejmkaaGreat
