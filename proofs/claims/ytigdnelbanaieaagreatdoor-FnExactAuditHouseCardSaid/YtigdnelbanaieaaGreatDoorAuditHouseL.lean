/-
  The program's AuditHouse returns what the reference's returns, for all arguments.
  No conditions.
-/
import Derived.Test.YtigdnelbanaieaaGreatDoorED
import Derived.Test.YtigdnelbanaieaaGreatDoorAU
import Derived.Test.YtigdnelbanaieaaGreatDoorHM
import Derived.Test.YtigdnelbanaieaaGreatDoorHX
import Derived.Test.YtigdnelbanaieaaGreatDoorHO
import Derived.Test.YtigdnelbanaieaaGreatDoorRows
import Derived.Test.YtigdnelbanaieaaGreatDoorCards
import Derived.Test.YtigdnelbanaieaaGreatDoorTie
import Derived.Test.YtigdnelbanaieaaGreatDoorChecked
import Derived.Test.YtigdnelbanaieaaGreatDoorPF
import Derived.Test.YtigdnelbanaieaaGreatDoorPG
import Derived.ProofKit
import Derived.OpenShut
import Derived.ShutString
import Derived.ChangeOld
import Derived.LaidMore
import Derived.Lay
import Derived.LaidHandle
import Derived.MakeChecks
import Derived.OpenVars
import Derived.SevenTiedAt
import Derived.Stop.Joined
set_option linter.unusedVariables false
set_option linter.unusedSimpArgs false
set_option maxHeartbeats 4000000
namespace Go.Eng
open Go Go.RowKit Go.Proofs
set_option maxRecDepth 100000
set_option maxHeartbeats 40000000 in
theorem c_FnExactAuditHouse (a : THouse) (_ : okHouse a) : FnC Tryz.prog 3 GA 0 [] [.agg (encHouse a)] (fun d os => d = .bool true ∧ os = []) := by
  have hlen := lenHouse a
  cases hv : houseB a with
  | false =>
    refine fn_rule Tryz.func3 rfl (by decide +kernel) rfl (fun w0 F0 lent β0 => ?_)
    repeat' (first | refine sC ?_ | ((with_reducible refine isAwp ?_); first | (refine sS ?_; intro Q' hn he hr) | refine sA ?_) | (refine sH ?_; clear hn he hr Q') | refine sO ?_ | ((conv => whnf); first | refine sK ?_ | (refine sB ?_; repeat' (first | refine sb0 ?_ | (refine sb2 ?_ ?_ <;> intro hb <;> try exact cls))) | ((with_reducible refine isCall ?_); first | (refine call_some (c_szHouse a _ (by omega) (by omega)).anyG rfl ?_; rintro d9 ⟨n9, rfl, hs9⟩; refine ⟨rfl, ?_⟩) | (refine call_mk (c_toHouse a (by omega)).anyG rfl (by first | exact (rfl : _ = 0) | exact (rfl : _ = 1) | exact (rfl : _ = 2) | exact (rfl : _ = 3) | exact (rfl : _ = 4) | exact (rfl : _ = 5) | exact (rfl : _ = 6) | exact (rfl : _ = 7) | exact (rfl : _ = 8) | exact (rfl : _ = 9) | exact (rfl : _ = 10) | exact (rfl : _ = 11) | exact (rfl : _ = 12) | exact (rfl : _ = 13) | exact (rfl : _ = 14) | exact (rfl : _ = 15) | exact (rfl : _ = 16) | exact (rfl : _ = 17) | exact (rfl : _ = 18) | exact (rfl : _ = 19) | exact (rfl : _ = 20) | exact (rfl : _ = 21) | exact (rfl : _ = 22) | exact (rfl : _ = 23) | exact (rfl : _ = 24) | exact (rfl : _ = 25) | exact (rfl : _ = 26) | exact (rfl : _ = 27) | exact (rfl : _ = 28) | exact (rfl : _ = 29) | exact (rfl : _ = 30) | exact (rfl : _ = 31) | exact (rfl : _ = 32) | exact (rfl : _ = 33) | exact (rfl : _ = 34) | exact (rfl : _ = 35) | exact (rfl : _ = 36) | exact (rfl : _ = 37) | exact (rfl : _ = 38) | exact (rfl : _ = 39)) ?_) | (refine call_mk_look (c_spec_AuditHouse_bad a hv).anyG rfl flat_none (by first | exact (rfl : _ = 0) | exact (rfl : _ = 1) | exact (rfl : _ = 2) | exact (rfl : _ = 3) | exact (rfl : _ = 4) | exact (rfl : _ = 5) | exact (rfl : _ = 6) | exact (rfl : _ = 7) | exact (rfl : _ = 8) | exact (rfl : _ = 9) | exact (rfl : _ = 10) | exact (rfl : _ = 11) | exact (rfl : _ = 12) | exact (rfl : _ = 13) | exact (rfl : _ = 14) | exact (rfl : _ = 15) | exact (rfl : _ = 16) | exact (rfl : _ = 17) | exact (rfl : _ = 18) | exact (rfl : _ = 19) | exact (rfl : _ = 20) | exact (rfl : _ = 21) | exact (rfl : _ = 22) | exact (rfl : _ = 23) | exact (rfl : _ = 24) | exact (rfl : _ = 25) | exact (rfl : _ = 26) | exact (rfl : _ = 27) | exact (rfl : _ = 28) | exact (rfl : _ = 29) | exact (rfl : _ = 30) | exact (rfl : _ = 31) | exact (rfl : _ = 32) | exact (rfl : _ = 33) | exact (rfl : _ = 34) | exact (rfl : _ = 35) | exact (rfl : _ = 36) | exact (rfl : _ = 37) | exact (rfl : _ = 38) | exact (rfl : _ = 39)) ?_) | (refine call_mk_look (c_impl_AuditHouse_bad a hv).anyG rfl flat_none (by first | exact (rfl : _ = 0) | exact (rfl : _ = 1) | exact (rfl : _ = 2) | exact (rfl : _ = 3) | exact (rfl : _ = 4) | exact (rfl : _ = 5) | exact (rfl : _ = 6) | exact (rfl : _ = 7) | exact (rfl : _ = 8) | exact (rfl : _ = 9) | exact (rfl : _ = 10) | exact (rfl : _ = 11) | exact (rfl : _ = 12) | exact (rfl : _ = 13) | exact (rfl : _ = 14) | exact (rfl : _ = 15) | exact (rfl : _ = 16) | exact (rfl : _ = 17) | exact (rfl : _ = 18) | exact (rfl : _ = 19) | exact (rfl : _ = 20) | exact (rfl : _ = 21) | exact (rfl : _ = 22) | exact (rfl : _ = 23) | exact (rfl : _ = 24) | exact (rfl : _ = 25) | exact (rfl : _ = 26) | exact (rfl : _ = 27) | exact (rfl : _ = 28) | exact (rfl : _ = 29) | exact (rfl : _ = 30) | exact (rfl : _ = 31) | exact (rfl : _ = 32) | exact (rfl : _ = 33) | exact (rfl : _ = 34) | exact (rfl : _ = 35) | exact (rfl : _ = 36) | exact (rfl : _ = 37) | exact (rfl : _ = 38) | exact (rfl : _ = 39)) ?_) | (refine call_look ((c_eqHouse a a).anyG) rfl ?_) | (refine call_look ((c_eqFindingS [] []).anyG) rfl ?_) | (refine call_pure ((c_markFindingS_nil _).anyG) rfl rfl ?_) | (refine call_pure ((c_heldFindingS_nil _).anyG) rfl rfl ?_) | (refine call_inl Tryz.func10 rfl (by decide +kernel) rfl (by first | exact (rfl : _ = 0) | exact (rfl : _ = 1) | exact (rfl : _ = 2) | exact (rfl : _ = 3) | exact (rfl : _ = 4) | exact (rfl : _ = 5) | exact (rfl : _ = 6) | exact (rfl : _ = 7) | exact (rfl : _ = 8) | exact (rfl : _ = 9) | exact (rfl : _ = 10) | exact (rfl : _ = 11) | exact (rfl : _ = 12) | exact (rfl : _ = 13) | exact (rfl : _ = 14) | exact (rfl : _ = 15) | exact (rfl : _ = 16) | exact (rfl : _ = 17) | exact (rfl : _ = 18) | exact (rfl : _ = 19) | exact (rfl : _ = 20) | exact (rfl : _ = 21) | exact (rfl : _ = 22) | exact (rfl : _ = 23) | exact (rfl : _ = 24) | exact (rfl : _ = 25) | exact (rfl : _ = 26) | exact (rfl : _ = 27) | exact (rfl : _ = 28) | exact (rfl : _ = 29) | exact (rfl : _ = 30) | exact (rfl : _ = 31) | exact (rfl : _ = 32) | exact (rfl : _ = 33) | exact (rfl : _ = 34) | exact (rfl : _ = 35) | exact (rfl : _ = 36) | exact (rfl : _ = 37) | exact (rfl : _ = 38) | exact (rfl : _ = 39)) (fun vs0 => ?_)) | (refine call_mark 9 rfl (c_markProjectorS a.fProjectors _ (by omega)).anyG rfl ?_) | (refine call_mark 10 rfl (c_markRingS a.fRings _ (by omega)).anyG rfl ?_) | (refine call_mark 11 rfl (c_markInt64S a.fBooked _ (by omega)).anyG rfl ?_) | (refine call_mark 12 rfl (c_markFixtureS a.fFixtures _ (by omega)).anyG rfl ?_) | (refine call_mark 13 rfl (c_markCueS a.fCues _ (by omega)).anyG rfl ?_) | (refine call_mark 14 rfl (c_markLineS a.fScript _ (by omega)).anyG rfl ?_) | (refine call_mark 15 rfl (c_markMediaS a.fMedia _ (by omega)).anyG rfl ?_) | (refine call_mark 16 rfl (c_markNeedS a.fNeeds _ (by omega)).anyG rfl ?_)) | ((with_reducible refine isCallQ ?_); first | (refine callQ_plain (.agg (encHouse a)) (c_toHouse a (by omega)).anyG rfl (by rintro d os ⟨rfl, rfl⟩; rfl) ?_) | (refine callQ_look ((c_eqHouse a a).anyG) rfl ?_) | (refine callQ_look ((c_eqFindingS [] []).anyG) rfl ?_) | (refine callQ_pure ((c_markFindingS_nil _).anyG) rfl rfl ?_) | (refine callQ_pure ((c_heldFindingS_nil _).anyG) rfl rfl ?_)) | refine sP ?_ | (refine sE ?_; intro x hx) | (refine sF ?_; intro i y hi hy) | (refine sI ?_; intro i hi) | (refine sL ?_; intro hlen) | (refine sQ ?_; intro c hc hcm; try simp only [lnM, lnA, lnC, lnN] at hc) | (refine sX ?_; intro i1 i2 hi1 hi2 hj1 hj2; try simp only [cutL, lnM, lnA, lnC, lnN, lnT, lnD, lnR] at hi1 hi2 hj2) | refine sD ?_ | (refine ret_pick [] rfl rfl rfl ⟨?_, rfl⟩; conv => lhs; whnf) | (refine ret_pick [0] rfl rfl rfl ⟨rfl, ?_⟩) | (refine sH ?_; clear hn he hr Q')))
    all_goals (exfalso; simp [eqTHouse_refl, eqL_refl eqTFinding_refl] at hb)
  | true =>
    have hal : (auditF a).length ≤ 2000 := auditF_len hv
    refine fn_rule Tryz.func3 rfl (by decide +kernel) rfl (fun w0 F0 lent β0 => ?_)
    repeat' (first | refine sC ?_ | ((with_reducible refine isAwp ?_); first | (refine sS ?_; intro Q' hn he hr) | refine sA ?_) | (refine sH ?_; clear hn he hr Q') | refine sO ?_ | ((conv => whnf); first | refine sK ?_ | (refine sB ?_; repeat' (first | refine sb0 ?_ | (refine sb2 ?_ ?_ <;> intro hb <;> try exact cls))) | ((with_reducible refine isCall ?_); first | (refine call_some (c_szHouse a _ (by omega) (by omega)).anyG rfl ?_; rintro d9 ⟨n9, rfl, hs9⟩; refine ⟨rfl, ?_⟩) | (refine call_mk (c_toHouse a (by omega)).anyG rfl (by first | exact (rfl : _ = 0) | exact (rfl : _ = 1) | exact (rfl : _ = 2) | exact (rfl : _ = 3) | exact (rfl : _ = 4) | exact (rfl : _ = 5) | exact (rfl : _ = 6) | exact (rfl : _ = 7) | exact (rfl : _ = 8) | exact (rfl : _ = 9) | exact (rfl : _ = 10) | exact (rfl : _ = 11) | exact (rfl : _ = 12) | exact (rfl : _ = 13) | exact (rfl : _ = 14) | exact (rfl : _ = 15) | exact (rfl : _ = 16) | exact (rfl : _ = 17) | exact (rfl : _ = 18) | exact (rfl : _ = 19) | exact (rfl : _ = 20) | exact (rfl : _ = 21) | exact (rfl : _ = 22) | exact (rfl : _ = 23) | exact (rfl : _ = 24) | exact (rfl : _ = 25) | exact (rfl : _ = 26) | exact (rfl : _ = 27) | exact (rfl : _ = 28) | exact (rfl : _ = 29) | exact (rfl : _ = 30) | exact (rfl : _ = 31) | exact (rfl : _ = 32) | exact (rfl : _ = 33) | exact (rfl : _ = 34) | exact (rfl : _ = 35) | exact (rfl : _ = 36) | exact (rfl : _ = 37) | exact (rfl : _ = 38) | exact (rfl : _ = 39)) ?_) | (refine call_mk_look (c_spec_AuditHouse_ok a hv).anyG rfl (flat_one (FlatO.map fun _ => rfl)) (by first | exact (rfl : _ = 0) | exact (rfl : _ = 1) | exact (rfl : _ = 2) | exact (rfl : _ = 3) | exact (rfl : _ = 4) | exact (rfl : _ = 5) | exact (rfl : _ = 6) | exact (rfl : _ = 7) | exact (rfl : _ = 8) | exact (rfl : _ = 9) | exact (rfl : _ = 10) | exact (rfl : _ = 11) | exact (rfl : _ = 12) | exact (rfl : _ = 13) | exact (rfl : _ = 14) | exact (rfl : _ = 15) | exact (rfl : _ = 16) | exact (rfl : _ = 17) | exact (rfl : _ = 18) | exact (rfl : _ = 19) | exact (rfl : _ = 20) | exact (rfl : _ = 21) | exact (rfl : _ = 22) | exact (rfl : _ = 23) | exact (rfl : _ = 24) | exact (rfl : _ = 25) | exact (rfl : _ = 26) | exact (rfl : _ = 27) | exact (rfl : _ = 28) | exact (rfl : _ = 29) | exact (rfl : _ = 30) | exact (rfl : _ = 31) | exact (rfl : _ = 32) | exact (rfl : _ = 33) | exact (rfl : _ = 34) | exact (rfl : _ = 35) | exact (rfl : _ = 36) | exact (rfl : _ = 37) | exact (rfl : _ = 38) | exact (rfl : _ = 39)) ?_) | (refine call_mk_look (c_impl_AuditHouse_ok a hv) rfl (flat_one (FlatO.map fun _ => rfl)) (by first | exact (rfl : _ = 0) | exact (rfl : _ = 1) | exact (rfl : _ = 2) | exact (rfl : _ = 3) | exact (rfl : _ = 4) | exact (rfl : _ = 5) | exact (rfl : _ = 6) | exact (rfl : _ = 7) | exact (rfl : _ = 8) | exact (rfl : _ = 9) | exact (rfl : _ = 10) | exact (rfl : _ = 11) | exact (rfl : _ = 12) | exact (rfl : _ = 13) | exact (rfl : _ = 14) | exact (rfl : _ = 15) | exact (rfl : _ = 16) | exact (rfl : _ = 17) | exact (rfl : _ = 18) | exact (rfl : _ = 19) | exact (rfl : _ = 20) | exact (rfl : _ = 21) | exact (rfl : _ = 22) | exact (rfl : _ = 23) | exact (rfl : _ = 24) | exact (rfl : _ = 25) | exact (rfl : _ = 26) | exact (rfl : _ = 27) | exact (rfl : _ = 28) | exact (rfl : _ = 29) | exact (rfl : _ = 30) | exact (rfl : _ = 31) | exact (rfl : _ = 32) | exact (rfl : _ = 33) | exact (rfl : _ = 34) | exact (rfl : _ = 35) | exact (rfl : _ = 36) | exact (rfl : _ = 37) | exact (rfl : _ = 38) | exact (rfl : _ = 39)) ?_) | (refine call_look ((c_eqHouse a a).anyG) rfl ?_) | (refine call_look ((c_eqFindingS (auditF a) (auditF a)).anyG) rfl ?_) | (refine call_inl Tryz.func10 rfl (by decide +kernel) rfl (by first | exact (rfl : _ = 0) | exact (rfl : _ = 1) | exact (rfl : _ = 2) | exact (rfl : _ = 3) | exact (rfl : _ = 4) | exact (rfl : _ = 5) | exact (rfl : _ = 6) | exact (rfl : _ = 7) | exact (rfl : _ = 8) | exact (rfl : _ = 9) | exact (rfl : _ = 10) | exact (rfl : _ = 11) | exact (rfl : _ = 12) | exact (rfl : _ = 13) | exact (rfl : _ = 14) | exact (rfl : _ = 15) | exact (rfl : _ = 16) | exact (rfl : _ = 17) | exact (rfl : _ = 18) | exact (rfl : _ = 19) | exact (rfl : _ = 20) | exact (rfl : _ = 21) | exact (rfl : _ = 22) | exact (rfl : _ = 23) | exact (rfl : _ = 24) | exact (rfl : _ = 25) | exact (rfl : _ = 26) | exact (rfl : _ = 27) | exact (rfl : _ = 28) | exact (rfl : _ = 29) | exact (rfl : _ = 30) | exact (rfl : _ = 31) | exact (rfl : _ = 32) | exact (rfl : _ = 33) | exact (rfl : _ = 34) | exact (rfl : _ = 35) | exact (rfl : _ = 36) | exact (rfl : _ = 37) | exact (rfl : _ = 38) | exact (rfl : _ = 39)) (fun vs0 => ?_)) | (refine call_mark 10 rfl (c_markProjectorS a.fProjectors _ (by omega)).anyG rfl ?_) | (refine call_mark 11 rfl (c_markRingS a.fRings _ (by omega)).anyG rfl ?_) | (refine call_mark 12 rfl (c_markInt64S a.fBooked _ (by omega)).anyG rfl ?_) | (refine call_mark 13 rfl (c_markFixtureS a.fFixtures _ (by omega)).anyG rfl ?_) | (refine call_mark 14 rfl (c_markCueS a.fCues _ (by omega)).anyG rfl ?_) | (refine call_mark 15 rfl (c_markLineS a.fScript _ (by omega)).anyG rfl ?_) | (refine call_mark 16 rfl (c_markMediaS a.fMedia _ (by omega)).anyG rfl ?_) | (refine call_mark 17 rfl (c_markNeedS a.fNeeds _ (by omega)).anyG rfl ?_) | (refine call_mark 19 rfl (c_markFindingS (auditF a) _ (by omega)).anyG rfl ?_) | (refine call_look ((c_heldFindingS (auditF a) _ (by omega)).anyG) rfl ?_)) | ((with_reducible refine isCallQ ?_); first | (refine callQ_plain (.agg (encHouse a)) (c_toHouse a (by omega)).anyG rfl (by rintro d os ⟨rfl, rfl⟩; rfl) ?_) | (refine callQ_look ((c_eqHouse a a).anyG) rfl ?_) | (refine callQ_look ((c_eqFindingS (auditF a) (auditF a)).anyG) rfl ?_) | (refine callQ_look ((c_heldFindingS (auditF a) _ (by omega)).anyG) rfl ?_)) | refine sP ?_ | (refine sE ?_; intro x hx) | (refine sF ?_; intro i y hi hy) | (refine sI ?_; intro i hi) | (refine sL ?_; intro hlen) | (refine sQ ?_; intro c hc hcm; try simp only [lnM, lnA, lnC, lnN] at hc) | (refine sX ?_; intro i1 i2 hi1 hi2 hj1 hj2; try simp only [cutL, lnM, lnA, lnC, lnN, lnT, lnD, lnR] at hi1 hi2 hj2) | refine sD ?_ | (refine ret_pick [] rfl rfl rfl ⟨?_, rfl⟩; conv => lhs; whnf) | (refine ret_pick [0] rfl rfl rfl ⟨rfl, ?_⟩) | (refine sH ?_; clear hn he hr Q')))
    all_goals (exfalso; simp [eqTHouse_refl, eqL_refl eqTFinding_refl] at hb)
end Go.Eng

namespace Go.Proofs.YtigdnelbanaieaaGreatDoor
open Go Go.ChangeShapes Go.WideShapes Go.ChangeAt Go.WideMaps Go.WideElems Go.RowKit Go.Eng

theorem gV0 : Tryz.prog.globalNamed "math/bits.deBruijn32tab" = some 5 := by kernel_rfl
theorem gV1 : Tryz.prog.globalNamed "math/bits.deBruijn64tab" = some 6 := by kernel_rfl
theorem gV2 : Tryz.prog.globalNamed "internal/strconv.uint64pow10" = some 2 := by kernel_rfl
theorem gV3 : Tryz.prog.globalNamed "loop.example/g00955/impl.codeNames" = some 0 := by kernel_rfl
theorem gV4 : Tryz.prog.globalNamed "loop.example/g00955/impl.sines" = some 1 := by kernel_rfl
theorem opens_String : Opens Tryz.prog 9 (fun l : List UInt8 => [.str l]) (fun l : List UInt8 => l.length ≤ maxLen) := Opens.string Tryz.underlying9
theorem opens_Int64 : Opens Tryz.prog 2 (fun n : Int => [.int .i64 n]) (fun n : Int => (Lit.int .i64 n).wf = true) := Opens.int Tryz.underlying2
theorem opens_Dome : Opens Tryz.prog 23 encDome okDome :=
  Opens.turn (fun x : List UInt8 × Int × Int × Unit => TDome.mk x.1 x.2.1 x.2.2.1) (fun _ => rfl) (fun x h => ⟨h.1, h.2.1, h.2.2.1⟩)
    (Opens.struct 3 Tryz.underlying23 (by kernel_rfl) (fun _ => rfl) (OpensF.cons (k := 1) rfl (fun _ => rfl) opens_String (OpensF.cons (k := 1) rfl (fun _ => rfl) opens_Int64 (OpensF.cons (k := 1) rfl (fun _ => rfl) opens_Int64 OpensF.nil))))
theorem opens_Projector : Opens Tryz.prog 100 encProjector okProjector :=
  Opens.turn (fun x : List UInt8 × Int × Int × Int × Int × Unit => TProjector.mk x.1 x.2.1 x.2.2.1 x.2.2.2.1 x.2.2.2.2.1) (fun _ => rfl) (fun x h => ⟨h.1, h.2.1, h.2.2.1, h.2.2.2.1, h.2.2.2.2.1⟩)
    (Opens.struct 5 Tryz.underlying100 (by kernel_rfl) (fun _ => rfl) (OpensF.cons (k := 1) rfl (fun _ => rfl) opens_String (OpensF.cons (k := 1) rfl (fun _ => rfl) opens_Int64 (OpensF.cons (k := 1) rfl (fun _ => rfl) opens_Int64 (OpensF.cons (k := 1) rfl (fun _ => rfl) opens_Int64 (OpensF.cons (k := 1) rfl (fun _ => rfl) opens_Int64 OpensF.nil))))))
theorem opens_ProjectorS : Opens Tryz.prog 24 (fun l : List (TProjector) => [.sl 5 (l.map encProjector)]) (fun l : List (TProjector) => ∀ x ∈ l, okProjector x) := Opens.slice 5 Tryz.underlying24 (by kernel_rfl) (by decide) opens_Projector
theorem opens_Ring : Opens Tryz.prog 132 encRing okRing :=
  Opens.turn (fun x : Int × Int × Int × Int × Int × Unit => TRing.mk x.1 x.2.1 x.2.2.1 x.2.2.2.1 x.2.2.2.2.1) (fun _ => rfl) (fun x h => ⟨h.1, h.2.1, h.2.2.1, h.2.2.2.1, h.2.2.2.2.1⟩)
    (Opens.struct 5 Tryz.underlying132 (by kernel_rfl) (fun _ => rfl) (OpensF.cons (k := 1) rfl (fun _ => rfl) opens_Int64 (OpensF.cons (k := 1) rfl (fun _ => rfl) opens_Int64 (OpensF.cons (k := 1) rfl (fun _ => rfl) opens_Int64 (OpensF.cons (k := 1) rfl (fun _ => rfl) opens_Int64 (OpensF.cons (k := 1) rfl (fun _ => rfl) opens_Int64 OpensF.nil))))))
theorem opens_RingS : Opens Tryz.prog 25 (fun l : List (TRing) => [.sl 5 (l.map encRing)]) (fun l : List (TRing) => ∀ x ∈ l, okRing x) := Opens.slice 5 Tryz.underlying25 (by kernel_rfl) (by decide) opens_Ring
theorem opens_Int64S : Opens Tryz.prog 26 (fun l : List (Int) => [.sl 1 (l.map Go.Eng.encI)]) (fun l : List (Int) => ∀ x ∈ l, (fun n : Int => (Lit.int .i64 n).wf = true) x) := Opens.slice 1 Tryz.underlying26 (by kernel_rfl) (by decide) opens_Int64
theorem opens_Fixture : Opens Tryz.prog 103 encFixture okFixture :=
  Opens.turn (fun x : List UInt8 × Int × Int × Int × Unit => TFixture.mk x.1 x.2.1 x.2.2.1 x.2.2.2.1) (fun _ => rfl) (fun x h => ⟨h.1, h.2.1, h.2.2.1, h.2.2.2.1⟩)
    (Opens.struct 4 Tryz.underlying103 (by kernel_rfl) (fun _ => rfl) (OpensF.cons (k := 1) rfl (fun _ => rfl) opens_String (OpensF.cons (k := 1) rfl (fun _ => rfl) opens_Int64 (OpensF.cons (k := 1) rfl (fun _ => rfl) opens_Int64 (OpensF.cons (k := 1) rfl (fun _ => rfl) opens_Int64 OpensF.nil)))))
theorem opens_FixtureS : Opens Tryz.prog 27 (fun l : List (TFixture) => [.sl 4 (l.map encFixture)]) (fun l : List (TFixture) => ∀ x ∈ l, okFixture x) := Opens.slice 4 Tryz.underlying27 (by kernel_rfl) (by decide) opens_Fixture
theorem opens_Cue : Opens Tryz.prog 106 encCue okCue :=
  Opens.turn (fun x : List UInt8 × Int × Int × List UInt8 × Int × Int × Unit => TCue.mk x.1 x.2.1 x.2.2.1 x.2.2.2.1 x.2.2.2.2.1 x.2.2.2.2.2.1) (fun _ => rfl) (fun x h => ⟨h.1, h.2.1, h.2.2.1, h.2.2.2.1, h.2.2.2.2.1, h.2.2.2.2.2.1⟩)
    (Opens.struct 6 Tryz.underlying106 (by kernel_rfl) (fun _ => rfl) (OpensF.cons (k := 1) rfl (fun _ => rfl) opens_String (OpensF.cons (k := 1) rfl (fun _ => rfl) opens_Int64 (OpensF.cons (k := 1) rfl (fun _ => rfl) opens_Int64 (OpensF.cons (k := 1) rfl (fun _ => rfl) opens_String (OpensF.cons (k := 1) rfl (fun _ => rfl) opens_Int64 (OpensF.cons (k := 1) rfl (fun _ => rfl) opens_Int64 OpensF.nil)))))))
theorem opens_CueS : Opens Tryz.prog 28 (fun l : List (TCue) => [.sl 6 (l.map encCue)]) (fun l : List (TCue) => ∀ x ∈ l, okCue x) := Opens.slice 6 Tryz.underlying28 (by kernel_rfl) (by decide) opens_Cue
theorem opens_Line : Opens Tryz.prog 109 encLine okLine :=
  Opens.turn (fun x : Int × List UInt8 × Int × Unit => TLine.mk x.1 x.2.1 x.2.2.1) (fun _ => rfl) (fun x h => ⟨h.1, h.2.1, h.2.2.1⟩)
    (Opens.struct 3 Tryz.underlying109 (by kernel_rfl) (fun _ => rfl) (OpensF.cons (k := 1) rfl (fun _ => rfl) opens_Int64 (OpensF.cons (k := 1) rfl (fun _ => rfl) opens_String (OpensF.cons (k := 1) rfl (fun _ => rfl) opens_Int64 OpensF.nil))))
theorem opens_LineS : Opens Tryz.prog 29 (fun l : List (TLine) => [.sl 3 (l.map encLine)]) (fun l : List (TLine) => ∀ x ∈ l, okLine x) := Opens.slice 3 Tryz.underlying29 (by kernel_rfl) (by decide) opens_Line
theorem opens_Media : Opens Tryz.prog 112 encMedia okMedia :=
  Opens.turn (fun x : List UInt8 × Int × Unit => TMedia.mk x.1 x.2.1) (fun _ => rfl) (fun x h => ⟨h.1, h.2.1⟩)
    (Opens.struct 2 Tryz.underlying112 (by kernel_rfl) (fun _ => rfl) (OpensF.cons (k := 1) rfl (fun _ => rfl) opens_String (OpensF.cons (k := 1) rfl (fun _ => rfl) opens_Int64 OpensF.nil)))
theorem opens_MediaS : Opens Tryz.prog 30 (fun l : List (TMedia) => [.sl 2 (l.map encMedia)]) (fun l : List (TMedia) => ∀ x ∈ l, okMedia x) := Opens.slice 2 Tryz.underlying30 (by kernel_rfl) (by decide) opens_Media
theorem opens_Need : Opens Tryz.prog 115 encNeed okNeed :=
  Opens.turn (fun x : List UInt8 × Int × Unit => TNeed.mk x.1 x.2.1) (fun _ => rfl) (fun x h => ⟨h.1, h.2.1⟩)
    (Opens.struct 2 Tryz.underlying115 (by kernel_rfl) (fun _ => rfl) (OpensF.cons (k := 1) rfl (fun _ => rfl) opens_String (OpensF.cons (k := 1) rfl (fun _ => rfl) opens_Int64 OpensF.nil)))
theorem opens_NeedS : Opens Tryz.prog 31 (fun l : List (TNeed) => [.sl 2 (l.map encNeed)]) (fun l : List (TNeed) => ∀ x ∈ l, okNeed x) := Opens.slice 2 Tryz.underlying31 (by kernel_rfl) (by decide) opens_Need
theorem opens_House : Opens Tryz.prog 33 encHouse okHouse :=
  Opens.turn (fun x : TDome × List (TProjector) × Int × List (TRing) × List (Int) × Int × List (TFixture) × List (TCue) × List (TLine) × Int × List (TMedia) × List (TNeed) × Int × Unit => THouse.mk x.1 x.2.1 x.2.2.1 x.2.2.2.1 x.2.2.2.2.1 x.2.2.2.2.2.1 x.2.2.2.2.2.2.1 x.2.2.2.2.2.2.2.1 x.2.2.2.2.2.2.2.2.1 x.2.2.2.2.2.2.2.2.2.1 x.2.2.2.2.2.2.2.2.2.2.1 x.2.2.2.2.2.2.2.2.2.2.2.1 x.2.2.2.2.2.2.2.2.2.2.2.2.1) (fun _ => rfl) (fun x h => ⟨h.1, h.2.1, h.2.2.1, h.2.2.2.1, h.2.2.2.2.1, h.2.2.2.2.2.1, h.2.2.2.2.2.2.1, h.2.2.2.2.2.2.2.1, h.2.2.2.2.2.2.2.2.1, h.2.2.2.2.2.2.2.2.2.1, h.2.2.2.2.2.2.2.2.2.2.1, h.2.2.2.2.2.2.2.2.2.2.2.1, h.2.2.2.2.2.2.2.2.2.2.2.2.1⟩)
    (Opens.struct 15 Tryz.underlying33 (by kernel_rfl) (fun _ => rfl) (OpensF.cons (k := 3) rfl (fun _ => rfl) opens_Dome (OpensF.cons (k := 1) rfl (fun _ => rfl) opens_ProjectorS (OpensF.cons (k := 1) rfl (fun _ => rfl) opens_Int64 (OpensF.cons (k := 1) rfl (fun _ => rfl) opens_RingS (OpensF.cons (k := 1) rfl (fun _ => rfl) opens_Int64S (OpensF.cons (k := 1) rfl (fun _ => rfl) opens_Int64 (OpensF.cons (k := 1) rfl (fun _ => rfl) opens_FixtureS (OpensF.cons (k := 1) rfl (fun _ => rfl) opens_CueS (OpensF.cons (k := 1) rfl (fun _ => rfl) opens_LineS (OpensF.cons (k := 1) rfl (fun _ => rfl) opens_Int64 (OpensF.cons (k := 1) rfl (fun _ => rfl) opens_MediaS (OpensF.cons (k := 1) rfl (fun _ => rfl) opens_NeedS (OpensF.cons (k := 1) rfl (fun _ => rfl) opens_Int64 OpensF.nil))))))))))))))
theorem door_met (os : Os) (args : Array Value) : laidMetH Tryz.prog [("math/bits.deBruijn32tab", Rows.laid_math_bits_deBruijn32tab), ("math/bits.deBruijn64tab", Rows.laid_math_bits_deBruijn64tab), ("internal/strconv.uint64pow10", Rows.laid_internal_strconv_uint64pow10), ("loop.example/g00955/impl.codeNames", Rows.laid_loop_example_g00955_impl_codeNames), ("loop.example/g00955/impl.sines", Rows.laid_loop_example_g00955_impl_sines)] ((World.laidAll Tryz.prog os [("math/bits.deBruijn32tab", Rows.laid_math_bits_deBruijn32tab), ("math/bits.deBruijn64tab", Rows.laid_math_bits_deBruijn64tab), ("internal/strconv.uint64pow10", Rows.laid_internal_strconv_uint64pow10), ("loop.example/g00955/impl.codeNames", Rows.laid_loop_example_g00955_impl_codeNames), ("loop.example/g00955/impl.sines", Rows.laid_loop_example_g00955_impl_sines)]).forCall (fun _ _ => 0) ⟨#[], args, []⟩).memory := by
  rw [MakeChecks.laidMetH_plain _ _ _ (by kernel_rfl)]
  exact laidMet_laidAll args (by kernel_rfl) (by kernel_rfl)
theorem of_laid {W : World} (h : laidMetH Tryz.prog [("math/bits.deBruijn32tab", Rows.laid_math_bits_deBruijn32tab), ("math/bits.deBruijn64tab", Rows.laid_math_bits_deBruijn64tab), ("internal/strconv.uint64pow10", Rows.laid_internal_strconv_uint64pow10), ("loop.example/g00955/impl.codeNames", Rows.laid_loop_example_g00955_impl_codeNames), ("loop.example/g00955/impl.sines", Rows.laid_loop_example_g00955_impl_sines)] W) : ∀ g cs, GA g = some cs → GlobOK (fun b => b < W.heap.size) W g cs := by
  rw [MakeChecks.laidMetH_plain _ _ _ (by kernel_rfl)] at h
  obtain ⟨ps, hA, _⟩ := h
  obtain ⟨g0, t0, cs0, f0, p0, q0, hg0, ht0, hv0, hd0, hA0, _⟩ := hA
  obtain rfl := Option.some.inj (gV0.symm.trans hg0)
  obtain ⟨g1, t1, cs1, f1, p1, q1, hg1, ht1, hv1, hd1, hA1, _⟩ := hA0
  obtain rfl := Option.some.inj (gV1.symm.trans hg1)
  obtain ⟨g2, t2, cs2, f2, p2, q2, hg2, ht2, hv2, hd2, hA2, _⟩ := hA1
  obtain rfl := Option.some.inj (gV2.symm.trans hg2)
  obtain ⟨g3, t3, cs3, f3, p3, q3, hg3, ht3, hv3, hd3, hA3, _⟩ := hA2
  obtain rfl := Option.some.inj (gV3.symm.trans hg3)
  obtain ⟨g4, t4, cs4, f4, p4, q4, hg4, ht4, hv4, hd4, hA4, _⟩ := hA3
  obtain rfl := Option.some.inj (gV4.symm.trans hg4)
  intro g cs hG
  simp only [GA, G1] at hG
  split at hG
  · rename_i he
    subst he
    cases hG
    obtain rfl : t2 = 317 := Option.some.inj (ht2.symm.trans (show (Tryz.prog.globals[2]?).map (·.type) = some 317 by kernel_rfl))
    have e := ints_of_array (ls := Lib.pow10Tab) (p := p2) Tryz.underlying317 Tryz.underlying288 (by kernel_rfl) (by kernel_rfl) hd2
    exact glob_ints gV2 hv2 e
  split at hG
  · rename_i he
    subst he
    cases hG
    obtain rfl : t3 = 221 := Option.some.inj (ht3.symm.trans (show (Tryz.prog.globals[0]?).map (·.type) = some 221 by kernel_rfl))
    have e := strs_of_array (ls := codeL) (p := p3) Tryz.underlying221 Tryz.underlying9 (by kernel_rfl) (by kernel_rfl) hd3
    exact glob_strs gV3 hv3 e.1 e.2
  split at hG
  · rename_i he
    subst he
    cases hG
    obtain rfl : t4 = 289 := Option.some.inj (ht4.symm.trans (show (Tryz.prog.globals[1]?).map (·.type) = some 289 by kernel_rfl))
    have e := ints_of_array (ls := sineT) (p := p4) Tryz.underlying289 Tryz.underlying2 (by kernel_rfl) (by kernel_rfl) hd4
    exact glob_ints gV4 hv4 e
  · cases hG

set_option maxRecDepth 100000 in
theorem lifted (os : Os) (started : os.Started) (H : Type) (enc : TypeId × Value → H) :
    ReturnsInHanded {} Tryz.checked os 3 .any (fun w args => (Rows.fnExactAuditHouseSpec.pre enc Tryz.prog Tryz.f3 [] false w args ∧ laidMetH Tryz.prog [("math/bits.deBruijn32tab", Rows.laid_math_bits_deBruijn32tab), ("math/bits.deBruijn64tab", Rows.laid_math_bits_deBruijn64tab), ("internal/strconv.uint64pow10", Rows.laid_internal_strconv_uint64pow10), ("loop.example/g00955/impl.codeNames", Rows.laid_loop_example_g00955_impl_codeNames), ("loop.example/g00955/impl.sines", Rows.laid_loop_example_g00955_impl_sines)] w) ∧ sizedMet enc Tryz.prog Tryz.f3 (OpenSpec.ofChange Rows.fnExactAuditHouseSpec) false w args)
      (Rows.fnExactAuditHouseSpec.post enc Tryz.prog Tryz.f3 false true false false) := by
  refine returnsInHanded_of_change_and (C := Tryz.checked) (X := fun w _ => laidMetH Tryz.prog [("math/bits.deBruijn32tab", Rows.laid_math_bits_deBruijn32tab), ("math/bits.deBruijn64tab", Rows.laid_math_bits_deBruijn64tab), ("internal/strconv.uint64pow10", Rows.laid_internal_strconv_uint64pow10), ("loop.example/g00955/impl.codeNames", Rows.laid_loop_example_g00955_impl_codeNames), ("loop.example/g00955/impl.sines", Rows.laid_loop_example_g00955_impl_sines)] w) (fun _ _ _ hh h => h.of_heap hh) own started (by kernel_rfl) Tryz.func3
    (ChangeSpec.witness_shaped (enc := enc) (C := Tryz.checked) (os := os) (X := fun w _ => laidMetH Tryz.prog [("math/bits.deBruijn32tab", Rows.laid_math_bits_deBruijn32tab), ("math/bits.deBruijn64tab", Rows.laid_math_bits_deBruijn64tab), ("internal/strconv.uint64pow10", Rows.laid_internal_strconv_uint64pow10), ("loop.example/g00955/impl.codeNames", Rows.laid_loop_example_g00955_impl_codeNames), ("loop.example/g00955/impl.sines", Rows.laid_loop_example_g00955_impl_sines)] w) false (World.laidAll Tryz.prog os [("math/bits.deBruijn32tab", Rows.laid_math_bits_deBruijn32tab), ("math/bits.deBruijn64tab", Rows.laid_math_bits_deBruijn64tab), ("internal/strconv.uint64pow10", Rows.laid_internal_strconv_uint64pow10), ("loop.example/g00955/impl.codeNames", Rows.laid_loop_example_g00955_impl_codeNames), ("loop.example/g00955/impl.sines", Rows.laid_loop_example_g00955_impl_sines)]) #[.agg #[.string ⟨#[]⟩, .int .i64 0, .int .i64 0, .slice none 0 0, .int .i64 0, .slice none 0 0, .slice none 0 0, .int .i64 0, .slice none 0 0, .slice none 0 0, .slice none 0 0, .int .i64 0, .slice none 0 0, .slice none 0 0, .int .i64 0]] 8 (World.laidAll_os _ _ _) (World.shaped_of_ZipB (by kernel_rfl) (by kernel_rfl)) (by kernel_rfl) (by kernel_rfl) (by kernel_rfl) (door_met os _)) ?_
  intro W base args ds gs before hval0 hW _ _ hL _
  have hval : ∀ (j : Nat) t v, Tryz.f3.params[j]? = some t → args[j]? = some v → Value.okWide Tryz.prog W .any base t v := hval0
  have hW' := hW
  obtain ⟨p, q, hA0, hV, rfl, hfz, hnd⟩ := hW
  have hA : DataW.TrodAll enc Tryz.prog W 0 (fun _ => true) true Tryz.f3.params.toList args.toList ds p := hA0
  rw [Tryz.params3] at hA hval
  have hlaid := of_laid hL
  obtain ⟨v0, vs0, d0, ds0, p0, q0, hargs, rfl, rfl, h0, r0⟩ := trodAll_cons hA
  obtain ⟨rfl, rfl, rfl⟩ := trodAll_nil r0
  obtain rfl : args = #[v0] := by cases args; simp_all
  obtain ⟨gq, tq, csq, fq, dq, pq, gr, tr, csr, fr, dr, pr, rfl, hgq, htq, hvq, hdq, hgr, htr, hvr, hdr, hqq⟩ := trodVars_two hV
  have lt0 : ∀ x ∈ p0, x.block < W.heap.size := by obtain ⟨m, hm⟩ := h0; exact DataW.trod_lt m _ _ _ hm
  obtain ⟨s0, rfl, _⟩ := okWide_struct Tryz.underlying33 (hval 0 33 v0 rfl rfl)
  obtain ⟨x0, k0, w0⟩ := opens_House.many h0
  clear hA0 hval0
  refine ((c_FnExactAuditHouse x0 k0).truthG (w := W) (vs := [_]) rfl hlaid (fun i hi => ?_)).mono fun e W' ⟨he, bel⟩ => ?_
  · match i, hi with
    | 0, _ => exact w0
  subst he
  exact ⟨_, rfl, _, _, _, [], _, _, hW', trodAll_mk1 (shut_bool Tryz.underlying4 _), (trodAll_cons_mk (Below.trod laidOut (by kernel_rfl) (of_decide_eq_true (by kernel_rfl)) h0 bel lt0) trodAll_mk0), Below.trodVars laidOut bel (by kernel_rfl) hV, bel.frame _, fun h => by cases h⟩

end Go.Proofs.YtigdnelbanaieaaGreatDoor
