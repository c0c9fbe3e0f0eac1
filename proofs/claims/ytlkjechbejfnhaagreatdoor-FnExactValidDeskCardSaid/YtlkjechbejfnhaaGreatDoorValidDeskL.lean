/-
  The program's ValidDesk returns what the reference's returns, for all arguments.
  No conditions.
-/
import Derived.Test.YtlkjechbejfnhaaGreatDoorED
import Derived.Test.YtlkjechbejfnhaaGreatDoorVD2
import Derived.Test.YtlkjechbejfnhaaGreatDoorDK1
import Derived.Test.YtlkjechbejfnhaaGreatDoorDK2
import Derived.Test.YtlkjechbejfnhaaGreatDoorDK3
import Derived.Test.YtlkjechbejfnhaaGreatDoorHO
import Derived.Test.YtlkjechbejfnhaaGreatDoorRows
import Derived.Test.YtlkjechbejfnhaaGreatDoorCards
import Derived.Test.YtlkjechbejfnhaaGreatDoorTie
import Derived.Test.YtlkjechbejfnhaaGreatDoorChecked
import Derived.Test.YtlkjechbejfnhaaGreatDoorPF
import Derived.Test.YtlkjechbejfnhaaGreatDoorPG
import Derived.ProofKit
import Derived.OpenShut
import Derived.ShutString
import Derived.ChangeOld
import Derived.LaidMore
import Derived.Lay
import Derived.LaidHandle
import Derived.MakeChecks
import Derived.OpenVars
import Derived.SevenTiedAt
import Derived.Stop.Joined
set_option linter.unusedVariables false
set_option linter.unusedSimpArgs false
set_option maxHeartbeats 4000000
namespace Go.Eng
open Go Go.RowKit Go.Proofs
set_option maxRecDepth 100000
set_option maxHeartbeats 40000000 in
theorem c_FnExactValidDesk (a : TDesk) (_ : okDesk a) : FnC Tryz.prog 5 G0 0 [] [.agg (encDesk a)] (fun d os => d = .bool true ∧ os = []) := by
  refine fn_rule Tryz.func5 rfl (by decide +kernel) rfl (fun w0 F0 lent β0 => ?_)
  repeat' (first | refine sC ?_ | ((with_reducible refine isAwp ?_); first | (refine sS ?_; intro Q' hn he hr) | refine sA ?_) | (refine sH ?_; clear hn he hr Q') | refine sO ?_ | ((conv => whnf); first | refine sK ?_ | (refine sB ?_; repeat' (first | refine sb0 ?_ | (refine sb2 ?_ ?_ <;> intro hb <;> try exact cls))) | ((with_reducible refine isCall ?_); first | (refine call_some (c_szDesk a _ (by omega) (by omega)) rfl ?_; rintro d9 ⟨n9, rfl, hs9⟩; refine ⟨rfl, ?_⟩) | (refine call_mk (c_toDesk a (by omega)) rfl (by first | exact (rfl : _ = 0) | exact (rfl : _ = 1) | exact (rfl : _ = 2) | exact (rfl : _ = 3) | exact (rfl : _ = 4) | exact (rfl : _ = 5) | exact (rfl : _ = 6) | exact (rfl : _ = 7) | exact (rfl : _ = 8) | exact (rfl : _ = 9) | exact (rfl : _ = 10) | exact (rfl : _ = 11) | exact (rfl : _ = 12) | exact (rfl : _ = 13) | exact (rfl : _ = 14) | exact (rfl : _ = 15) | exact (rfl : _ = 16) | exact (rfl : _ = 17) | exact (rfl : _ = 18) | exact (rfl : _ = 19) | exact (rfl : _ = 20) | exact (rfl : _ = 21) | exact (rfl : _ = 22) | exact (rfl : _ = 23) | exact (rfl : _ = 24) | exact (rfl : _ = 25) | exact (rfl : _ = 26) | exact (rfl : _ = 27) | exact (rfl : _ = 28) | exact (rfl : _ = 29) | exact (rfl : _ = 30) | exact (rfl : _ = 31) | exact (rfl : _ = 32) | exact (rfl : _ = 33) | exact (rfl : _ = 34) | exact (rfl : _ = 35) | exact (rfl : _ = 36) | exact (rfl : _ = 37) | exact (rfl : _ = 38) | exact (rfl : _ = 39)) ?_) | (refine call_look (c_spec_ValidDesk a) rfl ?_) | (refine call_look (c_impl_ValidDesk a) rfl ?_) | (refine call_look (c_eqDesk a a) rfl ?_)) | ((with_reducible refine isCallQ ?_); first | (refine callQ_plain (.agg (encDesk a)) (c_toDesk a (by omega)) rfl (by rintro d os ⟨rfl, rfl⟩; rfl) ?_) | (refine callQ_look (c_spec_ValidDesk a) rfl ?_) | (refine callQ_look (c_impl_ValidDesk a) rfl ?_) | (refine callQ_look (c_eqDesk a a) rfl ?_)) | refine sP ?_ | (refine sE ?_; intro x hx) | (refine sF ?_; intro i y hi hy) | (refine sI ?_; intro i hi) | (refine sL ?_; intro hlen) | (refine sQ ?_; intro c hc hcm; try simp only [lnM, lnA, lnC, lnN] at hc) | (refine sX ?_; intro i1 i2 hi1 hi2 hj1 hj2; try simp only [cutL, lnM, lnA, lnC, lnN, lnT, lnD, lnR] at hi1 hi2 hj2) | refine sD ?_ | (refine ret_pick [] rfl rfl rfl ⟨?_, rfl⟩; conv => lhs; whnf) | (refine ret_pick [0] rfl rfl rfl ⟨rfl, ?_⟩) | (refine sH ?_; clear hn he hr Q')))
  all_goals first
    | exact absurd rfl hb
    | (exfalso; simp [eqTDesk_refl] at hb; done)
    | (exfalso; exact hb rfl)
    | trace_state
end Go.Eng

namespace Go.Proofs.YtlkjechbejfnhaaGreatDoor
open Go Go.ChangeShapes Go.WideShapes Go.ChangeAt Go.WideMaps Go.WideElems Go.RowKit Go.Eng

theorem gV0 : Tryz.prog.globalNamed "unicode/utf8.acceptRanges" = some 6 := by kernel_rfl
theorem gV1 : Tryz.prog.globalNamed "unicode.CaseRanges" = some 4 := by kernel_rfl
theorem gV2 : Tryz.prog.globalNamed "unicode/utf8.first" = some 5 := by kernel_rfl
theorem opens_String : Opens Tryz.prog 9 (fun l : List UInt8 => [.str l]) (fun l : List UInt8 => l.length ≤ maxLen) := Opens.string Tryz.underlying9
theorem opens_Int64 : Opens Tryz.prog 2 (fun n : Int => [.int .i64 n]) (fun n : Int => (Lit.int .i64 n).wf = true) := Opens.int Tryz.underlying2
theorem opens_Dome : Opens Tryz.prog 46 encDome okDome :=
  Opens.turn (fun x : List UInt8 × Int × Int × Unit => TDome.mk x.1 x.2.1 x.2.2.1) (fun _ => rfl) (fun x h => ⟨h.1, h.2.1, h.2.2.1⟩)
    (Opens.struct 3 Tryz.underlying46 (by kernel_rfl) (fun _ => rfl) (OpensF.cons (k := 1) rfl (fun _ => rfl) opens_String (OpensF.cons (k := 1) rfl (fun _ => rfl) opens_Int64 (OpensF.cons (k := 1) rfl (fun _ => rfl) opens_Int64 OpensF.nil))))
theorem opens_Projector : Opens Tryz.prog 174 encProjector okProjector :=
  Opens.turn (fun x : List UInt8 × Int × Int × Int × Int × Unit => TProjector.mk x.1 x.2.1 x.2.2.1 x.2.2.2.1 x.2.2.2.2.1) (fun _ => rfl) (fun x h => ⟨h.1, h.2.1, h.2.2.1, h.2.2.2.1, h.2.2.2.2.1⟩)
    (Opens.struct 5 Tryz.underlying174 (by kernel_rfl) (fun _ => rfl) (OpensF.cons (k := 1) rfl (fun _ => rfl) opens_String (OpensF.cons (k := 1) rfl (fun _ => rfl) opens_Int64 (OpensF.cons (k := 1) rfl (fun _ => rfl) opens_Int64 (OpensF.cons (k := 1) rfl (fun _ => rfl) opens_Int64 (OpensF.cons (k := 1) rfl (fun _ => rfl) opens_Int64 OpensF.nil))))))
theorem opens_ProjectorS : Opens Tryz.prog 47 (fun l : List (TProjector) => [.sl 5 (l.map encProjector)]) (fun l : List (TProjector) => ∀ x ∈ l, okProjector x) := Opens.slice 5 Tryz.underlying47 (by kernel_rfl) (by decide) opens_Projector
theorem opens_Ring : Opens Tryz.prog 197 encRing okRing :=
  Opens.turn (fun x : Int × Int × Int × Int × Int × Unit => TRing.mk x.1 x.2.1 x.2.2.1 x.2.2.2.1 x.2.2.2.2.1) (fun _ => rfl) (fun x h => ⟨h.1, h.2.1, h.2.2.1, h.2.2.2.1, h.2.2.2.2.1⟩)
    (Opens.struct 5 Tryz.underlying197 (by kernel_rfl) (fun _ => rfl) (OpensF.cons (k := 1) rfl (fun _ => rfl) opens_Int64 (OpensF.cons (k := 1) rfl (fun _ => rfl) opens_Int64 (OpensF.cons (k := 1) rfl (fun _ => rfl) opens_Int64 (OpensF.cons (k := 1) rfl (fun _ => rfl) opens_Int64 (OpensF.cons (k := 1) rfl (fun _ => rfl) opens_Int64 OpensF.nil))))))
theorem opens_RingS : Opens Tryz.prog 48 (fun l : List (TRing) => [.sl 5 (l.map encRing)]) (fun l : List (TRing) => ∀ x ∈ l, okRing x) := Opens.slice 5 Tryz.underlying48 (by kernel_rfl) (by decide) opens_Ring
theorem opens_Int64S : Opens Tryz.prog 26 (fun l : List (Int) => [.sl 1 (l.map Go.Eng.encI)]) (fun l : List (Int) => ∀ x ∈ l, (fun n : Int => (Lit.int .i64 n).wf = true) x) := Opens.slice 1 Tryz.underlying26 (by kernel_rfl) (by decide) opens_Int64
theorem opens_Fixture : Opens Tryz.prog 177 encFixture okFixture :=
  Opens.turn (fun x : List UInt8 × Int × Int × Int × Unit => TFixture.mk x.1 x.2.1 x.2.2.1 x.2.2.2.1) (fun _ => rfl) (fun x h => ⟨h.1, h.2.1, h.2.2.1, h.2.2.2.1⟩)
    (Opens.struct 4 Tryz.underlying177 (by kernel_rfl) (fun _ => rfl) (OpensF.cons (k := 1) rfl (fun _ => rfl) opens_String (OpensF.cons (k := 1) rfl (fun _ => rfl) opens_Int64 (OpensF.cons (k := 1) rfl (fun _ => rfl) opens_Int64 (OpensF.cons (k := 1) rfl (fun _ => rfl) opens_Int64 OpensF.nil)))))
theorem opens_FixtureS : Opens Tryz.prog 49 (fun l : List (TFixture) => [.sl 4 (l.map encFixture)]) (fun l : List (TFixture) => ∀ x ∈ l, okFixture x) := Opens.slice 4 Tryz.underlying49 (by kernel_rfl) (by decide) opens_Fixture
theorem opens_Cue : Opens Tryz.prog 180 encCue okCue :=
  Opens.turn (fun x : List UInt8 × Int × Int × List UInt8 × Int × Int × Unit => TCue.mk x.1 x.2.1 x.2.2.1 x.2.2.2.1 x.2.2.2.2.1 x.2.2.2.2.2.1) (fun _ => rfl) (fun x h => ⟨h.1, h.2.1, h.2.2.1, h.2.2.2.1, h.2.2.2.2.1, h.2.2.2.2.2.1⟩)
    (Opens.struct 6 Tryz.underlying180 (by kernel_rfl) (fun _ => rfl) (OpensF.cons (k := 1) rfl (fun _ => rfl) opens_String (OpensF.cons (k := 1) rfl (fun _ => rfl) opens_Int64 (OpensF.cons (k := 1) rfl (fun _ => rfl) opens_Int64 (OpensF.cons (k := 1) rfl (fun _ => rfl) opens_String (OpensF.cons (k := 1) rfl (fun _ => rfl) opens_Int64 (OpensF.cons (k := 1) rfl (fun _ => rfl) opens_Int64 OpensF.nil)))))))
theorem opens_CueS : Opens Tryz.prog 50 (fun l : List (TCue) => [.sl 6 (l.map encCue)]) (fun l : List (TCue) => ∀ x ∈ l, okCue x) := Opens.slice 6 Tryz.underlying50 (by kernel_rfl) (by decide) opens_Cue
theorem opens_Line : Opens Tryz.prog 183 encLine okLine :=
  Opens.turn (fun x : Int × List UInt8 × Int × Unit => TLine.mk x.1 x.2.1 x.2.2.1) (fun _ => rfl) (fun x h => ⟨h.1, h.2.1, h.2.2.1⟩)
    (Opens.struct 3 Tryz.underlying183 (by kernel_rfl) (fun _ => rfl) (OpensF.cons (k := 1) rfl (fun _ => rfl) opens_Int64 (OpensF.cons (k := 1) rfl (fun _ => rfl) opens_String (OpensF.cons (k := 1) rfl (fun _ => rfl) opens_Int64 OpensF.nil))))
theorem opens_LineS : Opens Tryz.prog 51 (fun l : List (TLine) => [.sl 3 (l.map encLine)]) (fun l : List (TLine) => ∀ x ∈ l, okLine x) := Opens.slice 3 Tryz.underlying51 (by kernel_rfl) (by decide) opens_Line
theorem opens_Media : Opens Tryz.prog 186 encMedia okMedia :=
  Opens.turn (fun x : List UInt8 × Int × Unit => TMedia.mk x.1 x.2.1) (fun _ => rfl) (fun x h => ⟨h.1, h.2.1⟩)
    (Opens.struct 2 Tryz.underlying186 (by kernel_rfl) (fun _ => rfl) (OpensF.cons (k := 1) rfl (fun _ => rfl) opens_String (OpensF.cons (k := 1) rfl (fun _ => rfl) opens_Int64 OpensF.nil)))
theorem opens_MediaS : Opens Tryz.prog 52 (fun l : List (TMedia) => [.sl 2 (l.map encMedia)]) (fun l : List (TMedia) => ∀ x ∈ l, okMedia x) := Opens.slice 2 Tryz.underlying52 (by kernel_rfl) (by decide) opens_Media
theorem opens_Need : Opens Tryz.prog 189 encNeed okNeed :=
  Opens.turn (fun x : List UInt8 × Int × Unit => TNeed.mk x.1 x.2.1) (fun _ => rfl) (fun x h => ⟨h.1, h.2.1⟩)
    (Opens.struct 2 Tryz.underlying189 (by kernel_rfl) (fun _ => rfl) (OpensF.cons (k := 1) rfl (fun _ => rfl) opens_String (OpensF.cons (k := 1) rfl (fun _ => rfl) opens_Int64 OpensF.nil)))
theorem opens_NeedS : Opens Tryz.prog 53 (fun l : List (TNeed) => [.sl 2 (l.map encNeed)]) (fun l : List (TNeed) => ∀ x ∈ l, okNeed x) := Opens.slice 2 Tryz.underlying53 (by kernel_rfl) (by decide) opens_Need
theorem opens_House : Opens Tryz.prog 55 encHouse okHouse :=
  Opens.turn (fun x : TDome × List (TProjector) × Int × List (TRing) × List (Int) × Int × List (TFixture) × List (TCue) × List (TLine) × Int × List (TMedia) × List (TNeed) × Int × Unit => THouse.mk x.1 x.2.1 x.2.2.1 x.2.2.2.1 x.2.2.2.2.1 x.2.2.2.2.2.1 x.2.2.2.2.2.2.1 x.2.2.2.2.2.2.2.1 x.2.2.2.2.2.2.2.2.1 x.2.2.2.2.2.2.2.2.2.1 x.2.2.2.2.2.2.2.2.2.2.1 x.2.2.2.2.2.2.2.2.2.2.2.1 x.2.2.2.2.2.2.2.2.2.2.2.2.1) (fun _ => rfl) (fun x h => ⟨h.1, h.2.1, h.2.2.1, h.2.2.2.1, h.2.2.2.2.1, h.2.2.2.2.2.1, h.2.2.2.2.2.2.1, h.2.2.2.2.2.2.2.1, h.2.2.2.2.2.2.2.2.1, h.2.2.2.2.2.2.2.2.2.1, h.2.2.2.2.2.2.2.2.2.2.1, h.2.2.2.2.2.2.2.2.2.2.2.1, h.2.2.2.2.2.2.2.2.2.2.2.2.1⟩)
    (Opens.struct 15 Tryz.underlying55 (by kernel_rfl) (fun _ => rfl) (OpensF.cons (k := 3) rfl (fun _ => rfl) opens_Dome (OpensF.cons (k := 1) rfl (fun _ => rfl) opens_ProjectorS (OpensF.cons (k := 1) rfl (fun _ => rfl) opens_Int64 (OpensF.cons (k := 1) rfl (fun _ => rfl) opens_RingS (OpensF.cons (k := 1) rfl (fun _ => rfl) opens_Int64S (OpensF.cons (k := 1) rfl (fun _ => rfl) opens_Int64 (OpensF.cons (k := 1) rfl (fun _ => rfl) opens_FixtureS (OpensF.cons (k := 1) rfl (fun _ => rfl) opens_CueS (OpensF.cons (k := 1) rfl (fun _ => rfl) opens_LineS (OpensF.cons (k := 1) rfl (fun _ => rfl) opens_Int64 (OpensF.cons (k := 1) rfl (fun _ => rfl) opens_MediaS (OpensF.cons (k := 1) rfl (fun _ => rfl) opens_NeedS (OpensF.cons (k := 1) rfl (fun _ => rfl) opens_Int64 OpensF.nil))))))))))))))
theorem opens_Hold : Opens Tryz.prog 239 encHold okHold :=
  Opens.turn (fun x : Int × Int × Unit => THold.mk x.1 x.2.1) (fun _ => rfl) (fun x h => ⟨h.1, h.2.1⟩)
    (Opens.struct 2 Tryz.underlying239 (by kernel_rfl) (fun _ => rfl) (OpensF.cons (k := 1) rfl (fun _ => rfl) opens_Int64 (OpensF.cons (k := 1) rfl (fun _ => rfl) opens_Int64 OpensF.nil)))
theorem opens_HoldS : Opens Tryz.prog 66 (fun l : List (THold) => [.sl 2 (l.map encHold)]) (fun l : List (THold) => ∀ x ∈ l, okHold x) := Opens.slice 2 Tryz.underlying66 (by kernel_rfl) (by decide) opens_Hold
theorem opens_Offer : Opens Tryz.prog 231 encOffer okOffer :=
  Opens.turn (fun x : List UInt8 × List UInt8 × Int × Int × Int × Unit => TOffer.mk x.1 x.2.1 x.2.2.1 x.2.2.2.1 x.2.2.2.2.1) (fun _ => rfl) (fun x h => ⟨h.1, h.2.1, h.2.2.1, h.2.2.2.1, h.2.2.2.2.1⟩)
    (Opens.struct 5 Tryz.underlying231 (by kernel_rfl) (fun _ => rfl) (OpensF.cons (k := 1) rfl (fun _ => rfl) opens_String (OpensF.cons (k := 1) rfl (fun _ => rfl) opens_String (OpensF.cons (k := 1) rfl (fun _ => rfl) opens_Int64 (OpensF.cons (k := 1) rfl (fun _ => rfl) opens_Int64 (OpensF.cons (k := 1) rfl (fun _ => rfl) opens_Int64 OpensF.nil))))))
theorem opens_OfferS : Opens Tryz.prog 67 (fun l : List (TOffer) => [.sl 5 (l.map encOffer)]) (fun l : List (TOffer) => ∀ x ∈ l, okOffer x) := Opens.slice 5 Tryz.underlying67 (by kernel_rfl) (by decide) opens_Offer
theorem opens_Note : Opens Tryz.prog 233 encNote okNote :=
  Opens.turn (fun x : List UInt8 × List UInt8 × Unit => TNote.mk x.1 x.2.1) (fun _ => rfl) (fun x h => ⟨h.1, h.2.1⟩)
    (Opens.struct 2 Tryz.underlying233 (by kernel_rfl) (fun _ => rfl) (OpensF.cons (k := 1) rfl (fun _ => rfl) opens_String (OpensF.cons (k := 1) rfl (fun _ => rfl) opens_String OpensF.nil)))
theorem opens_NoteS : Opens Tryz.prog 68 (fun l : List (TNote) => [.sl 2 (l.map encNote)]) (fun l : List (TNote) => ∀ x ∈ l, okNote x) := Opens.slice 2 Tryz.underlying68 (by kernel_rfl) (by decide) opens_Note
theorem opens_Site : Opens Tryz.prog 69 encSite okSite :=
  Opens.turn (fun x : List UInt8 × Int × Int × Unit => TSite.mk x.1 x.2.1 x.2.2.1) (fun _ => rfl) (fun x h => ⟨h.1, h.2.1, h.2.2.1⟩)
    (Opens.struct 3 Tryz.underlying69 (by kernel_rfl) (fun _ => rfl) (OpensF.cons (k := 1) rfl (fun _ => rfl) opens_String (OpensF.cons (k := 1) rfl (fun _ => rfl) opens_Int64 (OpensF.cons (k := 1) rfl (fun _ => rfl) opens_Int64 OpensF.nil))))
theorem opens_Star : Opens Tryz.prog 235 encStar okStar :=
  Opens.turn (fun x : List UInt8 × Int × Int × Int × Int × Unit => TStar.mk x.1 x.2.1 x.2.2.1 x.2.2.2.1 x.2.2.2.2.1) (fun _ => rfl) (fun x h => ⟨h.1, h.2.1, h.2.2.1, h.2.2.2.1, h.2.2.2.2.1⟩)
    (Opens.struct 5 Tryz.underlying235 (by kernel_rfl) (fun _ => rfl) (OpensF.cons (k := 1) rfl (fun _ => rfl) opens_String (OpensF.cons (k := 1) rfl (fun _ => rfl) opens_Int64 (OpensF.cons (k := 1) rfl (fun _ => rfl) opens_Int64 (OpensF.cons (k := 1) rfl (fun _ => rfl) opens_Int64 (OpensF.cons (k := 1) rfl (fun _ => rfl) opens_Int64 OpensF.nil))))))
theorem opens_StarS : Opens Tryz.prog 70 (fun l : List (TStar) => [.sl 5 (l.map encStar)]) (fun l : List (TStar) => ∀ x ∈ l, okStar x) := Opens.slice 5 Tryz.underlying70 (by kernel_rfl) (by decide) opens_Star
theorem opens_Desk : Opens Tryz.prog 72 encDesk okDesk :=
  Opens.turn (fun x : THouse × List (THold) × List (TOffer) × List (TNote) × TSite × List (TStar) × Unit => TDesk.mk x.1 x.2.1 x.2.2.1 x.2.2.2.1 x.2.2.2.2.1 x.2.2.2.2.2.1) (fun _ => rfl) (fun x h => ⟨h.1, h.2.1, h.2.2.1, h.2.2.2.1, h.2.2.2.2.1, h.2.2.2.2.2.1⟩)
    (Opens.struct 22 Tryz.underlying72 (by kernel_rfl) (fun _ => rfl) (OpensF.cons (k := 15) rfl (fun _ => rfl) opens_House (OpensF.cons (k := 1) rfl (fun _ => rfl) opens_HoldS (OpensF.cons (k := 1) rfl (fun _ => rfl) opens_OfferS (OpensF.cons (k := 1) rfl (fun _ => rfl) opens_NoteS (OpensF.cons (k := 3) rfl (fun _ => rfl) opens_Site (OpensF.cons (k := 1) rfl (fun _ => rfl) opens_StarS OpensF.nil)))))))
theorem door_met (os : Os) (args : Array Value) : laidMetH Tryz.prog [("unicode/utf8.acceptRanges", Rows.laid_unicode_utf8_acceptRanges), ("unicode.CaseRanges", Rows.laid_unicode_CaseRanges), ("unicode/utf8.first", Rows.laid_unicode_utf8_first)] ((World.laidAll Tryz.prog os [("unicode/utf8.acceptRanges", Rows.laid_unicode_utf8_acceptRanges), ("unicode.CaseRanges", Rows.laid_unicode_CaseRanges), ("unicode/utf8.first", Rows.laid_unicode_utf8_first)]).forCall (fun _ _ => 0) ⟨#[], args, []⟩).memory := by
  rw [MakeChecks.laidMetH_plain _ _ _ (by kernel_rfl)]
  exact laidMet_laidAll args (by kernel_rfl) (by kernel_rfl)
theorem of_laid {W : World} (h : laidMetH Tryz.prog [("unicode/utf8.acceptRanges", Rows.laid_unicode_utf8_acceptRanges), ("unicode.CaseRanges", Rows.laid_unicode_CaseRanges), ("unicode/utf8.first", Rows.laid_unicode_utf8_first)] W) : ∀ g cs, G0 g = some cs → GlobOK (fun b => b < W.heap.size) W g cs := by
  rw [MakeChecks.laidMetH_plain _ _ _ (by kernel_rfl)] at h
  obtain ⟨ps, hA, _⟩ := h
  obtain ⟨g0, t0, cs0, f0, p0, q0, hg0, ht0, hv0, hd0, hA0, _⟩ := hA
  obtain rfl := Option.some.inj (gV0.symm.trans hg0)
  obtain ⟨g1, t1, cs1, f1, p1, q1, hg1, ht1, hv1, hd1, hA1, _⟩ := hA0
  obtain rfl := Option.some.inj (gV1.symm.trans hg1)
  obtain ⟨g2, t2, cs2, f2, p2, q2, hg2, ht2, hv2, hd2, hA2, _⟩ := hA1
  obtain rfl := Option.some.inj (gV2.symm.trans hg2)
  intro g cs hG
  cases hG

set_option maxRecDepth 100000 in
theorem lifted (os : Os) (started : os.Started) (H : Type) (enc : TypeId × Value → H) :
    ReturnsInHanded {} Tryz.checked os 5 .any (fun w args => (Rows.fnExactValidDeskSpec.pre enc Tryz.prog Tryz.f5 [] false w args ∧ laidMetH Tryz.prog [("unicode/utf8.acceptRanges", Rows.laid_unicode_utf8_acceptRanges), ("unicode.CaseRanges", Rows.laid_unicode_CaseRanges), ("unicode/utf8.first", Rows.laid_unicode_utf8_first)] w) ∧ sizedMet enc Tryz.prog Tryz.f5 (OpenSpec.ofChange Rows.fnExactValidDeskSpec) false w args)
      (Rows.fnExactValidDeskSpec.post enc Tryz.prog Tryz.f5 false true false false) := by
  refine returnsInHanded_of_change_and (C := Tryz.checked) (X := fun w _ => laidMetH Tryz.prog [("unicode/utf8.acceptRanges", Rows.laid_unicode_utf8_acceptRanges), ("unicode.CaseRanges", Rows.laid_unicode_CaseRanges), ("unicode/utf8.first", Rows.laid_unicode_utf8_first)] w) (fun _ _ _ hh h => h.of_heap hh) own started (by kernel_rfl) Tryz.func5
    (ChangeSpec.witness_shaped (enc := enc) (C := Tryz.checked) (os := os) (X := fun w _ => laidMetH Tryz.prog [("unicode/utf8.acceptRanges", Rows.laid_unicode_utf8_acceptRanges), ("unicode.CaseRanges", Rows.laid_unicode_CaseRanges), ("unicode/utf8.first", Rows.laid_unicode_utf8_first)] w) false (World.laidAll Tryz.prog os [("unicode/utf8.acceptRanges", Rows.laid_unicode_utf8_acceptRanges), ("unicode.CaseRanges", Rows.laid_unicode_CaseRanges), ("unicode/utf8.first", Rows.laid_unicode_utf8_first)]) #[.agg #[.string ⟨#[]⟩, .int .i64 0, .int .i64 0, .slice none 0 0, .int .i64 0, .slice none 0 0, .slice none 0 0, .int .i64 0, .slice none 0 0, .slice none 0 0, .slice none 0 0, .int .i64 0, .slice none 0 0, .slice none 0 0, .int .i64 0, .slice none 0 0, .slice none 0 0, .slice none 0 0, .string ⟨#[]⟩, .int .i64 0, .int .i64 0, .slice none 0 0]] 8 (World.laidAll_os _ _ _) (World.shaped_of_ZipB (by kernel_rfl) (by kernel_rfl)) (by kernel_rfl) (by kernel_rfl) (by kernel_rfl) (door_met os _)) ?_
  intro W base args ds gs before hval0 hW _ _ hL _
  have hval : ∀ (j : Nat) t v, Tryz.f5.params[j]? = some t → args[j]? = some v → Value.okWide Tryz.prog W .any base t v := hval0
  have hW' := hW
  obtain ⟨p, q, hA0, hV, rfl, hfz, hnd⟩ := hW
  have hA : DataW.TrodAll enc Tryz.prog W 0 (fun _ => true) true Tryz.f5.params.toList args.toList ds p := hA0
  rw [Tryz.params5] at hA hval
  have hlaid := of_laid hL
  obtain ⟨v0, vs0, d0, ds0, p0, q0, hargs, rfl, rfl, h0, r0⟩ := trodAll_cons hA
  obtain ⟨rfl, rfl, rfl⟩ := trodAll_nil r0
  obtain rfl : args = #[v0] := by cases args; simp_all
  obtain ⟨rfl, rfl⟩ := trodVars_none hV
  have lt0 : ∀ x ∈ p0, x.block < W.heap.size := by obtain ⟨m, hm⟩ := h0; exact DataW.trod_lt m _ _ _ hm
  obtain ⟨s0, rfl, _⟩ := okWide_struct Tryz.underlying72 (hval 0 72 v0 rfl rfl)
  obtain ⟨x0, k0, w0⟩ := opens_Desk.many h0
  clear hA0 hval0
  refine ((c_FnExactValidDesk x0 k0).truthG (w := W) (vs := [_]) rfl hlaid (fun i hi => ?_)).mono fun e W' ⟨he, bel⟩ => ?_
  · match i, hi with
    | 0, _ => exact w0
  subst he
  exact ⟨_, rfl, _, _, _, [], _, _, hW', trodAll_mk1 (shut_bool Tryz.underlying4 _), (trodAll_cons_mk (Below.trod laidOut (by kernel_rfl) (of_decide_eq_true (by kernel_rfl)) h0 bel lt0) trodAll_mk0), rfl, bel.frame _, fun h => by cases h⟩

end Go.Proofs.YtlkjechbejfnhaaGreatDoor
