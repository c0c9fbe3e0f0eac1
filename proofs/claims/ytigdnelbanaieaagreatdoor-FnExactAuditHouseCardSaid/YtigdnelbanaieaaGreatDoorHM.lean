/-
  What the marking functions of a law do with the parts of houses, and what its scaffolding does with findings.
  No conditions.
-/
import Derived.Test.YtigdnelbanaieaaGreatDoorED
import Derived.Test.YtigdnelbanaieaaGreatDoorHX
import Derived.Test.YtigdnelbanaieaaGreatDoorMF0
set_option linter.unusedVariables false
set_option linter.unusedSimpArgs false
set_option maxHeartbeats 4000000
namespace Go.Eng
open Go Go.RowKit Go.Proofs
set_option maxRecDepth 100000
def markProjector (_ : TProjector) (q : Int) : TProjector := { fName := mtext (q), fAzimuth := q + 1, fAltitude := q + 1 + 1, fField := q + 1 + 1 + 1, fPower := q + 1 + 1 + 1 + 1 }
def markRing (_ : TRing) (q : Int) : TRing := { fRadius := q, fCount := q + 1, fFrom := q + 1 + 1, fStep := q + 1 + 1 + 1, fPrice := q + 1 + 1 + 1 + 1 }
def markFixture (_ : TFixture) (q : Int) : TFixture := { fName := mtext (q), fUniverse := q + 1, fAddress := q + 1 + 1, fWidth := q + 1 + 1 + 1 }
def markCue (_ : TCue) (q : Int) : TCue := { fId := mtext (q), fTime := q + 1, fLength := q + 1 + 1, fTarget := mtext (q + 1 + 1 + 1), fAction := q + 1 + 1 + 1 + 1, fValue := q + 1 + 1 + 1 + 1 + 1 }
def markLine (_ : TLine) (q : Int) : TLine := { fKind := q, fName := mtext (q + 1), fValue := q + 1 + 1 }
def markMedia (_ : TMedia) (q : Int) : TMedia := { fName := mtext (q), fSize := q + 1 }
def markNeed (_ : TNeed) (q : Int) : TNeed := { fName := mtext (q), fTime := q + 1 }
def markFinding (_ : TFinding) (q : Int) : TFinding := { fKind := q, fWho := mtext (q + 1), fWhat := mtext (q + 1 + 1) }
theorem c_markProjectorS (a : List (TProjector)) (q : Int) (h0 : 0 ≤ q ∧ q + 5 * a.length ≤ 4611686018427387904) : FnC Tryz.prog 49 G0 1 [.row 127 5 (a.map encProjector)] [.h 0, .int .i64 q] (fun d os => d = .int .i64 (q + 5 * a.length) ∧ os = [.row 127 5 ((mkL markProjector 5 q a).map encProjector)]) := by
  refine fn_rule Tryz.func49 rfl (by decide +kernel) rfl (fun w0 F0 lent β0 => ?_)
  repeat' (first | refine sC ?_ | ((with_reducible refine isAwp ?_); first | (refine sS ?_; intro Q' hn he hr) | refine sA ?_) | (refine sH ?_; clear hn he hr Q') | ((conv => whnf); refine sK ?_))
  refine loop_env (fun k : Nat => [(0,.h 0),(1,.int .i64 (q + 5 * k)),(5,.int .i64 k)]) (fun k => [.row 127 5 ((mkTo markProjector 5 q a k).map encProjector)]) (fun k => k ≤ a.length) (fun k => a.length - k) 0 (by omega) (by refine weak_to rfl rfl ?_ ?_; rw [mkTo_zero]; rfl; exact ⟨rfl, by (conv => rhs; whnf); refine congrArg (D.int _) ?_; omega, rfl, trivial⟩) (fun k hk Q' hn he hr => ?_)
  repeat' (first | refine sC ?_ | ((with_reducible refine isAwp ?_); first | (refine sS ?_; intro Q' hn he hr) | refine sA ?_) | (refine sH ?_; clear hn he hr Q') | ((conv => whnf); first | refine sK ?_ | (refine sB ?_; repeat' (refine sb2 ?_ ?_ <;> intro hb <;> try exact cls)) | (refine LenS.mkTo fun hlen => ?_) | (refine InS.mkTo (by omega) ?_) | (refine InS.set ?_; repeat' (refine InS.set ?_); refine InS.mkTo (by omega) ?_) | (refine ElemS.mkTo (by omega) fun x hx => ?_) | (refine ElemS.set (by simp [mkTo_length]; omega) ?_) | ((with_reducible refine isCall ?_); (refine call_pure (c_markText _ (by omega)) rfl rfl ?_)) | ((with_reducible refine isRet ?_); (refine ret_pick [0] rfl rfl rfl ⟨?_, ?_⟩)) | refine sP ?_ | (refine sH ?_; clear hn he hr Q')))
  · refine ⟨k + 1, by omega, by omega, ?_⟩
    refine weak_to rfl rfl ?_ ⟨rfl, ?_, rfl, trivial⟩
    · rw [← mkTo_succ hx, List.map_set]
      try simp only [List.set_set]
      rfl
    · (conv => rhs; whnf); refine congrArg (D.int _) ?_; omega
  · have h2 : k = a.length := by omega
    subst h2
    rfl
  · have h2 : k = a.length := by omega
    subst h2
    rfl
theorem c_markRingS (a : List (TRing)) (q : Int) (h0 : 0 ≤ q ∧ q + 5 * a.length ≤ 4611686018427387904) : FnC Tryz.prog 50 G0 1 [.row 130 5 (a.map encRing)] [.h 0, .int .i64 q] (fun d os => d = .int .i64 (q + 5 * a.length) ∧ os = [.row 130 5 ((mkL markRing 5 q a).map encRing)]) := by
  refine fn_rule Tryz.func50 rfl (by decide +kernel) rfl (fun w0 F0 lent β0 => ?_)
  repeat' (first | refine sC ?_ | ((with_reducible refine isAwp ?_); first | (refine sS ?_; intro Q' hn he hr) | refine sA ?_) | (refine sH ?_; clear hn he hr Q') | ((conv => whnf); refine sK ?_))
  refine loop_env (fun k : Nat => [(0,.h 0),(1,.int .i64 (q + 5 * k)),(5,.int .i64 k)]) (fun k => [.row 130 5 ((mkTo markRing 5 q a k).map encRing)]) (fun k => k ≤ a.length) (fun k => a.length - k) 0 (by omega) (by refine weak_to rfl rfl ?_ ?_; rw [mkTo_zero]; rfl; exact ⟨rfl, by (conv => rhs; whnf); refine congrArg (D.int _) ?_; omega, rfl, trivial⟩) (fun k hk Q' hn he hr => ?_)
  repeat' (first | refine sC ?_ | ((with_reducible refine isAwp ?_); first | (refine sS ?_; intro Q' hn he hr) | refine sA ?_) | (refine sH ?_; clear hn he hr Q') | ((conv => whnf); first | refine sK ?_ | (refine sB ?_; repeat' (refine sb2 ?_ ?_ <;> intro hb <;> try exact cls)) | (refine LenS.mkTo fun hlen => ?_) | (refine InS.mkTo (by omega) ?_) | (refine InS.set ?_; repeat' (refine InS.set ?_); refine InS.mkTo (by omega) ?_) | (refine ElemS.mkTo (by omega) fun x hx => ?_) | (refine ElemS.set (by simp [mkTo_length]; omega) ?_) | ((with_reducible refine isRet ?_); (refine ret_pick [0] rfl rfl rfl ⟨?_, ?_⟩)) | refine sP ?_ | (refine sH ?_; clear hn he hr Q')))
  · refine ⟨k + 1, by omega, by omega, ?_⟩
    refine weak_to rfl rfl ?_ ⟨rfl, ?_, rfl, trivial⟩
    · rw [← mkTo_succ hx, List.map_set]
      try simp only [List.set_set]
      rfl
    · (conv => rhs; whnf); refine congrArg (D.int _) ?_; omega
  · have h2 : k = a.length := by omega
    subst h2
    rfl
  · have h2 : k = a.length := by omega
    subst h2
    rfl
theorem c_markFixtureS (a : List (TFixture)) (q : Int) (h0 : 0 ≤ q ∧ q + 4 * a.length ≤ 4611686018427387904) : FnC Tryz.prog 52 G0 1 [.row 133 4 (a.map encFixture)] [.h 0, .int .i64 q] (fun d os => d = .int .i64 (q + 4 * a.length) ∧ os = [.row 133 4 ((mkL markFixture 4 q a).map encFixture)]) := by
  refine fn_rule Tryz.func52 rfl (by decide +kernel) rfl (fun w0 F0 lent β0 => ?_)
  repeat' (first | refine sC ?_ | ((with_reducible refine isAwp ?_); first | (refine sS ?_; intro Q' hn he hr) | refine sA ?_) | (refine sH ?_; clear hn he hr Q') | ((conv => whnf); refine sK ?_))
  refine loop_env (fun k : Nat => [(0,.h 0),(1,.int .i64 (q + 4 * k)),(5,.int .i64 k)]) (fun k => [.row 133 4 ((mkTo markFixture 4 q a k).map encFixture)]) (fun k => k ≤ a.length) (fun k => a.length - k) 0 (by omega) (by refine weak_to rfl rfl ?_ ?_; rw [mkTo_zero]; rfl; exact ⟨rfl, by (conv => rhs; whnf); refine congrArg (D.int _) ?_; omega, rfl, trivial⟩) (fun k hk Q' hn he hr => ?_)
  repeat' (first | refine sC ?_ | ((with_reducible refine isAwp ?_); first | (refine sS ?_; intro Q' hn he hr) | refine sA ?_) | (refine sH ?_; clear hn he hr Q') | ((conv => whnf); first | refine sK ?_ | (refine sB ?_; repeat' (refine sb2 ?_ ?_ <;> intro hb <;> try exact cls)) | (refine LenS.mkTo fun hlen => ?_) | (refine InS.mkTo (by omega) ?_) | (refine InS.set ?_; repeat' (refine InS.set ?_); refine InS.mkTo (by omega) ?_) | (refine ElemS.mkTo (by omega) fun x hx => ?_) | (refine ElemS.set (by simp [mkTo_length]; omega) ?_) | ((with_reducible refine isCall ?_); (refine call_pure (c_markText _ (by omega)) rfl rfl ?_)) | ((with_reducible refine isRet ?_); (refine ret_pick [0] rfl rfl rfl ⟨?_, ?_⟩)) | refine sP ?_ | (refine sH ?_; clear hn he hr Q')))
  · refine ⟨k + 1, by omega, by omega, ?_⟩
    refine weak_to rfl rfl ?_ ⟨rfl, ?_, rfl, trivial⟩
    · rw [← mkTo_succ hx, List.map_set]
      try simp only [List.set_set]
      rfl
    · (conv => rhs; whnf); refine congrArg (D.int _) ?_; omega
  · have h2 : k = a.length := by omega
    subst h2
    rfl
  · have h2 : k = a.length := by omega
    subst h2
    rfl
theorem c_markCueS (a : List (TCue)) (q : Int) (h0 : 0 ≤ q ∧ q + 6 * a.length ≤ 4611686018427387904) : FnC Tryz.prog 53 G0 1 [.row 135 6 (a.map encCue)] [.h 0, .int .i64 q] (fun d os => d = .int .i64 (q + 6 * a.length) ∧ os = [.row 135 6 ((mkL markCue 6 q a).map encCue)]) := by
  refine fn_rule Tryz.func53 rfl (by decide +kernel) rfl (fun w0 F0 lent β0 => ?_)
  repeat' (first | refine sC ?_ | ((with_reducible refine isAwp ?_); first | (refine sS ?_; intro Q' hn he hr) | refine sA ?_) | (refine sH ?_; clear hn he hr Q') | ((conv => whnf); refine sK ?_))
  refine loop_env (fun k : Nat => [(0,.h 0),(1,.int .i64 (q + 6 * k)),(5,.int .i64 k)]) (fun k => [.row 135 6 ((mkTo markCue 6 q a k).map encCue)]) (fun k => k ≤ a.length) (fun k => a.length - k) 0 (by omega) (by refine weak_to rfl rfl ?_ ?_; rw [mkTo_zero]; rfl; exact ⟨rfl, by (conv => rhs; whnf); refine congrArg (D.int _) ?_; omega, rfl, trivial⟩) (fun k hk Q' hn he hr => ?_)
  repeat' (first | refine sC ?_ | ((with_reducible refine isAwp ?_); first | (refine sS ?_; intro Q' hn he hr) | refine sA ?_) | (refine sH ?_; clear hn he hr Q') | ((conv => whnf); first | refine sK ?_ | (refine sB ?_; repeat' (refine sb2 ?_ ?_ <;> intro hb <;> try exact cls)) | (refine LenS.mkTo fun hlen => ?_) | (refine InS.mkTo (by omega) ?_) | (refine InS.set ?_; repeat' (refine InS.set ?_); refine InS.mkTo (by omega) ?_) | (refine ElemS.mkTo (by omega) fun x hx => ?_) | (refine ElemS.set (by simp [mkTo_length]; omega) ?_) | ((with_reducible refine isCall ?_); (refine call_pure (c_markText _ (by omega)) rfl rfl ?_)) | ((with_reducible refine isRet ?_); (refine ret_pick [0] rfl rfl rfl ⟨?_, ?_⟩)) | refine sP ?_ | (refine sH ?_; clear hn he hr Q')))
  · refine ⟨k + 1, by omega, by omega, ?_⟩
    refine weak_to rfl rfl ?_ ⟨rfl, ?_, rfl, trivial⟩
    · rw [← mkTo_succ hx, List.map_set]
      try simp only [List.set_set]
      rfl
    · (conv => rhs; whnf); refine congrArg (D.int _) ?_; omega
  · have h2 : k = a.length := by omega
    subst h2
    rfl
  · have h2 : k = a.length := by omega
    subst h2
    rfl
theorem c_markLineS (a : List (TLine)) (q : Int) (h0 : 0 ≤ q ∧ q + 3 * a.length ≤ 4611686018427387904) : FnC Tryz.prog 54 G0 1 [.row 137 3 (a.map encLine)] [.h 0, .int .i64 q] (fun d os => d = .int .i64 (q + 3 * a.length) ∧ os = [.row 137 3 ((mkL markLine 3 q a).map encLine)]) := by
  refine fn_rule Tryz.func54 rfl (by decide +kernel) rfl (fun w0 F0 lent β0 => ?_)
  repeat' (first | refine sC ?_ | ((with_reducible refine isAwp ?_); first | (refine sS ?_; intro Q' hn he hr) | refine sA ?_) | (refine sH ?_; clear hn he hr Q') | ((conv => whnf); refine sK ?_))
  refine loop_env (fun k : Nat => [(0,.h 0),(1,.int .i64 (q + 3 * k)),(5,.int .i64 k)]) (fun k => [.row 137 3 ((mkTo markLine 3 q a k).map encLine)]) (fun k => k ≤ a.length) (fun k => a.length - k) 0 (by omega) (by refine weak_to rfl rfl ?_ ?_; rw [mkTo_zero]; rfl; exact ⟨rfl, by (conv => rhs; whnf); refine congrArg (D.int _) ?_; omega, rfl, trivial⟩) (fun k hk Q' hn he hr => ?_)
  repeat' (first | refine sC ?_ | ((with_reducible refine isAwp ?_); first | (refine sS ?_; intro Q' hn he hr) | refine sA ?_) | (refine sH ?_; clear hn he hr Q') | ((conv => whnf); first | refine sK ?_ | (refine sB ?_; repeat' (refine sb2 ?_ ?_ <;> intro hb <;> try exact cls)) | (refine LenS.mkTo fun hlen => ?_) | (refine InS.mkTo (by omega) ?_) | (refine InS.set ?_; repeat' (refine InS.set ?_); refine InS.mkTo (by omega) ?_) | (refine ElemS.mkTo (by omega) fun x hx => ?_) | (refine ElemS.set (by simp [mkTo_length]; omega) ?_) | ((with_reducible refine isCall ?_); (refine call_pure (c_markText _ (by omega)) rfl rfl ?_)) | ((with_reducible refine isRet ?_); (refine ret_pick [0] rfl rfl rfl ⟨?_, ?_⟩)) | refine sP ?_ | (refine sH ?_; clear hn he hr Q')))
  · refine ⟨k + 1, by omega, by omega, ?_⟩
    refine weak_to rfl rfl ?_ ⟨rfl, ?_, rfl, trivial⟩
    · rw [← mkTo_succ hx, List.map_set]
      try simp only [List.set_set]
      rfl
    · (conv => rhs; whnf); refine congrArg (D.int _) ?_; omega
  · have h2 : k = a.length := by omega
    subst h2
    rfl
  · have h2 : k = a.length := by omega
    subst h2
    rfl
theorem c_markMediaS (a : List (TMedia)) (q : Int) (h0 : 0 ≤ q ∧ q + 2 * a.length ≤ 4611686018427387904) : FnC Tryz.prog 55 G0 1 [.row 139 2 (a.map encMedia)] [.h 0, .int .i64 q] (fun d os => d = .int .i64 (q + 2 * a.length) ∧ os = [.row 139 2 ((mkL markMedia 2 q a).map encMedia)]) := by
  refine fn_rule Tryz.func55 rfl (by decide +kernel) rfl (fun w0 F0 lent β0 => ?_)
  repeat' (first | refine sC ?_ | ((with_reducible refine isAwp ?_); first | (refine sS ?_; intro Q' hn he hr) | refine sA ?_) | (refine sH ?_; clear hn he hr Q') | ((conv => whnf); refine sK ?_))
  refine loop_env (fun k : Nat => [(0,.h 0),(1,.int .i64 (q + 2 * k)),(5,.int .i64 k)]) (fun k => [.row 139 2 ((mkTo markMedia 2 q a k).map encMedia)]) (fun k => k ≤ a.length) (fun k => a.length - k) 0 (by omega) (by refine weak_to rfl rfl ?_ ?_; rw [mkTo_zero]; rfl; exact ⟨rfl, by (conv => rhs; whnf); refine congrArg (D.int _) ?_; omega, rfl, trivial⟩) (fun k hk Q' hn he hr => ?_)
  repeat' (first | refine sC ?_ | ((with_reducible refine isAwp ?_); first | (refine sS ?_; intro Q' hn he hr) | refine sA ?_) | (refine sH ?_; clear hn he hr Q') | ((conv => whnf); first | refine sK ?_ | (refine sB ?_; repeat' (refine sb2 ?_ ?_ <;> intro hb <;> try exact cls)) | (refine LenS.mkTo fun hlen => ?_) | (refine InS.mkTo (by omega) ?_) | (refine InS.set ?_; repeat' (refine InS.set ?_); refine InS.mkTo (by omega) ?_) | (refine ElemS.mkTo (by omega) fun x hx => ?_) | (refine ElemS.set (by simp [mkTo_length]; omega) ?_) | ((with_reducible refine isCall ?_); (refine call_pure (c_markText _ (by omega)) rfl rfl ?_)) | ((with_reducible refine isRet ?_); (refine ret_pick [0] rfl rfl rfl ⟨?_, ?_⟩)) | refine sP ?_ | (refine sH ?_; clear hn he hr Q')))
  · refine ⟨k + 1, by omega, by omega, ?_⟩
    refine weak_to rfl rfl ?_ ⟨rfl, ?_, rfl, trivial⟩
    · rw [← mkTo_succ hx, List.map_set]
      try simp only [List.set_set]
      rfl
    · (conv => rhs; whnf); refine congrArg (D.int _) ?_; omega
  · have h2 : k = a.length := by omega
    subst h2
    rfl
  · have h2 : k = a.length := by omega
    subst h2
    rfl
theorem c_markNeedS (a : List (TNeed)) (q : Int) (h0 : 0 ≤ q ∧ q + 2 * a.length ≤ 4611686018427387904) : FnC Tryz.prog 56 G0 1 [.row 141 2 (a.map encNeed)] [.h 0, .int .i64 q] (fun d os => d = .int .i64 (q + 2 * a.length) ∧ os = [.row 141 2 ((mkL markNeed 2 q a).map encNeed)]) := by
  refine fn_rule Tryz.func56 rfl (by decide +kernel) rfl (fun w0 F0 lent β0 => ?_)
  repeat' (first | refine sC ?_ | ((with_reducible refine isAwp ?_); first | (refine sS ?_; intro Q' hn he hr) | refine sA ?_) | (refine sH ?_; clear hn he hr Q') | ((conv => whnf); refine sK ?_))
  refine loop_env (fun k : Nat => [(0,.h 0),(1,.int .i64 (q + 2 * k)),(5,.int .i64 k)]) (fun k => [.row 141 2 ((mkTo markNeed 2 q a k).map encNeed)]) (fun k => k ≤ a.length) (fun k => a.length - k) 0 (by omega) (by refine weak_to rfl rfl ?_ ?_; rw [mkTo_zero]; rfl; exact ⟨rfl, by (conv => rhs; whnf); refine congrArg (D.int _) ?_; omega, rfl, trivial⟩) (fun k hk Q' hn he hr => ?_)
  repeat' (first | refine sC ?_ | ((with_reducible refine isAwp ?_); first | (refine sS ?_; intro Q' hn he hr) | refine sA ?_) | (refine sH ?_; clear hn he hr Q') | ((conv => whnf); first | refine sK ?_ | (refine sB ?_; repeat' (refine sb2 ?_ ?_ <;> intro hb <;> try exact cls)) | (refine LenS.mkTo fun hlen => ?_) | (refine InS.mkTo (by omega) ?_) | (refine InS.set ?_; repeat' (refine InS.set ?_); refine InS.mkTo (by omega) ?_) | (refine ElemS.mkTo (by omega) fun x hx => ?_) | (refine ElemS.set (by simp [mkTo_length]; omega) ?_) | ((with_reducible refine isCall ?_); (refine call_pure (c_markText _ (by omega)) rfl rfl ?_)) | ((with_reducible refine isRet ?_); (refine ret_pick [0] rfl rfl rfl ⟨?_, ?_⟩)) | refine sP ?_ | (refine sH ?_; clear hn he hr Q')))
  · refine ⟨k + 1, by omega, by omega, ?_⟩
    refine weak_to rfl rfl ?_ ⟨rfl, ?_, rfl, trivial⟩
    · rw [← mkTo_succ hx, List.map_set]
      try simp only [List.set_set]
      rfl
    · (conv => rhs; whnf); refine congrArg (D.int _) ?_; omega
  · have h2 : k = a.length := by omega
    subst h2
    rfl
  · have h2 : k = a.length := by omega
    subst h2
    rfl
theorem c_markFindingS (a : List (TFinding)) (q : Int) (h0 : 0 ≤ q ∧ q + 3 * a.length ≤ 4611686018427387904) : FnC Tryz.prog 11 G0 1 [.row 78 3 (a.map encFinding)] [.h 0, .int .i64 q] (fun d os => d = .int .i64 (q + 3 * a.length) ∧ os = [.row 78 3 ((mkL markFinding 3 q a).map encFinding)]) := by
  refine fn_rule Tryz.func11 rfl (by decide +kernel) rfl (fun w0 F0 lent β0 => ?_)
  repeat' (first | refine sC ?_ | ((with_reducible refine isAwp ?_); first | (refine sS ?_; intro Q' hn he hr) | refine sA ?_) | (refine sH ?_; clear hn he hr Q') | ((conv => whnf); refine sK ?_))
  refine loop_env (fun k : Nat => [(0,.h 0),(1,.int .i64 (q + 3 * k)),(5,.int .i64 k)]) (fun k => [.row 78 3 ((mkTo markFinding 3 q a k).map encFinding)]) (fun k => k ≤ a.length) (fun k => a.length - k) 0 (by omega) (by refine weak_to rfl rfl ?_ ?_; rw [mkTo_zero]; rfl; exact ⟨rfl, by (conv => rhs; whnf); refine congrArg (D.int _) ?_; omega, rfl, trivial⟩) (fun k hk Q' hn he hr => ?_)
  repeat' (first | refine sC ?_ | ((with_reducible refine isAwp ?_); first | (refine sS ?_; intro Q' hn he hr) | refine sA ?_) | (refine sH ?_; clear hn he hr Q') | ((conv => whnf); first | refine sK ?_ | (refine sB ?_; repeat' (refine sb2 ?_ ?_ <;> intro hb <;> try exact cls)) | (refine LenS.mkTo fun hlen => ?_) | (refine InS.mkTo (by omega) ?_) | (refine InS.set ?_; repeat' (refine InS.set ?_); refine InS.mkTo (by omega) ?_) | (refine ElemS.mkTo (by omega) fun x hx => ?_) | (refine ElemS.set (by simp [mkTo_length]; omega) ?_) | ((with_reducible refine isCall ?_); (refine call_pure (c_markText _ (by omega)) rfl rfl ?_)) | ((with_reducible refine isRet ?_); (refine ret_pick [0] rfl rfl rfl ⟨?_, ?_⟩)) | refine sP ?_ | (refine sH ?_; clear hn he hr Q')))
  · refine ⟨k + 1, by omega, by omega, ?_⟩
    refine weak_to rfl rfl ?_ ⟨rfl, ?_, rfl, trivial⟩
    · rw [← mkTo_succ hx, List.map_set]
      try simp only [List.set_set]
      rfl
    · (conv => rhs; whnf); refine congrArg (D.int _) ?_; omega
  · have h2 : k = a.length := by omega
    subst h2
    rfl
  · have h2 : k = a.length := by omega
    subst h2
    rfl
theorem c_heldFindingS (a : List (TFinding)) (q : Int) (h0 : 0 ≤ q ∧ q + 3 * a.length ≤ 4611686018427387904) : FnC Tryz.prog 12 G0 0 [] [.sl 3 ((mkL markFinding 3 q a).map encFinding), .int .i64 q] (fun d os => d = .int .i64 (q + 3 * a.length) ∧ os = []) := by
  refine fn_rule Tryz.func12 rfl (by decide +kernel) rfl (fun w0 F0 lent β0 => ?_)
  repeat' (first | refine sC ?_ | ((with_reducible refine isAwp ?_); first | (refine sS ?_; intro Q' hn he hr) | refine sA ?_) | (refine sH ?_; clear hn he hr Q') | ((conv => whnf); refine sK ?_))
  refine loop_env (fun k : Nat => [(0,.sl 3 ((mkL markFinding 3 q a).map encFinding)),(1,.int .i64 (q + 3 * k)),(5,.int .i64 k)]) (fun _ => []) (fun k => k ≤ a.length) (fun k => a.length - k) 0 (by omega) (by refine weak_to rfl rfl rfl ?_; ((repeat' (first | exact trivial | refine And.intro ?_ ?_)) <;> (first | rfl | (conv => rhs; whnf) <;> (first | rfl | (refine congrArg (D.int _) ?_; omega))))) (fun k hk Q' hn he hr => ?_)
  repeat' (first | refine sC ?_ | ((with_reducible refine isAwp ?_); first | (refine sS ?_; intro Q' hn he hr) | refine sA ?_) | (refine sH ?_; clear hn he hr Q') | refine sO ?_ | ((conv => whnf); first | refine sK ?_ | (refine sB ?_; repeat' (refine sb2 ?_ ?_ <;> intro hb <;> try exact cls)) | (refine LenS.mkL fun hlen => ?_) | (refine ElemS.mkL (by omega) fun y hy => ?_) | ((with_reducible refine isCallQ ?_); (refine callQ_plain (.str (mtext _)) (c_markText _ (by omega)) rfl (by rintro d os ⟨rfl, rfl⟩; rfl) ?_)) | refine sP ?_ | refine sD ?_ | (refine ret_pick [] rfl rfl rfl ⟨?_, rfl⟩; conv => lhs; whnf) | (refine sH ?_; clear hn he hr Q')))
  · exact ⟨k + 1, by omega, by omega, (by refine weak_to rfl rfl rfl ?_; ((repeat' (first | exact trivial | refine And.intro ?_ ?_)) <;> (first | rfl | (conv => rhs; whnf) <;> (first | rfl | (refine congrArg (D.int _) ?_; omega)))))⟩
  · have h2 : k = a.length := by omega
    subst h2
    rfl
theorem c_markFindingS_nil (q : Int) : FnC Tryz.prog 11 G0 0 [] [.sl 3 [], .int .i64 q] (fun d os => d = .int .i64 q ∧ os = []) := by
  refine fn_rule Tryz.func11 rfl (by decide +kernel) rfl (fun w0 F0 lent β0 => ?_)
  repeat' (first | refine sC ?_ | ((with_reducible refine isAwp ?_); first | (refine sS ?_; intro Q' hn he hr) | refine sA ?_) | (refine sH ?_; clear hn he hr Q') | ((conv => whnf); refine sK ?_))
  refine loop_env (fun _ : Nat => [(0,.sl 3 []),(1,.int .i64 q),(5,.int .i64 0)]) (fun _ => []) (fun _ => True) (fun _ => 0) 0 trivial (by refine weak_to rfl rfl rfl ?_; ((repeat' (first | exact trivial | refine And.intro ?_ ?_)) <;> (first | rfl | (conv => rhs; whnf) <;> (first | rfl | (refine congrArg (D.int _) ?_; omega))))) (fun k hk Q' hn he hr => ?_)
  repeat' (first | refine sC ?_ | ((with_reducible refine isAwp ?_); first | (refine sS ?_; intro Q' hn he hr) | refine sA ?_) | (refine sH ?_; clear hn he hr Q') | ((conv => whnf); first | refine sK ?_ | (refine sB ?_; repeat' (refine sb2 ?_ ?_ <;> intro hb <;> try exact cls)) | refine sP ?_ | (refine ret_pick [] rfl rfl rfl ⟨?_, rfl⟩; conv => lhs; whnf) | (refine sH ?_; clear hn he hr Q')))
theorem c_heldFindingS_nil (q : Int) : FnC Tryz.prog 12 G0 0 [] [.sl 3 [], .int .i64 q] (fun d os => d = .int .i64 q ∧ os = []) := by
  refine fn_rule Tryz.func12 rfl (by decide +kernel) rfl (fun w0 F0 lent β0 => ?_)
  repeat' (first | refine sC ?_ | ((with_reducible refine isAwp ?_); first | (refine sS ?_; intro Q' hn he hr) | refine sA ?_) | (refine sH ?_; clear hn he hr Q') | ((conv => whnf); refine sK ?_))
  refine loop_env (fun _ : Nat => [(0,.sl 3 []),(1,.int .i64 q),(5,.int .i64 0)]) (fun _ => []) (fun _ => True) (fun _ => 0) 0 trivial (by refine weak_to rfl rfl rfl ?_; ((repeat' (first | exact trivial | refine And.intro ?_ ?_)) <;> (first | rfl | (conv => rhs; whnf) <;> (first | rfl | (refine congrArg (D.int _) ?_; omega))))) (fun k hk Q' hn he hr => ?_)
  repeat' (first | refine sC ?_ | ((with_reducible refine isAwp ?_); first | (refine sS ?_; intro Q' hn he hr) | refine sA ?_) | (refine sH ?_; clear hn he hr Q') | ((conv => whnf); first | refine sK ?_ | (refine sB ?_; repeat' (refine sb2 ?_ ?_ <;> intro hb <;> try exact cls)) | refine sP ?_ | (refine ret_pick [] rfl rfl rfl ⟨?_, rfl⟩; conv => lhs; whnf) | (refine sH ?_; clear hn he hr Q')))
theorem c_eqFinding (a b : TFinding) : FnC Tryz.prog 39 G0 0 [] [.agg (encFinding a), .agg (encFinding b)] (fun d os => d = .bool (eqTFinding a b) ∧ os = []) := by
  refine fn_rule Tryz.func39 rfl (by decide +kernel) rfl (fun w0 F0 lent β0 => ?_)
  repeat' (first | refine sC ?_ | ((with_reducible refine isAwp ?_); first | (refine sS ?_; intro Q' hn he hr) | refine sA ?_) | (refine sH ?_; clear hn he hr Q') | ((conv => whnf); first | refine sK ?_ | (refine sB ?_; repeat' (refine sb2 ?_ ?_ <;> intro hb <;> try exact cls)) | (refine ret_pick [] rfl rfl rfl ⟨?_, rfl⟩; conv => lhs; whnf)))
  all_goals simp_all [eqTFinding, eqI, eqStr, eqBo]
theorem c_eqFindingS (a b : List (TFinding)) : FnC Tryz.prog 8 G0 0 [] [.sl 3 (a.map encFinding), .sl 3 (b.map encFinding)] (fun d os => d = .bool (eqL eqTFinding a b) ∧ os = []) := by
  refine fn_rule Tryz.func8 rfl (by decide +kernel) rfl (fun w0 F0 lent β0 => ?_)
  repeat' (first | refine sC ?_ | ((with_reducible refine isAwp ?_); first | (refine sS ?_; intro Q' hn he hr) | refine sA ?_) | (refine sH ?_; clear hn he hr Q') | ((conv => whnf); first | refine sK ?_ | (refine sB ?_; repeat' (refine sb2 ?_ ?_ <;> intro hb <;> try exact cls)) | (refine sL ?_; intro hlen) | (refine ret_pick [] rfl rfl rfl ⟨?_, rfl⟩; conv => lhs; whnf)))
  · rw [eqL_len hb]
  · refine loop_env (fun k : Nat => [(0,.sl 3 (a.map encFinding)),(1,.sl 3 (b.map encFinding)),(5,.int .i64 k)]) (fun _ => []) (fun k => k ≤ a.length ∧ eqTo eqTFinding a b k) (fun k => a.length - k) 0 ⟨by omega, eqTo_zero⟩ (by refine weak_to rfl rfl rfl ?_; ((repeat' (first | exact trivial | refine And.intro ?_ ?_)) <;> (first | rfl | (conv => rhs; whnf) <;> (first | rfl | (refine congrArg (D.int _) ?_; omega))))) (fun k hk Q' hn he hr => ?_)
    repeat' (first | refine sC ?_ | ((with_reducible refine isAwp ?_); first | (refine sS ?_; intro Q' hn he hr) | refine sA ?_) | (refine sH ?_; clear hn he hr Q') | refine sO ?_ | ((conv => whnf); first | refine sK ?_ | (refine sB ?_; repeat' (refine sb2 ?_ ?_ <;> intro hb <;> try exact cls)) | ((with_reducible refine isCallQ ?_); (refine callQ_plain (.bool (eqTFinding _ _)) (c_eqFinding _ _) rfl (by rintro d os ⟨rfl, rfl⟩; rfl) ?_)) | refine sP ?_ | (refine sE ?_; intro x hx) | (refine sL ?_; intro hlen) | refine sD ?_ | (refine ret_pick [] rfl rfl rfl ⟨?_, rfl⟩; conv => lhs; whnf) | (refine sH ?_; clear hn he hr Q')))
    · rw [eqL_at ‹a[k]? = some _› ‹b[k]? = some _› hb]
    · exact ⟨k + 1, ⟨by omega, eqTo_succ hk.2 ‹a[k]? = some _› ‹b[k]? = some _› hb⟩, by omega, (by refine weak_to rfl rfl rfl ?_; ((repeat' (first | exact trivial | refine And.intro ?_ ?_)) <;> (first | rfl | (conv => rhs; whnf) <;> (first | rfl | (refine congrArg (D.int _) ?_; omega)))))⟩
    · rw [eqL_all (by omega) (fun j x y h => hk.2 j x y (by omega))]
end Go.Eng
