/-
  The desk with which a console begins, by the program and by the reference.
  No conditions.
-/
import Derived.Test.YtlkjechbejfnhaaGreatDoorED
import Derived.Test.YtlkjechbejfnhaaGreatDoorSP1
import Derived.Test.YtlkjechbejfnhaaGreatDoorRL
import Derived.Test.YtlkjechbejfnhaaGreatDoorJL
import Derived.Test.YtlkjechbejfnhaaGreatDoorVD1
import Derived.Test.YtlkjechbejfnhaaGreatDoorV1
set_option linter.unusedVariables false
set_option linter.unusedSimpArgs false
set_option maxHeartbeats 4000000
namespace Go.Eng
open Go Go.RowKit Go.Proofs
set_option maxRecDepth 100000
/-- Cells that are handed back, in which slices without memory are told as empty ones. -/
def nilsD : List D → List D → Prop
  | [], [] => True
  | d :: r, d' :: r' => (d' = d ∨ (d = .v (.slice none 0 0) ∧ ∃ s, d' = .sl s [])) ∧ nilsD r r'
  | _, _ => False
theorem nilsD_get : ∀ {ds ds' : List D}, nilsD ds ds' → ds'.length = ds.length ∧ ∀ i, i < ds.length → (ds'.getD i .junk = ds.getD i .junk ∨ (ds.getD i .junk = .v (.slice none 0 0) ∧ ∃ s, ds'.getD i .junk = .sl s []))
  | [], [], _ => ⟨rfl, fun i hi => absurd hi (Nat.not_lt_zero _)⟩
  | d :: r, d' :: r', h => by
    obtain ⟨h1, h2⟩ := h
    obtain ⟨h3, h4⟩ := nilsD_get h2
    refine ⟨by simp [h3], fun i hi => ?_⟩
    cases i with
    | zero => exact h1
    | succ i => exact h4 i (by simpa using hi)
  | [], _ :: _, h => h.elim
  | _ :: _, [], h => h.elim
theorem ret_nils {X : Ctx} {G : Nat → Option (List D)} {pin : Nat} {st : St} {ds ds' : List D} {post : D → List Obj → Prop} (hn : nilsD ds ds') (h : RetS X G pin st (.agg ds') post) : RetS X G pin st (.agg ds) post :=
  RetS.mk fun β a w v hr hv => h.use β a w v hr (by
    obtain ⟨h3, h4⟩ := nilsD_get hn
    obtain ⟨cs, rfl, hl, h1, hrr⟩ := hv.agg_inv
    refine .agg cs ds' (by rw [h3]; exact hl) h1 fun i hi => ?_
    have hi' : i < ds.length := by omega
    have hri := hrr i hi'
    rcases h4 i hi' with e | ⟨e1, s, e2⟩
    · rw [e]; exact hri
    · rw [e1] at hri
      rw [e2, hri.v_inv]
      exact .ro _ _ (.slnil s none 0))
def newHouse : THouse := ⟨⟨[109, 97, 105, 110], 9000, 0⟩, [], 45000, [], [], 0, [], [], [], 500, [], [], 50⟩
def newSite : TSite := ⟨[106, 101, 110, 97], 11586, 50930⟩
def newDesk : TDesk := ⟨newHouse, [], [], [], newSite, []⟩
theorem c_spec_l32New : FnC Tryz.prog 24 G0 0 [] [] (fun d os => d = .agg (encDesk newDesk) ∧ os = []) := by
  refine fn_rule Tryz.func24 rfl (by decide +kernel) rfl (fun w0 F0 lent β0 => ?_)
  repeat' (first | refine sC ?_ | ((with_reducible refine isAwp ?_); first | (refine sS ?_; intro Q' hn he hr) | refine sA ?_) | (refine sH ?_; clear hn he hr Q') | refine sO ?_ | ((conv => whnf); first | refine sK ?_ | (refine sB ?_; repeat' (first | refine sb0 ?_ | (refine sb2 ?_ ?_ <;> intro hb <;> try exact cls))) | ((with_reducible refine isRet ?_); first | (refine ret_nils (ds' := encDesk newDesk) (by (repeat' (first | exact trivial | refine And.intro (.inl rfl) ?_ | refine And.intro (.inr ⟨rfl, _, rfl⟩) ?_))) ?_; refine ret_pick [] rfl rfl rfl ⟨rfl, rfl⟩)) | refine sP ?_ | (refine sE ?_; intro x hx) | (refine sF ?_; intro i y hi hy) | (refine sI ?_; intro i hi) | (refine sL ?_; intro hlen) | (refine sQ ?_; intro c hc hcm; try simp only [lnM, lnA, lnC, lnN] at hc) | (refine sX ?_; intro i1 i2 hi1 hi2 hj1 hj2; try simp only [cutL, lnM, lnA, lnC, lnN, lnT, lnD, lnR] at hi1 hi2 hj2) | refine sD ?_ | (refine ret_pick [] rfl rfl rfl ⟨?_, rfl⟩; conv => lhs; whnf) | (refine ret_pick [0] rfl rfl rfl ⟨rfl, ?_⟩) | (refine sH ?_; clear hn he hr Q')))
  all_goals trace_state
theorem c_spec_NewDesk : FnC Tryz.prog 6 G0 0 [] [] (fun d os => d = .agg (encDesk newDesk) ∧ os = []) := by
  refine fn_rule Tryz.func6 rfl (by decide +kernel) rfl (fun w0 F0 lent β0 => ?_)
  repeat' (first | refine sC ?_ | ((with_reducible refine isAwp ?_); first | (refine sS ?_; intro Q' hn he hr) | refine sA ?_) | (refine sH ?_; clear hn he hr Q') | refine sO ?_ | ((conv => whnf); first | refine sK ?_ | (refine sB ?_; repeat' (first | refine sb0 ?_ | (refine sb2 ?_ ?_ <;> intro hb <;> try exact cls))) | ((with_reducible refine isCall ?_); first | (refine call_pure (c_spec_l32New) rfl rfl ?_)) | ((with_reducible refine isCallQ ?_); first | (refine callQ_pure (c_spec_l32New) rfl rfl ?_)) | ((with_reducible refine isRet ?_); first | (refine ret_pick [] rfl rfl rfl ⟨rfl, rfl⟩)) | refine sP ?_ | (refine sE ?_; intro x hx) | (refine sF ?_; intro i y hi hy) | (refine sI ?_; intro i hi) | (refine sL ?_; intro hlen) | (refine sQ ?_; intro c hc hcm; try simp only [lnM, lnA, lnC, lnN] at hc) | (refine sX ?_; intro i1 i2 hi1 hi2 hj1 hj2; try simp only [cutL, lnM, lnA, lnC, lnN, lnT, lnD, lnR] at hi1 hi2 hj2) | refine sD ?_ | (refine ret_pick [] rfl rfl rfl ⟨?_, rfl⟩; conv => lhs; whnf) | (refine ret_pick [0] rfl rfl rfl ⟨rfl, ?_⟩) | (refine sH ?_; clear hn he hr Q')))
  all_goals trace_state
def pad3 (l : List UInt8) : List UInt8 := List.replicate (3 - l.length) 48 ++ l
theorem c_impl_padded3 (n : Nat) (h : n ≤ 999) : FnC Tryz.prog 233 GP 0 [] [.int .i64 n, .int .i64 3] (fun d os => d = .str (pad3 (Lib.itoa n)) ∧ os = []) := by
  have h1 := Lib.itoa_length_le (n : Int) (by omega) (by omega)
  refine fn_rule Tryz.func233 rfl (by decide +kernel) rfl (fun w0 F0 lent β0 => ?_)
  repeat' (first | refine sC ?_ | ((with_reducible refine isAwp ?_); first | (refine sS ?_; intro Q' hn he hr) | refine sA ?_) | (refine sH ?_; clear hn he hr Q') | refine sO ?_ | ((conv => whnf); first | refine sK ?_ | (refine sB ?_; repeat' (first | refine sb0 ?_ | (refine sb2 ?_ ?_ <;> intro hb <;> try exact cls))) | ((with_reducible refine isCall ?_); first | (refine call_pure (c_impl_Decimal (n : Int) (by omega)) rfl rfl ?_)) | ((with_reducible refine isCallQ ?_); first | (refine callQ_pure (c_impl_Decimal (n : Int) (by omega)) rfl rfl ?_)) | refine sP ?_ | (refine sE ?_; intro x hx) | (refine sF ?_; intro i y hi hy) | (refine sI ?_; intro i hi) | (refine sL ?_; intro hlen) | (refine sQ ?_; intro c hc hcm; try simp only [lnM, lnA, lnC, lnN] at hc) | (refine sX ?_; intro i1 i2 hi1 hi2 hj1 hj2; try simp only [cutL, lnM, lnA, lnC, lnN, lnT, lnD, lnR] at hi1 hi2 hj2) | refine sD ?_ | (refine ret_pick [] rfl rfl rfl ⟨?_, rfl⟩; conv => lhs; whnf) | (refine ret_pick [0] rfl rfl rfl ⟨rfl, ?_⟩) | (refine sH ?_; clear hn he hr Q')))
  refine loop_env (fun j : Nat => [(1,.int .i64 3),(5,.str (List.replicate j 48 ++ Lib.itoa n))]) (fun j => []) (fun j => j ≤ 3 - (Lib.itoa n).length) (fun j => 3 - j) 0 (by omega) (by refine weak_to rfl rfl rfl ?_; ((repeat' (first | exact trivial | refine And.intro ?_ ?_)) <;> (first | rfl | (conv => rhs; whnf) <;> (first | rfl | (refine congrArg (D.int _) ?_; omega))))) (fun j hj Q' hn he hr => ?_)
  have h2 : (List.replicate j (48 : UInt8) ++ Lib.itoa n).length = j + (Lib.itoa n).length := by simp
  repeat' (first | refine sC ?_ | ((with_reducible refine isAwp ?_); first | (refine sS ?_; intro Q' hn he hr) | refine sA ?_) | (refine sH ?_; clear hn he hr Q') | refine sO ?_ | ((conv => whnf); first | refine sK ?_ | (refine sB ?_; repeat' (first | refine sb0 ?_ | (refine sb2 ?_ ?_ <;> intro hb <;> try exact cls))) | (refine AskS.mk ⟨by show 1 + (List.replicate j (48 : UInt8) ++ Lib.itoa n).length ≤ maxLen; rw [h2]; unfold maxLen; omega, ?_⟩) | refine sP ?_ | (refine sE ?_; intro x hx) | (refine sF ?_; intro i y hi hy) | (refine sI ?_; intro i hi) | (refine sL ?_; intro hlen) | (refine sQ ?_; intro c hc hcm; try simp only [lnM, lnA, lnC, lnN] at hc) | (refine sX ?_; intro i1 i2 hi1 hi2 hj1 hj2; try simp only [cutL, lnM, lnA, lnC, lnN, lnT, lnD, lnR] at hi1 hi2 hj2) | refine sD ?_ | (refine ret_pick [] rfl rfl rfl ⟨?_, rfl⟩; conv => lhs; whnf) | (refine ret_pick [0] rfl rfl rfl ⟨rfl, ?_⟩) | (refine sH ?_; clear hn he hr Q')))
  · exact ⟨j + 1, by omega, by omega, (by refine weak_to rfl rfl rfl ?_; ((repeat' (first | exact trivial | refine And.intro ?_ ?_)) <;> (first | rfl | (conv => rhs; whnf) <;> (first | rfl | (refine congrArg (D.int _) ?_; omega)))))⟩
  · obtain rfl : j = 3 - (Lib.itoa n).length := by omega
    rfl
def angT (q r : Nat) : List UInt8 := [] ++ Lib.itoa q ++ [46] ++ pad3 (Lib.itoa r)
theorem ArithS.quoK {a b m : Int} {K : Int → Prop} (h : a.tdiv b = m) (hm : -9223372036854775808 ≤ m ∧ m ≤ 9223372036854775807) (hK : K m) : ArithS .i64 (a.tdiv b) K := ArithS.to m h (wrap64 hm) hK
theorem ArithS.remK {a b m : Int} {K : Int → Prop} (h : a.tmod b = m) (hm : -9223372036854775808 ≤ m ∧ m ≤ 9223372036854775807) (hK : K m) : ArithS .i64 (a.tmod b) K := ArithS.to m h (wrap64 hm) hK
theorem c_impl_AngleText (n : Int) (q r : Nat) (h : n = 1000 * q + r) (hr3 : r ≤ 999) (hq : q ≤ 359) : FnC Tryz.prog 175 GP 0 [] [.int .i64 n] (fun d os => d = .str (angT q r) ∧ os = []) := by
  have e1 : Int.tdiv n 1000 = q := by rw [Int.tdiv_eq_ediv_of_nonneg (by omega)]; omega
  have e2 : Int.tmod n 1000 = r := by rw [Int.tmod_eq_emod_of_nonneg (by omega)]; omega
  have h1 := Lib.itoa_length_le (q : Int) (by omega) (by omega)
  have h2 := Lib.itoa_length_le (r : Int) (by omega) (by omega)
  have hpd : FnC Tryz.prog 233 GP 0 [] [.int .i64 (n.tmod 1000), .int .i64 3] (fun d os => d = .str (pad3 (Lib.itoa r)) ∧ os = []) := by rw [e2]; exact c_impl_padded3 r hr3
  have hv : inB n (-359999) 359999 = true := by simp only [inB, Bool.and_eq_true, decide_eq_true_eq]; omega
  refine fn_rule Tryz.func175 rfl (by decide +kernel) rfl (fun w0 F0 lent β0 => ?_)
  repeat' (first | refine sC ?_ | ((with_reducible refine isAwp ?_); first | (refine sS ?_; intro Q' hn he hr) | refine sA ?_) | (refine sH ?_; clear hn he hr Q') | refine sO ?_ | ((conv => whnf); first | refine sK ?_ | (refine sB ?_; repeat' (first | refine sb0 ?_ | (refine sb2 ?_ ?_ <;> intro hb <;> try exact cls))) | (refine AskS.mk ⟨by omega, ?_⟩) | (with_reducible refine ArithS.quoK e1 (by omega) ?_) | (with_reducible refine ArithS.remK e2 (by omega) ?_) | (refine AskS.mk ⟨by simp only [List.length_append, List.length_cons, List.length_nil, pad3, List.length_replicate]; unfold maxLen; omega, ?_⟩) | ((with_reducible refine isCall ?_); first | (refine call_pure (FnC.anyG (c_within _ _ _)) rfl rfl ?_) | (refine call_pure (c_impl_Decimal (q : Int) (by omega)) rfl rfl ?_) | (refine call_pure (hpd) rfl rfl ?_)) | ((with_reducible refine isCallQ ?_); first | (refine callQ_pure (FnC.anyG (c_within _ _ _)) rfl rfl ?_) | (refine callQ_pure (c_impl_Decimal (q : Int) (by omega)) rfl rfl ?_) | (refine callQ_pure (hpd) rfl rfl ?_)) | refine sP ?_ | (refine sE ?_; intro x hx) | (refine sF ?_; intro i y hi hy) | (refine sI ?_; intro i hi) | (refine sL ?_; intro hlen) | (refine sQ ?_; intro c hc hcm; try simp only [lnM, lnA, lnC, lnN] at hc) | (refine sX ?_; intro i1 i2 hi1 hi2 hj1 hj2; try simp only [cutL, lnM, lnA, lnC, lnN, lnT, lnD, lnR] at hi1 hi2 hj2) | refine sD ?_ | (refine ret_pick [] rfl rfl rfl ⟨?_, rfl⟩; conv => lhs; whnf) | (refine ret_pick [0] rfl rfl rfl ⟨rfl, ?_⟩) | (refine sH ?_; clear hn he hr Q')))
  all_goals exact rfl
theorem c_strings_IndexByte (l : List UInt8) (c : UInt8) : FnC Tryz.prog 173 G0 0 [] [.str l, .int .u8 c.toNat] (fun d os => d = .int .i64 (Lib.indexByte l c) ∧ os = []) := by
  refine fn_rule Tryz.func173 rfl (by decide +kernel) rfl (fun w0 F0 lent β0 => ?_)
  repeat' (first | refine sC ?_ | ((with_reducible refine isAwp ?_); first | (refine sS ?_; intro Q' hn he hr) | refine sA ?_) | (refine sH ?_; clear hn he hr Q') | refine sO ?_ | ((conv => whnf); first | refine sK ?_ | (refine sB ?_; repeat' (first | refine sb0 ?_ | (refine sb2 ?_ ?_ <;> intro hb <;> try exact cls))) | ((with_reducible refine isCall ?_); first | (refine call_pure (c_stringslite_IndexByte l c) rfl rfl ?_)) | ((with_reducible refine isCallQ ?_); first | (refine callQ_pure (c_stringslite_IndexByte l c) rfl rfl ?_)) | refine sP ?_ | (refine sE ?_; intro x hx) | (refine sF ?_; intro i y hi hy) | (refine sI ?_; intro i hi) | (refine sL ?_; intro hlen) | (refine sQ ?_; intro c hc hcm; try simp only [lnM, lnA, lnC, lnN] at hc) | (refine sX ?_; intro i1 i2 hi1 hi2 hj1 hj2; try simp only [cutL, lnM, lnA, lnC, lnN, lnT, lnD, lnR] at hi1 hi2 hj2) | refine sD ?_ | (refine ret_pick [] rfl rfl rfl ⟨?_, rfl⟩; conv => lhs; whnf) | (refine ret_pick [0] rfl rfl rfl ⟨rfl, ?_⟩) | (refine sH ?_; clear hn he hr Q')))
  all_goals trace_state
theorem c_impl_ReadAngle (e1 e2 : Value) (s : List UInt8) (k n q r : Nat) (hk : Lib.indexByte s 46 = k) (hl : s.length = k + 4) (hl2 : s.length ≤ 100) (hp : Lib.parseIntB 64 (s.take k ++ s.drop (k + 1)) = .ok (n : Int)) (h : n = 1000 * q + r) (hr3 : r ≤ 999) (hq : q ≤ 359) (ht : angT q r = s) : FnC Tryz.prog 102 (GE e1 e2) 0 [] [.str s] (fun d os => d = .tup [.int .i64 n, .bool true] ∧ os = []) := by
  have hix := c_strings_IndexByte s 46
  rw [hk] at hix
  have hat := c_impl_AngleText n q r (by omega) hr3 hq
  rw [ht] at hat
  have hpi : ∀ i j : Nat, i = k → j = k + 1 → FnC Tryz.prog 174 (GE e1 e2) 0 [] [.str (cutL s none (some i) ++ cutL s (some j) none), .int .i64 10, .int .i64 64] (fun d os => d = .tup [.int .i64 (n : Int), .v .nilIface] ∧ os = []) := by
    rintro i j rfl rfl
    exact c_ParseInt_ok e1 e2 (s.take i ++ s.drop (i + 1)) (n : Int) (by rw [List.length_append, List.length_take, List.length_drop]; omega) hp
  refine fn_rule Tryz.func102 rfl (by decide +kernel) rfl (fun w0 F0 lent β0 => ?_)
  repeat' (first | refine sC ?_ | ((with_reducible refine isAwp ?_); first | (refine sS ?_; intro Q' hn he hr) | refine sA ?_) | (refine sH ?_; clear hn he hr Q') | refine sO ?_ | ((conv => whnf); first | refine sK ?_ | (refine sB ?_; repeat' (first | refine sb0 ?_ | (refine sb2 ?_ ?_ <;> intro hb <;> try exact cls))) | (refine AskS.mk ⟨by simp only [cutL, List.length_append, List.length_take, List.length_drop]; unfold maxLen; omega, ?_⟩) | ((with_reducible refine isCall ?_); first | (refine call_pure (hix.anyG) rfl rfl ?_) | (refine call_pure (hpi _ _ (by omega) (by omega)) rfl rfl ?_) | (refine call_pure (hat.atE e1 e2) rfl rfl ?_)) | ((with_reducible refine isCallQ ?_); first | (refine callQ_pure (hix.anyG) rfl rfl ?_) | (refine callQ_pure (hpi _ _ (by omega) (by omega)) rfl rfl ?_) | (refine callQ_pure (hat.atE e1 e2) rfl rfl ?_)) | refine sP ?_ | (refine sE ?_; intro x hx) | (refine sF ?_; intro i y hi hy) | (refine sI ?_; intro i hi) | (refine sL ?_; intro hlen) | (refine sQ ?_; intro c hc hcm; try simp only [lnM, lnA, lnC, lnN] at hc) | (refine sX ?_; intro i1 i2 hi1 hi2 hj1 hj2; try simp only [cutL, lnM, lnA, lnC, lnN, lnT, lnD, lnR] at hi1 hi2 hj2) | refine sD ?_ | (refine ret_pick [] rfl rfl rfl ⟨?_, rfl⟩; conv => lhs; whnf) | (refine ret_pick [0] rfl rfl rfl ⟨rfl, ?_⟩) | (refine sH ?_; clear hn he hr Q')))
  all_goals first | rfl | trace_state
def domeT : List UInt8 := [109, 97, 105, 110, 32, 57, 48, 48, 48, 44, 48]
def siteT : List UInt8 := [106, 101, 110, 97, 32, 49, 49, 46, 53, 56, 54, 32, 53, 48, 46, 57, 51, 48]
theorem c_impl_DomeText : FnC Tryz.prog 100 GP 0 [] [.agg (encDome newHouse.fDome)] (fun d os => d = .str domeT ∧ os = []) := by
  have hlt := c_impl_ListText [9000, 0] ⟨by decide, by decide⟩ (fun k n hk => by
    have := List.mem_of_getElem? hk
    simp only [List.mem_cons, List.not_mem_nil, or_false] at this
    omega)
  have hj : joinL ([(9000 : Int), 0].map Lib.itoa) = [57, 48, 48, 48, 44, 48] := by decide +kernel
  rw [hj] at hlt
  have hvd := c_impl_ValidDome newHouse.fDome
  have hd : domB newHouse.fDome = true := by decide +kernel
  rw [hd] at hvd
  refine fn_rule Tryz.func100 rfl (by decide +kernel) rfl (fun w0 F0 lent β0 => ?_)
  repeat' (first | refine sC ?_ | ((with_reducible refine isAwp ?_); first | (refine sS ?_; intro Q' hn he hr) | refine sA ?_) | (refine sH ?_; clear hn he hr Q') | refine sO ?_ | ((conv => whnf); first | refine sK ?_ | (refine sB ?_; repeat' (first | refine sb0 ?_ | (refine sb2 ?_ ?_ <;> intro hb <;> try exact cls))) | (refine AskS.mk ⟨by decide, ?_⟩) | ((with_reducible refine isCall ?_); first | (refine call_pure (hvd.anyG) rfl rfl ?_) | (refine call_look (hlt) rfl ?_)) | ((with_reducible refine isCallQ ?_); first | (refine callQ_pure (hvd.anyG) rfl rfl ?_) | (refine callQ_look (hlt) rfl ?_)) | refine sP ?_ | (refine sE ?_; intro x hx) | (refine sF ?_; intro i y hi hy) | (refine sI ?_; intro i hi) | (refine sL ?_; intro hlen) | (refine sQ ?_; intro c hc hcm; try simp only [lnM, lnA, lnC, lnN] at hc) | (refine sX ?_; intro i1 i2 hi1 hi2 hj1 hj2; try simp only [cutL, lnM, lnA, lnC, lnN, lnT, lnD, lnR] at hi1 hi2 hj2) | refine sD ?_ | (refine ret_pick [] rfl rfl rfl ⟨?_, rfl⟩; conv => lhs; whnf) | (refine ret_pick [0] rfl rfl rfl ⟨rfl, ?_⟩) | (refine sH ?_; clear hn he hr Q')))
  all_goals first | rfl | trace_state
theorem c_impl_ReadDome (e1 e2 : Value) (hif : isIfc e1) : FnC Tryz.prog 25 (GE e1 e2) 0 [] [.str domeT] (fun d os => d = .tup [.agg (encDome newHouse.fDome), .bool true] ∧ os = []) := by
  have hcut := c_strings_Cut domeT 32 (by decide)
  have hc1 : cutTx 32 domeT = ([109, 97, 105, 110], [57, 48, 48, 48, 44, 48], true) := by decide +kernel
  rw [hc1] at hcut
  simp only at hcut
  have hrl := c_impl_ReadList e1 e2 hif [57, 48, 48, 48, 44, 48] (by decide)
  have hr1 : readL [57, 48, 48, 48, 44, 48] = ([9000, 0], true) := by decide +kernel
  rw [hr1] at hrl
  simp only at hrl
  have hvd := c_impl_ValidDome newHouse.fDome
  have hd : domB newHouse.fDome = true := by decide +kernel
  rw [hd] at hvd
  have hdt := c_impl_DomeText
  refine fn_rule Tryz.func25 rfl (by decide +kernel) rfl (fun w0 F0 lent β0 => ?_)
  repeat' (first | refine sC ?_ | ((with_reducible refine isAwp ?_); first | (refine sS ?_; intro Q' hn he hr) | refine sA ?_) | (refine sH ?_; clear hn he hr Q') | refine sO ?_ | ((conv => whnf); first | refine sK ?_ | (refine sB ?_; repeat' (first | refine sb0 ?_ | (refine sb2 ?_ ?_ <;> intro hb <;> try exact cls))) | (refine ElemS.lit 0 rfl rfl ?_) | (refine ElemS.lit 1 rfl rfl ?_) | (refine draw_late 8 9 (by decide +kernel) (by decide +kernel) ?_) | (refine LateS.mk rfl ?_) | ((with_reducible refine isCall ?_); first | (refine call_pure (hcut.anyG) rfl rfl ?_) | (refine call_pure (hrl) rfl rfl ?_) | (refine call_pure (hvd.anyG) rfl rfl ?_) | (refine call_pure (hdt.atE e1 e2) rfl rfl ?_)) | ((with_reducible refine isCallQ ?_); first | (refine callQ_pure (hcut.anyG) rfl rfl ?_) | (refine callQ_pure (hrl) rfl rfl ?_) | (refine callQ_pure (hvd.anyG) rfl rfl ?_) | (refine callQ_pure (hdt.atE e1 e2) rfl rfl ?_)) | refine sP ?_ | (refine sE ?_; intro x hx) | (refine sF ?_; intro i y hi hy) | (refine sI ?_; intro i hi) | (refine sL ?_; intro hlen) | (refine sQ ?_; intro c hc hcm; try simp only [lnM, lnA, lnC, lnN] at hc) | (refine sX ?_; intro i1 i2 hi1 hi2 hj1 hj2; try simp only [cutL, lnM, lnA, lnC, lnN, lnT, lnD, lnR] at hi1 hi2 hj2) | refine sD ?_ | (refine ret_pick [] rfl rfl rfl ⟨?_, rfl⟩; conv => lhs; whnf) | (refine ret_pick [0] rfl rfl rfl ⟨rfl, ?_⟩) | (refine sH ?_; clear hn he hr Q')))
  all_goals exact rfl
theorem c_impl_SplitWords (s : List UInt8) (hl : s.length ≤ 1000) (P : List (List UInt8)) (hP : splitC 32 s = P) (hPl : P.length ≤ 1001) : FnC Tryz.prog 101 G0 0 [] [.str s] (fun d os => d = .h 0 ∧ os = [.row 9 1 ((P.filter fun p => decide (p ≠ [])).map encS)]) := by
  have hsp := c_strings_Split s 32 (by omega)
  rw [hP] at hsp
  refine fn_rule Tryz.func101 rfl (by decide +kernel) rfl (fun w0 F0 lent β0 => ?_)
  repeat' (first | refine sC ?_ | ((with_reducible refine isAwp ?_); first | (refine sS ?_; intro Q' hn he hr) | refine sA ?_) | (refine sH ?_; clear hn he hr Q') | refine sO ?_ | ((conv => whnf); first | refine sK ?_ | (refine sB ?_; repeat' (first | refine sb0 ?_ | (refine sb2 ?_ ?_ <;> intro hb <;> try exact cls))) | ((with_reducible refine isCall ?_); first | (refine call_pure (hsp) rfl rfl ?_)) | ((with_reducible refine isCallQ ?_); first | (refine callQ_pure (hsp) rfl rfl ?_)) | refine sP ?_ | (refine sE ?_; intro x hx) | (refine sF ?_; intro i y hi hy) | (refine sI ?_; intro i hi) | (refine sL ?_; intro hlen) | (refine sQ ?_; intro c hc hcm; try simp only [lnM, lnA, lnC, lnN] at hc) | (refine sX ?_; intro i1 i2 hi1 hi2 hj1 hj2; try simp only [cutL, lnM, lnA, lnC, lnN, lnT, lnD, lnR] at hi1 hi2 hj2) | refine sD ?_ | (refine ret_pick [] rfl rfl rfl ⟨?_, rfl⟩; conv => lhs; whnf) | (refine ret_pick [0] rfl rfl rfl ⟨rfl, ?_⟩) | (refine sH ?_; clear hn he hr Q')))
  refine loop_env (fun k : Nat => [(3,.h 0),(7,.sl 1 (P.map encS)),(8,.int .i64 P.length),(9,.int .i64 k)]) (fun k => [.row 9 1 (((P.take k).filter fun p => decide (p ≠ [])).map encS)]) (fun k => k ≤ P.length) (fun k => P.length - k) 0 (Nat.zero_le _) (by refine Weak.trans (weak_adopt 3 9 1 rfl rfl) (weak_to rfl rfl rfl ?_); exact ⟨rfl, rfl, rfl, rfl, trivial⟩) (fun k hk Q' hn he hr => ?_)
  by_cases hkl : k < P.length
  · obtain ⟨p, hPk⟩ : ∃ p, P[k]? = some p := ⟨_, List.getElem?_eq_getElem hkl⟩
    have htk : P.take (k + 1) = P.take k ++ [p] := by rw [List.take_add_one, hPk]; rfl
    have hfl : ((P.take k).filter fun p => decide (p ≠ [])).length ≤ 1001 := Nat.le_trans (List.length_filter_le _ _) (by rw [List.length_take]; omega)
    by_cases hp : p = []
    · subst hp
      have hf : (P.take (k + 1)).filter (fun p => decide (p ≠ [])) = (P.take k).filter fun p => decide (p ≠ []) := by rw [htk, List.filter_append]; simp
      repeat' (first | refine sC ?_ | ((with_reducible refine isAwp ?_); first | (refine sS ?_; intro Q' hn he hr) | refine sA ?_) | (refine sH ?_; clear hn he hr Q') | refine sO ?_ | ((conv => whnf); first | refine sK ?_ | (refine sB ?_; repeat' (first | refine sb0 ?_ | (refine sb2 ?_ ?_ <;> intro hb <;> try exact cls))) | (refine ElemS.the hPk ?_) | refine sP ?_ | (refine sE ?_; intro x hx) | (refine sF ?_; intro i y hi hy) | (refine sI ?_; intro i hi) | (refine sL ?_; intro hlen) | (refine sQ ?_; intro c hc hcm; try simp only [lnM, lnA, lnC, lnN] at hc) | (refine sX ?_; intro i1 i2 hi1 hi2 hj1 hj2; try simp only [cutL, lnM, lnA, lnC, lnN, lnT, lnD, lnR] at hi1 hi2 hj2) | refine sD ?_ | (refine ret_pick [] rfl rfl rfl ⟨?_, rfl⟩; conv => lhs; whnf) | (refine ret_pick [0] rfl rfl rfl ⟨rfl, ?_⟩) | (refine sH ?_; clear hn he hr Q')))
      all_goals first
        | (refine ⟨k + 1, by omega, by omega, ?_⟩; rw [hf]; exact (by refine weak_to rfl rfl rfl ?_; ((repeat' (first | exact trivial | refine And.intro ?_ ?_)) <;> (first | rfl | (conv => rhs; whnf) <;> (first | rfl | (refine congrArg (D.int _) ?_; omega))))))
        | (exfalso; simp_all; done)
        | trace_state
    · have hf : (P.take (k + 1)).filter (fun p => decide (p ≠ [])) = ((P.take k).filter fun p => decide (p ≠ [])) ++ [p] := by rw [htk, List.filter_append]; simp [hp]
      have hv : ¬ p = [] := hp
      repeat' (first | refine sC ?_ | ((with_reducible refine isAwp ?_); first | (refine sS ?_; intro Q' hn he hr) | refine sA ?_) | (refine sH ?_; clear hn he hr Q') | refine sO ?_ | ((conv => whnf); first | refine sK ?_ | (refine sB ?_; repeat' (first | refine sb0 ?_ | (refine sb2 ?_ ?_ <;> intro hb <;> try exact cls))) | (refine ElemS.the hPk ?_) | refine sP ?_ | (refine sE ?_; intro x hx) | (refine sF ?_; intro i y hi hy) | (refine sI ?_; intro i hi) | (refine sL ?_; intro hlen) | (refine sQ ?_; intro c hc hcm; try simp only [lnM, lnA, lnC, lnN] at hc) | (refine sX ?_; intro i1 i2 hi1 hi2 hj1 hj2; try simp only [cutL, lnM, lnA, lnC, lnN, lnT, lnD, lnR] at hi1 hi2 hj2) | refine sD ?_ | (refine ret_pick [] rfl rfl rfl ⟨?_, rfl⟩; conv => lhs; whnf) | (refine ret_pick [0] rfl rfl rfl ⟨rfl, ?_⟩) | (refine sH ?_; clear hn he hr Q')))
      all_goals first
        | (exfalso; exact hp hb)
        | (refine ⟨k + 1, by omega, by omega, ?_⟩; rw [hf, List.map_append]; refine weak_selp [0] rfl ?_ ?_ <;> (repeat' (first | exact trivial | rfl | refine And.intro ?_ ?_)))
        | trace_state
  · obtain rfl : k = P.length := by omega
    rw [List.take_length]
    repeat' (first | refine sC ?_ | ((with_reducible refine isAwp ?_); first | (refine sS ?_; intro Q' hn he hr) | refine sA ?_) | (refine sH ?_; clear hn he hr Q') | refine sO ?_ | ((conv => whnf); first | refine sK ?_ | (refine sB ?_; repeat' (first | refine sb0 ?_ | (refine sb2 ?_ ?_ <;> intro hb <;> try exact cls))) | ((with_reducible refine isRet ?_); first | (refine ret_pick [0] rfl rfl rfl ⟨rfl, ?_⟩)) | refine sP ?_ | (refine sE ?_; intro x hx) | (refine sF ?_; intro i y hi hy) | (refine sI ?_; intro i hi) | (refine sL ?_; intro hlen) | (refine sQ ?_; intro c hc hcm; try simp only [lnM, lnA, lnC, lnN] at hc) | (refine sX ?_; intro i1 i2 hi1 hi2 hj1 hj2; try simp only [cutL, lnM, lnA, lnC, lnN, lnT, lnD, lnR] at hi1 hi2 hj2) | refine sD ?_ | (refine ret_pick [] rfl rfl rfl ⟨?_, rfl⟩; conv => lhs; whnf) | (refine ret_pick [0] rfl rfl rfl ⟨rfl, ?_⟩) | (refine sH ?_; clear hn he hr Q')))
    all_goals rfl
def ang1 : List UInt8 := [49, 49, 46, 53, 56, 54]
def ang2 : List UInt8 := [53, 48, 46, 57, 51, 48]
theorem c_impl_SiteText : FnC Tryz.prog 103 GP 0 [] [.agg (encSite newSite)] (fun d os => d = .str siteT ∧ os = []) := by
  have hvs := c_impl_ValidSite newSite
  have hd : siteB newSite = true := by decide +kernel
  rw [hd] at hvs
  have h1 := c_impl_AngleText 11586 11 586 (by omega) (by omega) (by omega)
  have t1 : angT 11 586 = ang1 := by decide +kernel
  rw [t1] at h1
  have h2 := c_impl_AngleText 50930 50 930 (by omega) (by omega) (by omega)
  have t2 : angT 50 930 = ang2 := by decide +kernel
  rw [t2] at h2
  refine fn_rule Tryz.func103 rfl (by decide +kernel) rfl (fun w0 F0 lent β0 => ?_)
  repeat' (first | refine sC ?_ | ((with_reducible refine isAwp ?_); first | (refine sS ?_; intro Q' hn he hr) | refine sA ?_) | (refine sH ?_; clear hn he hr Q') | refine sO ?_ | ((conv => whnf); first | refine sK ?_ | (refine sB ?_; repeat' (first | refine sb0 ?_ | (refine sb2 ?_ ?_ <;> intro hb <;> try exact cls))) | (refine AskS.mk ⟨by decide, ?_⟩) | ((with_reducible refine isCall ?_); first | (refine call_pure (hvs.anyG) rfl rfl ?_) | (refine call_pure (h1) rfl rfl ?_) | (refine call_pure (h2) rfl rfl ?_)) | ((with_reducible refine isCallQ ?_); first | (refine callQ_pure (hvs.anyG) rfl rfl ?_) | (refine callQ_pure (h1) rfl rfl ?_) | (refine callQ_pure (h2) rfl rfl ?_)) | refine sP ?_ | (refine sE ?_; intro x hx) | (refine sF ?_; intro i y hi hy) | (refine sI ?_; intro i hi) | (refine sL ?_; intro hlen) | (refine sQ ?_; intro c hc hcm; try simp only [lnM, lnA, lnC, lnN] at hc) | (refine sX ?_; intro i1 i2 hi1 hi2 hj1 hj2; try simp only [cutL, lnM, lnA, lnC, lnN, lnT, lnD, lnR] at hi1 hi2 hj2) | refine sD ?_ | (refine ret_pick [] rfl rfl rfl ⟨?_, rfl⟩; conv => lhs; whnf) | (refine ret_pick [0] rfl rfl rfl ⟨rfl, ?_⟩) | (refine sH ?_; clear hn he hr Q')))
  all_goals first | rfl | trace_state
theorem c_impl_ReadSite (e1 e2 : Value) : FnC Tryz.prog 26 (GE e1 e2) 0 [] [.str siteT] (fun d os => d = .tup [.agg (encSite newSite), .bool true] ∧ os = []) := by
  have hsw := c_impl_SplitWords siteT (by decide) [[106, 101, 110, 97], ang1, ang2] (by decide +kernel) (by decide)
  have hfi : ([[106, 101, 110, 97], ang1, ang2].filter fun p => decide (p ≠ [])) = [[106, 101, 110, 97], ang1, ang2] := by decide
  rw [hfi] at hsw
  have h1 := c_impl_ReadAngle e1 e2 ang1 2 11586 11 586 (by decide +kernel) rfl (by decide) (by decide +kernel) (by omega) (by omega) (by omega) (by decide +kernel)
  have h2 := c_impl_ReadAngle e1 e2 ang2 2 50930 50 930 (by decide +kernel) rfl (by decide) (by decide +kernel) (by omega) (by omega) (by omega) (by decide +kernel)
  have hvs := c_impl_ValidSite newSite
  have hd : siteB newSite = true := by decide +kernel
  rw [hd] at hvs
  refine fn_rule Tryz.func26 rfl (by decide +kernel) rfl (fun w0 F0 lent β0 => ?_)
  repeat' (first | refine sC ?_ | ((with_reducible refine isAwp ?_); first | (refine sS ?_; intro Q' hn he hr) | refine sA ?_) | (refine sH ?_; clear hn he hr Q') | refine sO ?_ | ((conv => whnf); first | refine sK ?_ | (refine sB ?_; repeat' (first | refine sb0 ?_ | (refine sb2 ?_ ?_ <;> intro hb <;> try exact cls))) | (refine ElemS.the rfl ?_) | ((with_reducible refine isCall ?_); first | (refine call_mk hsw.anyG rfl (by first | exact (rfl : _ = 0) | exact (rfl : _ = 1) | exact (rfl : _ = 2) | exact (rfl : _ = 3) | exact (rfl : _ = 4) | exact (rfl : _ = 5) | exact (rfl : _ = 6) | exact (rfl : _ = 7) | exact (rfl : _ = 8) | exact (rfl : _ = 9) | exact (rfl : _ = 10) | exact (rfl : _ = 11) | exact (rfl : _ = 12) | exact (rfl : _ = 13) | exact (rfl : _ = 14) | exact (rfl : _ = 15) | exact (rfl : _ = 16) | exact (rfl : _ = 17) | exact (rfl : _ = 18) | exact (rfl : _ = 19) | exact (rfl : _ = 20) | exact (rfl : _ = 21) | exact (rfl : _ = 22) | exact (rfl : _ = 23) | exact (rfl : _ = 24) | exact (rfl : _ = 25) | exact (rfl : _ = 26) | exact (rfl : _ = 27) | exact (rfl : _ = 28) | exact (rfl : _ = 29) | exact (rfl : _ = 30) | exact (rfl : _ = 31) | exact (rfl : _ = 32) | exact (rfl : _ = 33) | exact (rfl : _ = 34) | exact (rfl : _ = 35) | exact (rfl : _ = 36) | exact (rfl : _ = 37) | exact (rfl : _ = 38) | exact (rfl : _ = 39)) ?_) | (refine call_pure (h1) rfl rfl ?_) | (refine call_pure (h2) rfl rfl ?_) | (refine call_pure (hvs.anyG) rfl rfl ?_) | (refine call_pure (c_impl_SiteText.atE e1 e2) rfl rfl ?_)) | ((with_reducible refine isCallQ ?_); first | (refine callQ_pure (h1) rfl rfl ?_) | (refine callQ_pure (h2) rfl rfl ?_) | (refine callQ_pure (hvs.anyG) rfl rfl ?_) | (refine callQ_pure (c_impl_SiteText.atE e1 e2) rfl rfl ?_)) | refine sP ?_ | (refine sE ?_; intro x hx) | (refine sF ?_; intro i y hi hy) | (refine sI ?_; intro i hi) | (refine sL ?_; intro hlen) | (refine sQ ?_; intro c hc hcm; try simp only [lnM, lnA, lnC, lnN] at hc) | (refine sX ?_; intro i1 i2 hi1 hi2 hj1 hj2; try simp only [cutL, lnM, lnA, lnC, lnN, lnT, lnD, lnR] at hi1 hi2 hj2) | refine sD ?_ | (refine ret_pick [] rfl rfl rfl ⟨?_, rfl⟩; conv => lhs; whnf) | (refine ret_pick [0] rfl rfl rfl ⟨rfl, ?_⟩) | (refine sH ?_; clear hn he hr Q')))
  all_goals first | rfl | trace_state
theorem c_impl_NewDesk (e1 e2 : Value) (hif : isIfc e1) : FnC Tryz.prog 7 (GE e1 e2) 0 [] [] (fun d os => d = .agg (encDesk newDesk) ∧ os = []) := by
  refine fn_rule Tryz.func7 rfl (by decide +kernel) rfl (fun w0 F0 lent β0 => ?_)
  repeat' (first | refine sC ?_ | ((with_reducible refine isAwp ?_); first | (refine sS ?_; intro Q' hn he hr) | refine sA ?_) | (refine sH ?_; clear hn he hr Q') | refine sO ?_ | ((conv => whnf); first | refine sK ?_ | (refine sB ?_; repeat' (first | refine sb0 ?_ | (refine sb2 ?_ ?_ <;> intro hb <;> try exact cls))) | ((with_reducible refine isCall ?_); first | (refine call_pure (c_impl_ReadDome e1 e2 hif) rfl rfl ?_) | (refine call_pure (c_impl_ReadSite e1 e2) rfl rfl ?_)) | ((with_reducible refine isCallQ ?_); first | (refine callQ_pure (c_impl_ReadDome e1 e2 hif) rfl rfl ?_) | (refine callQ_pure (c_impl_ReadSite e1 e2) rfl rfl ?_)) | ((with_reducible refine isRet ?_); first | (refine ret_nils (ds' := encDesk newDesk) (by (repeat' (first | exact trivial | refine And.intro (.inl rfl) ?_ | refine And.intro (.inr ⟨rfl, _, rfl⟩) ?_))) ?_; refine ret_pick [] rfl rfl rfl ⟨rfl, rfl⟩)) | refine sP ?_ | (refine sE ?_; intro x hx) | (refine sF ?_; intro i y hi hy) | (refine sI ?_; intro i hi) | (refine sL ?_; intro hlen) | (refine sQ ?_; intro c hc hcm; try simp only [lnM, lnA, lnC, lnN] at hc) | (refine sX ?_; intro i1 i2 hi1 hi2 hj1 hj2; try simp only [cutL, lnM, lnA, lnC, lnN, lnT, lnD, lnR] at hi1 hi2 hj2) | refine sD ?_ | (refine ret_pick [] rfl rfl rfl ⟨?_, rfl⟩; conv => lhs; whnf) | (refine ret_pick [0] rfl rfl rfl ⟨rfl, ?_⟩) | (refine sH ?_; clear hn he hr Q')))
  all_goals trace_state
end Go.Eng
